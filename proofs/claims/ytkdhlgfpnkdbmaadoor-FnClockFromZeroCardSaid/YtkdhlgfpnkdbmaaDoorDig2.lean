/-
  Contracts of the functions that write digits. Conditions: as each states.
-/
import Derived.Test.YtkdhlgfpnkdbmaaDoorDig
import Derived.Laws.IdiomStrings
import Derived.Laws.Concat
namespace Go.Proofs.YtkdhlgfpnkdbmaaDoor
open Go.RowKit Go.PlainAid
set_option linter.unusedVariables false

theorem cat_law {P : Program} (A B : List UInt8) (h : A.length + B.length ≤ 1000000) (w : World) : (Op.stringOp .add (bs A) (bs B)).run P w = .ok (.string (bs (A ++ B))) w := by
  rw [run_string_add_sum _ _ _ (by rw [bs_size, bs_size]; omega), bs_app]

theorem l1Power_any (N : Nat) (w : World) (h : N ≤ 6) : Calls Tryd.prog 52 #[.int .i64 (N : Int)] w fun e w' => e = .returned (.int .i64 (p10 N)) ∧ w = w' := by
  go_enter Tryd.func52, Tryd.ntmps52
  go_wp2
  go_loop [3, 4] (fun t i => ∃ k : Nat, k ≤ N ∧ i = .int .i64 (k : Int) ∧ t = .int .i64 (p10 k)) (fun _ i => N - (intOf i).toNat)
  case atStart => exact ⟨0, Nat.zero_le _, rfl, rfl⟩
  case round =>
    obtain ⟨k, hk, rfl, rfl⟩ := hrel
    by_cases hlt : k < N
    · have h1 := p10_le (m := k) (by omega)
      have h2 := p10_pos k
      go_wp2
      go_round
      case rel => exact ⟨k + 1, by omega, by go_num, by rw [p10]; go_num⟩
      case measure => simp [intOf]; omega
    · obtain rfl : k = N := by omega
      go_wp2
      go_ret
      exact ⟨rfl, rfl⟩
set_option maxRecDepth 100000 in
theorem l6Dec_small (x : Int) (w : World) (h0 : 0 ≤ x) (h1 : x < 10) : Calls Tryd.prog 56 #[.int .i64 x] w fun e w' => e = .returned (.string (bs [dgI x])) ∧ Below w.heap.size w w' := by
  obtain ⟨N, rfl⟩ := Int.eq_ofNat_of_zero_le h0
  have h : N < 10 := by omega
  rw [show dgI (N : Int) = dg N from rfl]
  have hd := dg_toNat h
  have hcv : (convert 22 9 (.slice (some ⟨w.heap.size, 0, none⟩) 1 1)).run Tryd.prog (w.alloc (.cells #[.int .u8 (48 + (N : Int))] 5)) = .ok (.string (bs [dg N])) (w.alloc (.cells #[.int .u8 (48 + (N : Int))] 5)) :=
    run_convert_bytes_back (P := Tryd.prog) (w.alloc (.cells #[.int .u8 (48 + (N : Int))] 5)) 22 9 5 ⟨w.heap.size, 0, none⟩ 1 [dg N] Tryd.underlying22 Tryd.underlying5 Tryd.underlying9 (fun j hj => by
      obtain rfl : j = 0 := by simpa using hj
      simp [Addr.add, hd])
  clear hd
  go_enter Tryd.func56, Tryd.ntmps56
  go_wp2_with fail
  go_ret
  exact ⟨rfl, (Below.refl _ _).alloc (Nat.le_refl _) _⟩
set_option maxHeartbeats 400000 in
theorem l1Put_any (n many : Nat) (w : World) (hn : n ≤ 999999) (hm : many ≤ 6) : Calls Tryd.prog 45 #[.int .i64 (n : Int), .int .i64 (many : Int)] w fun e w' => e = .returned (.string (bs (digL n many))) ∧ Below w.heap.size w w' := by
  go_enter Tryd.func45, Tryd.ntmps45
  go_wp2
  go_loopw [5, 6] (fun o i wr => ∃ k : Nat, k ≤ many ∧ i = .int .i64 ((k : Int) - 1) ∧ o = .string (bs (digL (n / 10 ^ k) (many - k))) ∧ Below w.heap.size w wr) (fun _ i _ => (intOf i + 1).toNat)
  case atStart => exact ⟨many, Nat.le_refl _, rfl, by rw [Nat.sub_self]; rfl, Below.refl _ _⟩
  case round =>
    obtain ⟨k, hk, rfl, rfl, hb⟩ := hrel
    by_cases hlt : 0 < k
    · obtain ⟨i, rfl⟩ : ∃ i, k = i + 1 := ⟨k - 1, by omega⟩
      have h1 := p10_le (m := i) (by omega)
      have h2 := p10_pos i
      have hq0 : 0 ≤ (n : Int) / p10 i := Int.ediv_nonneg (by omega) (by omega)
      have hq1 : (n : Int) / p10 i ≤ 999999 := Int.le_trans (Int.ediv_le_self _ (by omega)) (by omega)
      have hc : ((i + 1 : Nat) : Int) - 1 = (i : Int) := by omega
      have hst := digL_step n i (many - (i + 1))
      have hst2 : many - (i + 1) + 1 = many - i := by omega
      rw [hst2] at hst
      rw [show dg (n / 10 ^ i % 10) = dgI ((n : Int) / p10 i % 10) from by unfold dgI; rw [int_div_p10]; rfl] at hst
      have HST := Lib.hid hst
      clear hst hst2
      have hlen := digL_length (many - (i + 1)) (n / 10 ^ (i + 1))
      have hadd := cat_law (P := Tryd.prog) (digL (n / 10 ^ (i + 1)) (many - (i + 1))) [dgI ((n : Int) / p10 i % 10)] (by rw [hlen]; simp; omega)
      clear hlen
      go_wp2_with (first
        | (go_at_call 52; refine (l1Power_any i _ (by omega)).mono ?_; rintro e w' ⟨rfl, rfl⟩)
        | (go_at_call 56; refine (l6Dec_small _ _ (by omega) (by omega)).mono ?_; rintro e w1 ⟨rfl, hb1⟩))
      go_roundw
      case rel => exact ⟨i, by omega, by go_num, by rw [HST.out], hb.trans (hb1.mono (hb.size))⟩
      case measure => simp [intOf]
    · obtain rfl : k = 0 := by omega
      go_wp2
      go_ret
      exact ⟨by simp, hb⟩
end Go.Proofs.YtkdhlgfpnkdbmaaDoor
