/-
  Contracts of the functions on digits: what each returns, and that it leaves memory alone. Conditions: as each states.
-/
import Derived.Test.YtkdhlgfpnkdbmaaDoorBase
import Derived.Test.YtkdhlgfpnkdbmaaDoorProg
namespace Go.Proofs.YtkdhlgfpnkdbmaaDoor
open Go.RowKit Go.PlainAid
set_option linter.unusedVariables false

theorem ret_int {k : IntKind} {a b : Int} (h : a = b) : Ending.returned (.int k a) = .returned (.int k b) := by rw [h]

theorem isDigit_yes (n : Int) (w : World) (h1 : 48 ≤ n) (h2 : n ≤ 57) : Calls Tryd.prog 47 #[.int .u8 n] w fun e w' => e = .returned (.bool true) ∧ w = w' := by
  go_enter Tryd.func47, Tryd.ntmps47
  go_wp2
  go_ret
  exact ⟨rfl, rfl⟩
theorem isDigit_no (n : Int) (w : World) (h : n < 48 ∨ 57 < n) : Calls Tryd.prog 47 #[.int .u8 n] w fun e w' => e = .returned (.bool false) ∧ w = w' := by
  rcases h with h | h
  · go_enter Tryd.func47, Tryd.ntmps47
    go_wp2
    go_ret
    exact ⟨rfl, rfl⟩
  · have h1 : ¬ n < 48 := by omega
    have q : decide (n ≤ 57) = false := decide_eq_false (by omega)
    go_enter Tryd.func47, Tryd.ntmps47
    go_wp2
    go_ret
    exact ⟨rfl, rfl⟩
theorem within_yes (n a b : Int) (w : World) (h1 : a ≤ n) (h2 : n ≤ b) : Calls Tryd.prog 29 #[.int .i64 n, .int .i64 a, .int .i64 b] w fun e w' => e = .returned (.bool true) ∧ w = w' := by
  go_enter Tryd.func29, Tryd.ntmps29
  go_wp2
  go_ret
  exact ⟨rfl, rfl⟩
theorem within_no (n a b : Int) (w : World) (h : n < a ∨ b < n) : Calls Tryd.prog 29 #[.int .i64 n, .int .i64 a, .int .i64 b] w fun e w' => e = .returned (.bool false) ∧ w = w' := by
  by_cases h1 : n < a
  · go_enter Tryd.func29, Tryd.ntmps29
    go_wp2
    go_ret
    exact ⟨rfl, rfl⟩
  · have h2 : b < n := by omega
    have q : decide (n ≤ b) = false := decide_eq_false (by omega)
    go_enter Tryd.func29, Tryd.ntmps29
    go_wp2
    go_ret
    exact ⟨rfl, rfl⟩
theorem l6In_yes (n a b : Int) (w : World) (h1 : a ≤ n) (h2 : n ≤ b) : Calls Tryd.prog 44 #[.int .i64 n, .int .i64 a, .int .i64 b] w fun e w' => e = .returned (.bool true) ∧ w = w' := by
  go_enter Tryd.func44, Tryd.ntmps44
  go_wp2
  go_ret
  exact ⟨rfl, rfl⟩
theorem l6In_no (n a b : Int) (w : World) (h : n < a ∨ b < n) : Calls Tryd.prog 44 #[.int .i64 n, .int .i64 a, .int .i64 b] w fun e w' => e = .returned (.bool false) ∧ w = w' := by
  by_cases h1 : n < a
  · go_enter Tryd.func44, Tryd.ntmps44
    go_wp2
    go_ret
    exact ⟨rfl, rfl⟩
  · have h2 : b < n := by omega
    have q : decide (n ≤ b) = false := decide_eq_false (by omega)
    go_enter Tryd.func44, Tryd.ntmps44
    go_wp2
    go_ret
    exact ⟨rfl, rfl⟩
theorem l1Digit_yes (s : ByteArray) (k : Nat) (w : World) (hs : s.size ≤ maxLen) (h : digAt s k) : Calls Tryd.prog 51 #[.string s, .int .i64 (k : Int)] w fun e w' => e = .returned (.bool true) ∧ w = w' := by
  have hlt := digAt_lt h
  unfold maxLen at hs
  obtain ⟨h1, h2⟩ := h
  have hb := get_bt s
  go_enter Tryd.func51, Tryd.ntmps51
  go_wp2_with (go_at_call 44; refine (l6In_yes _ _ _ _ (by omega) (by omega)).mono ?_; rintro e w' ⟨rfl, rfl⟩)
  go_ret
  exact ⟨rfl, rfl⟩
theorem l1Digit_out (s : ByteArray) (a : Int) (w : World) (hs : s.size ≤ maxLen) (h : a < 0 ∨ (s.size : Int) ≤ a) : Calls Tryd.prog 51 #[.string s, .int .i64 a] w fun e w' => e = .returned (.bool false) ∧ w = w' := by
  unfold maxLen at hs
  have h' : a < 0 ∨ (s.size : Int) - 1 < a := by omega
  go_enter Tryd.func51, Tryd.ntmps51
  go_wp2_with (go_at_call 44; refine (l6In_no _ _ _ _ h').mono ?_; rintro e w' ⟨rfl, rfl⟩)
  go_ret
  exact ⟨rfl, rfl⟩
theorem l1Digit_in (s : ByteArray) (k : Nat) (w : World) (hs : s.size ≤ maxLen) (hlt : k < s.size) (h : bt s k < 48 ∨ 57 < bt s k) : Calls Tryd.prog 51 #[.string s, .int .i64 (k : Int)] w fun e w' => e = .returned (.bool false) ∧ w = w' := by
  unfold maxLen at hs
  have hb := get_bt s
  by_cases h1 : bt s k < 48
  · clear h
    go_enter Tryd.func51, Tryd.ntmps51
    go_wp2_with (go_at_call 44; refine (l6In_yes _ _ _ _ (by omega) (by omega)).mono ?_; rintro e w' ⟨rfl, rfl⟩)
    go_ret
    exact ⟨rfl, rfl⟩
  · have h2 : 57 < bt s k := by omega
    have h3 : 48 ≤ bt s k := by omega
    have q : decide (bt s k ≤ 57) = false := decide_eq_false (by omega)
    clear h h1
    go_enter Tryd.func51, Tryd.ntmps51
    go_wp2_with (go_at_call 44; refine (l6In_yes _ _ _ _ (by omega) (by omega)).mono ?_; rintro e w' ⟨rfl, rfl⟩)
    go_ret
    exact ⟨rfl, rfl⟩
theorem l1Digit_no (s : ByteArray) (a : Int) (w : World) (hs : s.size ≤ maxLen) (h : ¬ (0 ≤ a ∧ digAt s a.toNat)) : Calls Tryd.prog 51 #[.string s, .int .i64 a] w fun e w' => e = .returned (.bool false) ∧ w = w' := by
  by_cases h1 : a < 0 ∨ (s.size : Int) ≤ a
  · exact l1Digit_out s a w hs h1
  · obtain ⟨k, rfl⟩ : ∃ k : Nat, a = (k : Int) := ⟨a.toNat, by omega⟩
    refine l1Digit_in s k w hs (by omega) ?_
    unfold digAt at h
    simp only [Int.toNat_natCast] at h
    omega
theorem l1Digit_noN (s : ByteArray) (k : Nat) (w : World) (hs : s.size ≤ maxLen) (h : ¬ digAt s k) : Calls Tryd.prog 51 #[.string s, .int .i64 (k : Int)] w fun e w' => e = .returned (.bool false) ∧ w = w' :=
  l1Digit_no s k w hs (fun hh => h (by have := hh.2; rwa [Int.toNat_natCast] at this))
set_option maxHeartbeats 400000 in
theorem run_any (b : Nat) (s : ByteArray) (a : Int) (w : World) (hs : s.size ≤ maxLen) (ha : -9223372036854775808 ≤ a) (ha2 : a ≤ 9223372036854775807) (hc0 : w.cell? ⟨b, 0, none⟩ = some (.string s)) (hc1 : w.cell? ⟨b, 1, none⟩ = some (.int .i64 a)) :
    Calls Tryd.prog 32 #[.pointer (some ⟨b, 0, none⟩)] w fun e w' => e = .returned (.int .i64 (runI s a : Nat)) ∧ w = w' := by
  unfold maxLen at hs
  have hle := runI_le s a
  have hb := get_bt s
  go_enter Tryd.func32, Tryd.ntmps32
  go_wp2
  by_cases hneg : a < 0
  · have hz : runI s a = 0 := by unfold runI; rw [if_neg (by omega)]
    have HZ := Lib.hid hz
    clear hz hle
    refine wp_loop_rounds 1 ?_
    rw [rounds_succ]
    go_wp2
    go_ret
    exact ⟨ret_int (by rw [HZ.out]; rfl), rfl⟩
  · obtain ⟨a0, rfl⟩ : ∃ a0 : Nat, a = (a0 : Int) := ⟨a.toNat, by omega⟩
    go_loop [3, 4] (fun m k => ∃ j : Nat, (m = .int .i64 (j : Int)) ∧ k = .int .i64 ((a0 + j : Nat) : Int) ∧ j + runN s (a0 + j) = runI s a0 ∧ (0 < j → a0 + j ≤ s.size)) (fun _ k => s.size - (intOf k).toNat)
    case atStart => exact ⟨0, by simp, by simp, by rw [runI_nat]; simp, by omega⟩
    case round =>
      obtain ⟨j, rfl, rfl, hj, hin⟩ := hrel
      have HJ := Lib.hid hj
      clear hj
      by_cases hd : digAt s (a0 + j)
      · have hlt := digAt_lt hd
        have hn := runN_yes hd
        have HN := Lib.hid hn
        clear hn
        obtain ⟨hd1, hd2⟩ := hd
        go_wp2_with (go_at_call 47; refine (isDigit_yes _ _ hd1 hd2).mono ?_; rintro e w' ⟨rfl, rfl⟩)
        go_round
        case rel => exact ⟨j + 1, by go_num, by go_num, by have := HJ.out; have := HN.out; rw [show a0 + (j + 1) = a0 + j + 1 from by omega]; omega, by omega⟩
        case measure => simp [intOf]; omega
      · have hn := runN_no hd
        have HN := Lib.hid hn
        clear hn
        unfold digAt at hd
        by_cases hlt : a0 + j < s.size
        · have hd' : bt s (a0 + j) < 48 ∨ 57 < bt s (a0 + j) := by omega
          clear hd
          go_wp2_with (go_at_call 47; refine (isDigit_no _ _ hd').mono ?_; rintro e w' ⟨rfl, rfl⟩)
          go_ret
          exact ⟨ret_int (by have := HJ.out; have := HN.out; omega), rfl⟩
        · clear hd
          go_wp2
          go_ret
          exact ⟨ret_int (by have := HJ.out; have := HN.out; omega), rfl⟩
end Go.Proofs.YtkdhlgfpnkdbmaaDoor
