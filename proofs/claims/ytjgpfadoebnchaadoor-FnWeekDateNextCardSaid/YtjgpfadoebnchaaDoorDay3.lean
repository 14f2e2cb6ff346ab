/-
  Contracts: the date of a day by the reference; days of a year. Conditions: as each states.
-/
import Derived.Test.YtjgpfadoebnchaaDoorDay2
namespace Go.Proofs.YtjgpfadoebnchaaDoor
open Go.RowKit Go.PlainAid
set_option linter.unusedVariables false

theorem res3_keep {w w2 : World} {T : TypeId} {a b c : Value} (hb : Below (w.alloc (.cells #[a, b, c] T)).heap.size (w.alloc (.cells #[a, b, c] T)) w2) :
    w2.cell? ⟨w.heap.size, 0, none⟩ = some a ∧ w2.cell? ⟨w.heap.size, 1, none⟩ = some b ∧ w2.cell? ⟨w.heap.size, 2, none⟩ = some c ∧
      w2.frozen? ⟨w.heap.size, 0, none⟩ = false ∧ w2.frozen? ⟨w.heap.size, 1, none⟩ = false ∧ w2.frozen? ⟨w.heap.size, 2, none⟩ = false :=
  ⟨(agg3_keep hb).1, (agg3_keep hb).2.1, (agg3_keep hb).2.2, (hb.frozen (by simp)).trans (by simp), (hb.frozen (by simp)).trans (by simp), (hb.frozen (by simp)).trans (by simp)⟩
theorem set3 {w w2 : World} (h : Below w.heap.size w w2) (a b c : Value) : Below w.heap.size w (((w2.setCell ⟨w.heap.size, 0, none⟩ a).setCell ⟨w.heap.size, 1, none⟩ b).setCell ⟨w.heap.size, 2, none⟩ c) :=
  ((h.setCell (by exact Nat.le_refl _) _).setCell (by exact Nat.le_refl _) _).setCell (by exact Nat.le_refl _) _
theorem DateOf_s_no (n : Int) (w : World) (h : n < 0 ∨ 3652058 < n) : Calls Tryd.prog 41 #[.int .i64 n] w fun e w' => e = .returned (.tuple #[.agg #[.int .i64 0, .int .i64 0, .int .i64 0], .bool false]) ∧ Below w.heap.size w w' := by
  go_enter Tryd.func41, Tryd.ntmps41
  go_wp2_with (first | (go_at_call 39; refine (l6In_no _ _ _ _ h).mono ?_; rintro e w' ⟨rfl, rfl⟩))
  refine bodyPost_ret (v := .tuple #[.agg #[.int .i64 0, .int .i64 0, .int .i64 0], .bool false]) (by simp [results, Tryd.results41, go_sem]) rfl ⟨rfl, ?_⟩
  go_grown
theorem tup_ret {y m d y' m' d' : Int} (h1 : y = y') (h2 : m = m') (h3 : d = d') : Ending.returned (.tuple #[.agg #[.int .i64 y, .int .i64 m, .int .i64 d], .bool true]) = .returned (.tuple #[.agg #[.int .i64 y', .int .i64 m', .int .i64 d'], .bool true]) := by rw [h1, h2, h3]
set_option maxHeartbeats 1600000 in
theorem DateOf_s_yes (n : Int) (w : World) (h0 : 0 ≤ n) (h1 : n ≤ 3652058) : Calls Tryd.prog 41 #[.int .i64 n] w fun e w' => e = .returned (.tuple #[.agg #[.int .i64 (Cal.yo n), .int .i64 (Cal.mo n), .int .i64 (Cal.dd n)], .bool true]) ∧ Below w.heap.size w w' := by
  have g0 := Cal.ny_guess h0
  go_enter Tryd.func41, Tryd.ntmps41
  go_wp2_with (first | (go_at_call 39; refine (l6In_yes _ _ _ _ h0 h1).mono ?_; rintro e w' ⟨rfl, rfl⟩))
  go_loop [4] (fun t => ∃ y : Int, 1 ≤ y ∧ y ≤ 9999 ∧ Cal.ny y ≤ n ∧ t = .int .i64 y) (fun t => (9999 - intOf t).toNat)
  case atStart => exact ⟨_, by omega, by omega, g0, rfl⟩
  case round =>
    obtain ⟨y, hy1, hy2, hy3, rfl⟩ := hrel
    clear g0
    by_cases hc : y < 9999 ∧ Cal.ny (y + 1) ≤ n
    · obtain ⟨hlt, hd⟩ := hc
      go_wp2_with (go_at_call 53; refine (l2Years_any _ _ (by omega) (by omega)).mono ?_; rintro e w' ⟨rfl, rfl⟩)
      go_round
      case rel => exact ⟨y + 1, by omega, by omega, hd, rfl⟩
      case measure => simp [intOf]; omega
    · have hz : n < Cal.ny (y + 1) := by
        by_cases e : y = 9999
        · rw [e]; show _ < Cal.ny 10000; rw [Cal.ny_end]; omega
        · omega
      have hb := Cal.ny_bd (y := y) hy1 (by omega)
      have HS := Lib.hid (Cal.ny_succ hy1)
      have hlp := Cal.lp_01 y
      have q : y < 9999 → decide (Cal.ny (y + 1) ≤ n) = false := fun _ => decide_eq_false (by omega)
      clear hc
      by_cases hlt : y < 9999
      all_goals
        go_wp2_with (go_at_call 53; refine (l2Years_any _ _ (by omega) (by omega)).mono ?_; rintro e w' ⟨rfl, rfl⟩)
        go_loopw [5] (fun t wr => ∃ m : Int, 1 ≤ m ∧ m ≤ 12 ∧ t = .int .i64 m ∧ Cal.ny y + Cal.cum y m ≤ n ∧ Below (w.alloc (.cells #[.int .i64 0, .int .i64 0, .int .i64 0] 25)).heap.size (w.alloc (.cells #[.int .i64 0, .int .i64 0, .int .i64 0] 25)) wr) (fun t _ => (12 - intOf t).toNat)
        case atStart => exact ⟨1, by omega, by omega, rfl, by rw [Cal.cum_one]; omega, Below.refl _ _⟩
        case round =>
          obtain ⟨m, hm1, hm2, rfl, hm3, hbr⟩ := hrel
          have cb := Cal.cum_bd y hm1 (by omega)
          have mb := Cal.md_bd y hm1 hm2
          have hcs := Cal.cum_succ y hm1 hm2
          by_cases hc : m < 12 ∧ Cal.ny y + Cal.cum y (m + 1) ≤ n
          · obtain ⟨hm, hd⟩ := hc
            have hd2 : 0 ≤ Cal.cum y (m + 1) ∧ Cal.cum y (m + 1) ≤ 500 := by omega
            clear hcs
            go_wp2_with (first | (go_at_call 53; refine (l2Years_any _ _ (by omega) (by omega)).mono ?_; rintro e w' ⟨rfl, rfl⟩) | (go_at_call 54; refine (l2Months_any y (m + 1) _ hy1 hy2 (by omega) (by omega)).mono ?_; rintro e w5 ⟨rfl, hb5⟩))
            go_roundw
            case rel => exact ⟨m + 1, by omega, by omega, rfl, hd, below2 hbr hb5⟩
            case measure => simp [intOf]; omega
          · have hv : n - Cal.ny y - Cal.cum y m + 1 ≤ Cal.md y m := by
              by_cases e : m = 12
              · have h12 := cum_last y
                have := HS.out
                rw [e]
                omega
              · omega
            have hd2 : 0 ≤ Cal.cum y (m + 1) ∧ Cal.cum y (m + 1) ≤ 500 := by omega
            have q5 : m < 12 → decide (Cal.ny y + Cal.cum y (m + 1) ≤ n) = false := fun _ => decide_eq_false (by omega)
            have HOk := Lib.hid (show Cal.Ok y m (n - Cal.ny y - Cal.cum y m + 1) from ⟨hy1, hy2, hm1, hm2, by omega, hv⟩)
            have HNum := Lib.hid (show Cal.num y m (n - Cal.ny y - Cal.cum y m + 1) = n from by unfold Cal.num; omega)
            clear hcs hc
            by_cases hm : m < 12
            · go_wp2_with (first | (go_at_call 53; refine (l2Years_any _ _ (by omega) (by omega)).mono ?_; rintro e w' ⟨rfl, rfl⟩) | (go_at_call 54; ((with_reducible refine (l2Months_any y (m + 1) _ hy1 hy2 (by omega) (by omega)).mono ?_); rintro e w5 ⟨rfl, hb5⟩)) | (go_at_call 54; ((with_reducible refine (l2Months_any y m _ hy1 hy2 (by omega) (by omega)).mono ?_); rintro e w6 ⟨rfl, hb6⟩; obtain ⟨d0, d1, d2, f0, f1, f2⟩ := res3_keep (below2 (below2 hbr hb5) hb6))))
              refine bodyPost_ret (v := .tuple #[.agg #[.int .i64 y, .int .i64 m, .int .i64 (n - Cal.ny y - Cal.cum y m + 1)], .bool true]) (by simp [results, Tryd.results41, go_sem, d0, d1, d2]) rfl ⟨?_, set3 (below_alloc (below2 (below2 hbr hb5) hb6)) _ _ _⟩
              have hd := Cal.dt_num HOk.out
              rw [HNum.out] at hd
              exact tup_ret hd.1.symm hd.2.1.symm hd.2.2.symm
            · go_wp2_with (first | (go_at_call 53; refine (l2Years_any _ _ (by omega) (by omega)).mono ?_; rintro e w' ⟨rfl, rfl⟩) | (go_at_call 54; ((with_reducible refine (l2Months_any y m _ hy1 hy2 (by omega) (by omega)).mono ?_); rintro e w6 ⟨rfl, hb6⟩; obtain ⟨d0, d1, d2, f0, f1, f2⟩ := res3_keep (below2 hbr hb6))))
              refine bodyPost_ret (v := .tuple #[.agg #[.int .i64 y, .int .i64 m, .int .i64 (n - Cal.ny y - Cal.cum y m + 1)], .bool true]) (by simp [results, Tryd.results41, go_sem, d0, d1, d2]) rfl ⟨?_, set3 (below_alloc (below2 hbr hb6)) _ _ _⟩
              have hd := Cal.dt_num HOk.out
              rw [HNum.out] at hd
              exact tup_ret hd.1.symm hd.2.1.symm hd.2.2.symm
end Go.Proofs.YtjgpfadoebnchaaDoor
