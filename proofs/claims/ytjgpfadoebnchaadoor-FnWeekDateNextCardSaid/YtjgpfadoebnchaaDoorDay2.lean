/-
  Contracts: the number of the day of a date, the date of a day, by the program and by the reference. Conditions: as each states.
-/
import Derived.Test.YtjgpfadoebnchaaDoorDay
namespace Go.Proofs.YtjgpfadoebnchaaDoor
open Go.RowKit Go.PlainAid
set_option linter.unusedVariables false

theorem DayNumber_i_yes (y m d : Int) (w : World) (hT : Tab w) (h : Cal.Ok y m d) : Calls Tryd.prog 29 #[.agg #[.int .i64 y, .int .i64 m, .int .i64 d]] w fun e w' => e = .returned (.int .i64 (Cal.num y m d)) ∧ Below w.heap.size w w' := by
  have HT := Lib.hid (hT.alloc (.cells #[.int .i64 y, .int .i64 m, .int .i64 d] 25))
  have HO := Lib.hid h
  clear hT h
  go_enter Tryd.func29, Tryd.ntmps29
  go_wp2_with fail
  refine (DateValid_i_yes _ _ _ _ HT.out HO.out).mono ?_
  rintro e w2 ⟨rfl, hb2⟩
  obtain ⟨d0, d1, d2⟩ := agg3_keep hb2
  go_wp2_with fail
  refine (number_any _ _ _ _ (HT.out.below hb2) HO.out).mono ?_
  rintro e w3 ⟨rfl, hb3⟩
  go_wp2_with fail
  go_ret
  exact ⟨rfl, below_alloc (below2 hb2 hb3)⟩
theorem DayNumber_i_no (y m d : Int) (w : World) (hT : Tab w) (h : ¬ Cal.Ok y m d) : Calls Tryd.prog 29 #[.agg #[.int .i64 y, .int .i64 m, .int .i64 d]] w fun e w' => e = .returned (.int .i64 (-1)) ∧ Below w.heap.size w w' := by
  have HT := Lib.hid (hT.alloc (.cells #[.int .i64 y, .int .i64 m, .int .i64 d] 25))
  have HO := Lib.hid h
  clear hT h
  go_enter Tryd.func29, Tryd.ntmps29
  go_wp2_with fail
  refine (DateValid_i_no _ _ _ _ HT.out HO.out).mono ?_
  rintro e w2 ⟨rfl, hb2⟩
  go_wp2_with fail
  go_ret
  exact ⟨rfl, below_alloc hb2⟩
theorem l2Months_any (y m : Int) (w : World) (h1 : 1 ≤ y) (h2 : y ≤ 9999) (h3 : 1 ≤ m) (h4 : m ≤ 13) : Calls Tryd.prog 54 #[.int .i64 y, .int .i64 m] w fun e w' => e = .returned (.int .i64 (Cal.cum y m)) ∧ Below w.heap.size w w' := by
  go_enter Tryd.func54, Tryd.ntmps54
  go_wp2
  go_loopw [5, 6] (fun n k wr => ∃ kk : Int, 1 ≤ kk ∧ kk ≤ m ∧ k = .int .i64 kk ∧ n = .int .i64 (Cal.cum y kk) ∧ Below w.heap.size w wr) (fun _ k _ => (m - intOf k).toNat)
  case atStart => exact ⟨1, by omega, h3, rfl, rfl, Below.refl _ _⟩
  case round =>
    obtain ⟨kk, k1, k2, rfl, rfl, hbr⟩ := hrel
    have cb := Cal.cum_bd y k1 (by omega)
    by_cases hk : kk < m
    · have mb := Cal.md_bd y k1 (by omega)
      have HC := Lib.hid (Cal.cum_succ y k1 (by omega))
      have HM := Lib.hid (show MonOk y kk from ⟨h1, h2, k1, by omega⟩)
      go_wp2_with (first | (go_at_call 52; refine (MonthDays_s_yes y kk _ HM.out).mono ?_; rintro e w5 ⟨rfl, hb5⟩))
      go_roundw
      case rel => exact ⟨kk + 1, by omega, by omega, rfl, by rw [HC.out], below2 hbr hb5⟩
      case measure => simp [intOf]; omega
    · obtain rfl : kk = m := by omega
      go_wp2
      go_ret
      exact ⟨rfl, hbr⟩
theorem DayNumber_s_yes (y m d : Int) (w : World) (h : Cal.Ok y m d) : Calls Tryd.prog 35 #[.agg #[.int .i64 y, .int .i64 m, .int .i64 d]] w fun e w' => e = .returned (.int .i64 (Cal.num y m d)) ∧ Below w.heap.size w w' := by
  have HO := Lib.hid h
  obtain ⟨h1, h2, h3, h4, h5, h6⟩ := h
  have nb := Cal.ny_bd (y := y) h1 (by omega)
  have cb := Cal.cum_bd y h3 (by omega)
  have mb := Cal.md_bd y h3 h4
  have hd : d ≤ 31 := by omega
  have HN := Lib.hid (show Cal.ny y + Cal.cum y m + d - 1 = Cal.num y m d from rfl)
  clear h6 mb
  go_enter Tryd.func35, Tryd.ntmps35
  go_wp2_with fail
  refine (DateValid_s_yes _ _ _ _ HO.out).mono ?_
  rintro e w2 ⟨rfl, hb2⟩
  obtain ⟨d0, d1, d2⟩ := agg3_keep hb2
  have HS : Hid (w2.cell? ⟨w.heap.size, 0, none⟩ = some (.int .i64 y) ∧ w2.cell? ⟨w.heap.size, 1, none⟩ = some (.int .i64 m) ∧ w2.cell? ⟨w.heap.size, 2, none⟩ = some (.int .i64 d) ∧ Below w.heap.size w w2) := ⟨d0, d1, d2, below_alloc hb2⟩
  clear hb2
  go_wp2_with fail
  go_region_held3 (fun w' => w'.cell? ⟨w.heap.size, 0, none⟩ = some (.int .i64 y) ∧ w'.cell? ⟨w.heap.size, 1, none⟩ = some (.int .i64 m) ∧ w'.cell? ⟨w.heap.size, 2, none⟩ = some (.int .i64 d) ∧ Below w.heap.size w w') (first | exact HS.out | exact keep3_drew HS.out | exact keep3 hb (keep3_drew HS.out)) (first | (go_at_call 53; refine (l2Years_any y _ h1 (by omega)).mono ?_; rintro e w1 ⟨rfl, rfl⟩) | (go_at_call 54; refine (l2Months_any y m _ h1 h2 h3 (by omega)).mono ?_; rintro e w1 ⟨rfl, hb⟩))
  go_wp2
  go_ret
  exact ⟨ret_int (by rw [IntWalk.i64_in (Cal.ny y + Cal.cum y m) ⟨by omega, by omega⟩, IntWalk.i64_in (Cal.ny y + Cal.cum y m + d) ⟨by omega, by omega⟩, IntWalk.i64_in _ ⟨by omega, by omega⟩]; exact HN.out), (keep3 hb (keep3_drew HS.out)).2.2.2⟩
theorem DayNumber_s_no (y m d : Int) (w : World) (h : ¬ Cal.Ok y m d) : Calls Tryd.prog 35 #[.agg #[.int .i64 y, .int .i64 m, .int .i64 d]] w fun e w' => e = .returned (.int .i64 (-1)) ∧ Below w.heap.size w w' := by
  have HO := Lib.hid h
  clear h
  go_enter Tryd.func35, Tryd.ntmps35
  go_wp2_with fail
  refine (DateValid_s_no _ _ _ _ HO.out).mono ?_
  rintro e w2 ⟨rfl, hb2⟩
  go_wp2_with fail
  go_ret
  exact ⟨rfl, below_alloc hb2⟩
theorem DateOf_i_no (n : Int) (w : World) (h : n < 0 ∨ 3652058 < n) : Calls Tryd.prog 30 #[.int .i64 n] w fun e w' => e = .returned (.tuple #[.agg #[.int .i64 0, .int .i64 0, .int .i64 0], .bool false]) ∧ Below w.heap.size w w' := by
  go_enter Tryd.func30, Tryd.ntmps30
  go_wp2_with (first | (go_at_call 42; refine (within_no _ _ _ _ h).mono ?_; rintro e w' ⟨rfl, rfl⟩))
  refine bodyPost_ret (v := .tuple #[.agg #[.int .i64 0, .int .i64 0, .int .i64 0], .bool false]) (by simp [results, Tryd.results30, go_sem]) rfl ⟨rfl, ?_⟩
  go_grown
theorem DateOf_i_yes (n : Int) (w : World) (hT : Tab w) (h0 : 0 ≤ n) (h1 : n ≤ 3652058) : Calls Tryd.prog 30 #[.int .i64 n] w fun e w' => e = .returned (.tuple #[.agg #[.int .i64 (Cal.yo n), .int .i64 (Cal.mo n), .int .i64 (Cal.dd n)], .bool true]) ∧ Below w.heap.size w w' := by
  have HT := Lib.hid (hT.alloc (.cells #[.int .i64 0, .int .i64 0, .int .i64 0] 25))
  clear hT
  go_enter Tryd.func30, Tryd.ntmps30
  go_wp2_with (first | (go_at_call 42; refine (within_yes _ _ _ _ h0 h1).mono ?_; rintro e w' ⟨rfl, rfl⟩) | fail)
  refine (dateAt_any n _ HT.out h0 h1).mono ?_
  rintro e w2 ⟨rfl, hb2⟩
  obtain ⟨d0, d1, d2⟩ := agg3_keep hb2
  have f0 := (hb2.frozen (p := ⟨w.heap.size, 0, none⟩) (by simp)).trans (show _ = false by simp)
  have f1 := (hb2.frozen (p := ⟨w.heap.size, 1, none⟩) (by simp)).trans (show _ = false by simp)
  have f2 := (hb2.frozen (p := ⟨w.heap.size, 2, none⟩) (by simp)).trans (show _ = false by simp)
  have HB := Lib.hid (below_alloc hb2)
  clear hb2
  go_wp2
  refine bodyPost_ret (v := .tuple #[.agg #[.int .i64 (Cal.yo n), .int .i64 (Cal.mo n), .int .i64 (Cal.dd n)], .bool true]) (by simp [results, Tryd.results30, go_sem, d0, d1, d2]) rfl ⟨rfl, ?_⟩
  exact ((HB.out.setCell (by exact Nat.le_refl _) _).setCell (by exact Nat.le_refl _) _).setCell (by exact Nat.le_refl _) _
end Go.Proofs.YtjgpfadoebnchaaDoor
