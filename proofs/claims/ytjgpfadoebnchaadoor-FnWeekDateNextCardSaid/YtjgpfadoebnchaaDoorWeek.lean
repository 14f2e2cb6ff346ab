/-
  Contracts: the day of the week of a date. Conditions: as each states.
-/
import Derived.Test.YtjgpfadoebnchaaDoorDay2
import Derived.Test.YtjgpfadoebnchaaDoorWeekA
namespace Go.Proofs.YtjgpfadoebnchaaDoor
open Go.RowKit Go.PlainAid
set_option linter.unusedVariables false

theorem Weekday_i_yes (y m d : Int) (w : World) (hT : Tab w) (h : Cal.Ok y m d) : Calls Tryd.prog 17 #[.agg #[.int .i64 y, .int .i64 m, .int .i64 d]] w fun e w' => e = .returned (.int .i64 (Cal.wd (Cal.num y m d))) ∧ Below w.heap.size w w' := by
  have HT := Lib.hid (hT.alloc (.cells #[.int .i64 y, .int .i64 m, .int .i64 d] 25))
  have HO := Lib.hid h
  have hn := Cal.num_bd h
  clear hT h
  go_enter Tryd.func17, Tryd.ntmps17
  go_wp2_with fail
  refine (DateValid_i_yes _ _ _ _ HT.out HO.out).mono ?_
  rintro e w2 ⟨rfl, hb2⟩
  obtain ⟨d0, d1, d2⟩ := agg3_keep hb2
  go_wp2_with fail
  refine (number_any _ _ _ _ (HT.out.below hb2) HO.out).mono ?_
  rintro e w3 ⟨rfl, hb3⟩
  go_wp2_with fail
  refine (weekdayOf_any _ _ (by omega) (by omega)).mono ?_
  rintro e w4 ⟨rfl, rfl⟩
  go_wp2_with fail
  go_ret
  exact ⟨rfl, below_alloc (below2 hb2 hb3)⟩
theorem Weekday_i_no (y m d : Int) (w : World) (hT : Tab w) (h : ¬ Cal.Ok y m d) : Calls Tryd.prog 17 #[.agg #[.int .i64 y, .int .i64 m, .int .i64 d]] w fun e w' => e = .returned (.int .i64 0) ∧ Below w.heap.size w w' := by
  have HT := Lib.hid (hT.alloc (.cells #[.int .i64 y, .int .i64 m, .int .i64 d] 25))
  have HO := Lib.hid h
  clear hT h
  go_enter Tryd.func17, Tryd.ntmps17
  go_wp2_with fail
  refine (DateValid_i_no _ _ _ _ HT.out HO.out).mono ?_
  rintro e w2 ⟨rfl, hb2⟩
  go_wp2_with fail
  go_ret
  exact ⟨rfl, below_alloc hb2⟩
theorem Weekday_s_yes (y m d : Int) (w : World) (h : Cal.Ok y m d) : Calls Tryd.prog 15 #[.agg #[.int .i64 y, .int .i64 m, .int .i64 d]] w fun e w' => e = .returned (.int .i64 (Cal.wd (Cal.num y m d))) ∧ Below w.heap.size w w' := by
  have HO := Lib.hid h
  have hn := Cal.num_bd h
  clear h
  go_enter Tryd.func15, Tryd.ntmps15
  go_wp2_with fail
  refine (DateValid_s_yes _ _ _ _ HO.out).mono ?_
  rintro e w2 ⟨rfl, hb2⟩
  obtain ⟨d0, d1, d2⟩ := agg3_keep hb2
  go_wp2_with fail
  refine (DayNumber_s_yes _ _ _ _ HO.out).mono ?_
  rintro e w3 ⟨rfl, hb3⟩
  go_wp2_with fail
  go_ret
  exact ⟨rfl, below_alloc (below2 hb2 hb3)⟩
theorem Weekday_s_no (y m d : Int) (w : World) (h : ¬ Cal.Ok y m d) : Calls Tryd.prog 15 #[.agg #[.int .i64 y, .int .i64 m, .int .i64 d]] w fun e w' => e = .returned (.int .i64 0) ∧ Below w.heap.size w w' := by
  have HO := Lib.hid h
  clear h
  go_enter Tryd.func15, Tryd.ntmps15
  go_wp2_with fail
  refine (DateValid_s_no _ _ _ _ HO.out).mono ?_
  rintro e w2 ⟨rfl, hb2⟩
  go_wp2_with fail
  go_ret
  exact ⟨rfl, below_alloc hb2⟩
end Go.Proofs.YtjgpfadoebnchaaDoor
