/-
  The walks of the exact laws on days: each returns true, and nothing that was there is written. Conditions: the table of the months reads as listed.
-/
import Derived.Test.YtdpjhgkiccmnoaaDoorDay4
namespace Go.Proofs.YtdpjhgkiccmnoaaDoor
open Go.RowKit Go.PlainAid
set_option linter.unusedVariables false

theorem walk_ExactDayNumber (y m d : Int) (w : World) (h0 : (Lit.int .i64 y).wf = true) (h1 : (Lit.int .i64 m).wf = true) (h2 : (Lit.int .i64 d).wf = true) (hT : Tab w) : Calls Tryd.prog 3 #[.agg #[.int .i64 y, .int .i64 m, .int .i64 d]] w fun e w' => e = .returned (.bool true) ∧ Below w.heap.size w w' := by
  clear h0 h1 h2
  have HT := Lib.hid hT
  clear hT
  go_enter Tryd.func3, Tryd.ntmps3
  go_wp2_with fail
  refine (toDate_any _ _ _ _).mono ?_
  rintro e w1 ⟨rfl, hb1⟩
  go_wp2_with fail
  by_cases hok : Cal.Ok y m d
  · have HO := Lib.hid hok
    clear hok
    refine (DayNumber_s_yes _ _ _ _ HO.out).mono ?_
    rintro e w2 ⟨rfl, hb2⟩
    have hB := below2 hb1 hb2
    obtain ⟨d0, d1, d2⟩ := agg3_keep hB
    clear hb1 hb2
    go_wp2_with fail
    refine (toDate_any _ _ _ _).mono ?_
    rintro e w3 ⟨rfl, hb3⟩
    go_wp2_with fail
    have hB3 := below_alloc (below2 hB hb3)
    clear hB hb3 d0 d1 d2
    refine (DayNumber_i_yes _ _ _ _ (HT.out.below hB3) HO.out).mono ?_
    rintro e w4 ⟨rfl, hb4⟩
    go_wp2_with fail
    go_ret
    exact ⟨rfl, below2 hB3 hb4⟩
  · have HO := Lib.hid hok
    clear hok
    refine (DayNumber_s_no _ _ _ _ HO.out).mono ?_
    rintro e w2 ⟨rfl, hb2⟩
    have hB := below2 hb1 hb2
    obtain ⟨d0, d1, d2⟩ := agg3_keep hB
    clear hb1 hb2
    go_wp2_with fail
    refine (toDate_any _ _ _ _).mono ?_
    rintro e w3 ⟨rfl, hb3⟩
    go_wp2_with fail
    have hB3 := below_alloc (below2 hB hb3)
    clear hB hb3 d0 d1 d2
    refine (DayNumber_i_no _ _ _ _ (HT.out.below hB3) HO.out).mono ?_
    rintro e w4 ⟨rfl, hb4⟩
    go_wp2_with fail
    go_ret
    exact ⟨rfl, below2 hB3 hb4⟩
theorem walk_ExactOrdinalOf (y m d : Int) (w : World) (h0 : (Lit.int .i64 y).wf = true) (h1 : (Lit.int .i64 m).wf = true) (h2 : (Lit.int .i64 d).wf = true) (hT : Tab w) : Calls Tryd.prog 10 #[.agg #[.int .i64 y, .int .i64 m, .int .i64 d]] w fun e w' => e = .returned (.bool true) ∧ Below w.heap.size w w' := by
  clear h0 h1 h2
  have HT := Lib.hid hT
  clear hT
  go_enter Tryd.func10, Tryd.ntmps10
  go_wp2_with fail
  refine (toDate_any _ _ _ _).mono ?_
  rintro e w1 ⟨rfl, hb1⟩
  go_wp2_with fail
  by_cases hok : Cal.Ok y m d
  · have HO := Lib.hid hok
    clear hok
    refine (OrdinalOf_s_yes _ _ _ _ HO.out).mono ?_
    rintro e w2 ⟨rfl, hb2⟩
    have hB := below2 hb1 hb2
    obtain ⟨d0, d1, d2⟩ := agg3_keep hB
    clear hb1 hb2
    go_wp2_with fail
    refine (toDate_any _ _ _ _).mono ?_
    rintro e w3 ⟨rfl, hb3⟩
    go_wp2_with fail
    have hB3 := below_alloc (below2 hB hb3)
    clear hB hb3 d0 d1 d2
    refine (OrdinalOf_i_yes _ _ _ _ (HT.out.below hB3) HO.out).mono ?_
    rintro e w4 ⟨rfl, hb4⟩
    go_wp2_with fail
    go_ret
    exact ⟨rfl, below2 hB3 hb4⟩
  · have HO := Lib.hid hok
    clear hok
    refine (OrdinalOf_s_no _ _ _ _ HO.out).mono ?_
    rintro e w2 ⟨rfl, hb2⟩
    have hB := below2 hb1 hb2
    obtain ⟨d0, d1, d2⟩ := agg3_keep hB
    clear hb1 hb2
    go_wp2_with fail
    refine (toDate_any _ _ _ _).mono ?_
    rintro e w3 ⟨rfl, hb3⟩
    go_wp2_with fail
    have hB3 := below_alloc (below2 hB hb3)
    clear hB hb3 d0 d1 d2
    refine (OrdinalOf_i_no _ _ _ _ (HT.out.below hB3) HO.out).mono ?_
    rintro e w4 ⟨rfl, hb4⟩
    go_wp2_with fail
    go_ret
    exact ⟨rfl, below2 hB3 hb4⟩
theorem walk_ExactDateOf (n : Int) (w : World) (h0 : (Lit.int .i64 n).wf = true) (hT : Tab w) : Calls Tryd.prog 4 #[.int .i64 n] w fun e w' => e = .returned (.bool true) ∧ Below w.heap.size w w' := by
  clear h0
  have HT := Lib.hid hT
  clear hT
  go_enter Tryd.func4, Tryd.ntmps4
  go_wp2_with fail
  by_cases hok : n < 0 ∨ 3652058 < n
  · have HO := Lib.hid hok
    clear hok
    refine (DateOf_s_no _ _ HO.out).mono ?_
    rintro e w1 ⟨rfl, hb1⟩
    go_wp2_with fail
    refine (DateOf_i_no _ _ HO.out).mono ?_
    rintro e w2 ⟨rfl, hb2⟩
    obtain ⟨d0, d1, d2⟩ := agg3_keep hb2
    have hlt := lt_of_cell d0
    have hne := Nat.ne_of_lt hlt
    have hne' := Nat.ne_of_gt hlt
    have hB2 := below2 hb1 (below_alloc hb2)
    clear hb1 hb2
    go_wp2_with fail
    refine (eqDate_same _ _ _ _).mono ?_
    rintro e w3 ⟨rfl, hb3⟩
    go_wp2_with fail
    go_ret
    exact ⟨rfl, below2 hB2 (below_alloc hb3)⟩
  · have HO := Lib.hid (show 0 ≤ n ∧ n ≤ 3652058 by omega)
    clear hok
    refine (DateOf_s_yes _ _ HO.out.1 HO.out.2).mono ?_
    rintro e w1 ⟨rfl, hb1⟩
    go_wp2_with fail
    refine (DateOf_i_yes _ _ ((HT.out.below hb1).alloc _) HO.out.1 HO.out.2).mono ?_
    rintro e w2 ⟨rfl, hb2⟩
    obtain ⟨d0, d1, d2⟩ := agg3_keep hb2
    have hlt := lt_of_cell d0
    have hne := Nat.ne_of_lt hlt
    have hne' := Nat.ne_of_gt hlt
    have hB2 := below2 hb1 (below_alloc hb2)
    clear hb1 hb2
    go_wp2_with fail
    refine (eqDate_same _ _ _ _).mono ?_
    rintro e w3 ⟨rfl, hb3⟩
    go_wp2_with fail
    go_ret
    exact ⟨rfl, below2 hB2 (below_alloc hb3)⟩
theorem walk_ExactOrdinalDate (y d : Int) (w : World) (h0 : (Lit.int .i64 y).wf = true) (h1 : (Lit.int .i64 d).wf = true) (hT : Tab w) : Calls Tryd.prog 11 #[.int .i64 y, .int .i64 d] w fun e w' => e = .returned (.bool true) ∧ Below w.heap.size w w' := by
  clear h0 h1
  have HT := Lib.hid hT
  clear hT
  go_enter Tryd.func11, Tryd.ntmps11
  go_wp2_with fail
  by_cases hok : OrdOk y d
  · have HO := Lib.hid hok
    clear hok
    refine (OrdinalDate_s_yes _ _ _ HO.out).mono ?_
    rintro e w1 ⟨rfl, hb1⟩
    go_wp2_with fail
    refine (OrdinalDate_i_yes _ _ _ ((HT.out.below hb1).alloc _) HO.out).mono ?_
    rintro e w2 ⟨rfl, hb2⟩
    obtain ⟨d0, d1, d2⟩ := agg3_keep hb2
    have hlt := lt_of_cell d0
    have hne := Nat.ne_of_lt hlt
    have hne' := Nat.ne_of_gt hlt
    have hB2 := below2 hb1 (below_alloc hb2)
    clear hb1 hb2
    go_wp2_with fail
    refine (eqDate_same _ _ _ _).mono ?_
    rintro e w3 ⟨rfl, hb3⟩
    go_wp2_with fail
    go_ret
    exact ⟨rfl, below2 hB2 (below_alloc hb3)⟩
  · have HO := Lib.hid hok
    clear hok
    refine (OrdinalDate_s_no _ _ _ HO.out).mono ?_
    rintro e w1 ⟨rfl, hb1⟩
    go_wp2_with fail
    refine (OrdinalDate_i_no _ _ _ HO.out).mono ?_
    rintro e w2 ⟨rfl, hb2⟩
    obtain ⟨d0, d1, d2⟩ := agg3_keep hb2
    have hlt := lt_of_cell d0
    have hne := Nat.ne_of_lt hlt
    have hne' := Nat.ne_of_gt hlt
    have hB2 := below2 hb1 (below_alloc hb2)
    clear hb1 hb2
    go_wp2_with fail
    refine (eqDate_same _ _ _ _).mono ?_
    rintro e w3 ⟨rfl, hb3⟩
    go_wp2_with fail
    go_ret
    exact ⟨rfl, below2 hB2 (below_alloc hb3)⟩
end Go.Proofs.YtdpjhgkiccmnoaaDoor
