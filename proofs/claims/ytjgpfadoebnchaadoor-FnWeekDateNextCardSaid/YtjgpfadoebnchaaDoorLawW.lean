/-
  The walks of the exact laws on weeks: each returns true, and nothing that was there is written. Conditions: the table of the months reads as listed.
-/
import Derived.Test.YtjgpfadoebnchaaDoorWeek4
import Derived.Test.YtjgpfadoebnchaaDoorLawD2
namespace Go.Proofs.YtjgpfadoebnchaaDoor
open Go.RowKit Go.PlainAid
set_option linter.unusedVariables false

theorem wdate_split (y k d : Int) : ¬ Cal.WOk y k d ∨ (Cal.WOk y k d ∧ 3652058 < Cal.wnum y k d) ∨ (Cal.WOk y k d ∧ Cal.wnum y k d ≤ 3652058) := by
  by_cases h : Cal.WOk y k d
  · by_cases hn : 3652058 < Cal.wnum y k d
    · exact .inr (.inl ⟨h, hn⟩)
    · exact .inr (.inr ⟨h, by omega⟩)
  · exact .inl h
theorem walk_ExactWeekday (y m d : Int) (w : World) (h0 : (Lit.int .i64 y).wf = true) (h1 : (Lit.int .i64 m).wf = true) (h2 : (Lit.int .i64 d).wf = true) (hT : Tab w) : Calls Tryd.prog 3 #[.agg #[.int .i64 y, .int .i64 m, .int .i64 d]] w fun e w' => e = .returned (.bool true) ∧ Below w.heap.size w w' := by
  clear h0 h1 h2
  have HT := Lib.hid hT
  clear hT
  go_enter Tryd.func3, Tryd.ntmps3
  go_wp2_with fail
  refine (toDate_any _ _ _ _).mono ?_
  rintro e w1 ⟨rfl, hb1⟩
  go_wp2_with fail
  by_cases hok : Cal.Ok y m d
  · have HO := Lib.hid hok
    clear hok
    refine (Weekday_s_yes _ _ _ _ HO.out).mono ?_
    rintro e w2 ⟨rfl, hb2⟩
    have hB := below2 hb1 hb2
    obtain ⟨d0, d1, d2⟩ := agg3_keep hB
    clear hb1 hb2
    go_wp2_with fail
    refine (toDate_any _ _ _ _).mono ?_
    rintro e w3 ⟨rfl, hb3⟩
    go_wp2_with fail
    have hB3 := below_alloc (below2 hB hb3)
    clear hB hb3 d0 d1 d2
    refine (Weekday_i_yes _ _ _ _ (HT.out.below hB3) HO.out).mono ?_
    rintro e w4 ⟨rfl, hb4⟩
    go_wp2_with fail
    go_ret
    exact ⟨rfl, below2 hB3 hb4⟩
  · have HO := Lib.hid hok
    clear hok
    refine (Weekday_s_no _ _ _ _ HO.out).mono ?_
    rintro e w2 ⟨rfl, hb2⟩
    have hB := below2 hb1 hb2
    obtain ⟨d0, d1, d2⟩ := agg3_keep hB
    clear hb1 hb2
    go_wp2_with fail
    refine (toDate_any _ _ _ _).mono ?_
    rintro e w3 ⟨rfl, hb3⟩
    go_wp2_with fail
    have hB3 := below_alloc (below2 hB hb3)
    clear hB hb3 d0 d1 d2
    refine (Weekday_i_no _ _ _ _ (HT.out.below hB3) HO.out).mono ?_
    rintro e w4 ⟨rfl, hb4⟩
    go_wp2_with fail
    go_ret
    exact ⟨rfl, below2 hB3 hb4⟩
theorem walk_ExactWeekOf (y m d : Int) (w : World) (h0 : (Lit.int .i64 y).wf = true) (h1 : (Lit.int .i64 m).wf = true) (h2 : (Lit.int .i64 d).wf = true) (hT : Tab w) : Calls Tryd.prog 4 #[.agg #[.int .i64 y, .int .i64 m, .int .i64 d]] w fun e w' => e = .returned (.bool true) ∧ Below w.heap.size w w' := by
  clear h0 h1 h2
  have HT := Lib.hid hT
  clear hT
  go_enter Tryd.func4, Tryd.ntmps4
  go_wp2_with fail
  refine (toDate_any _ _ _ _).mono ?_
  rintro e w1 ⟨rfl, hb1⟩
  go_wp2_with fail
  by_cases hok : Cal.Ok y m d
  · have HO := Lib.hid hok
    clear hok
    refine (WeekOf_s_yes _ _ _ _ HO.out).mono ?_
    rintro e w2 ⟨rfl, hb2⟩
    have hB := below2 hb1 hb2
    obtain ⟨d0, d1, d2⟩ := agg3_keep hB
    have hlt := lt_of_cell d0
    have hne := Nat.ne_of_lt hlt
    have hne' := Nat.ne_of_gt hlt
    clear hb1 hb2
    go_wp2_with fail
    refine (toDate_any _ _ _ _).mono ?_
    rintro e w3 ⟨rfl, hb3⟩
    have hX := (Cells3.new w2 29 (.int .i64 (Cal.wy (Cal.num y m d))) (.int .i64 (Cal.wk (Cal.num y m d))) (.int .i64 (Cal.wd (Cal.num y m d)))).below hb3
    have hB3 := below2 (below_alloc hB) (below_alloc hb3)
    clear hB hb3 d0 d1 d2 hlt hne hne'
    go_wp2_with fail
    refine (WeekOf_i_yes _ _ _ _ (HT.out.below hB3) HO.out).mono ?_
    rintro e w4 ⟨rfl, hb4⟩
    obtain ⟨d0, d1, d2, -, -, -⟩ := hX.below hb4
    have hlt := lt_of_cell d0
    have hne := Nat.ne_of_lt hlt
    have hne' := Nat.ne_of_gt hlt
    have hB4 := below2 hB3 hb4
    clear hX hB3 hb4
    go_wp2_with fail
    refine (eqWeek_same _ _ _ _).mono ?_
    rintro e w5 ⟨rfl, hb5⟩
    go_wp2_with fail
    go_ret
    exact ⟨rfl, below2 hB4 (below_alloc hb5)⟩
  · have HO := Lib.hid hok
    clear hok
    refine (WeekOf_s_no _ _ _ _ HO.out).mono ?_
    rintro e w2 ⟨rfl, hb2⟩
    have hB := below2 hb1 hb2
    obtain ⟨d0, d1, d2⟩ := agg3_keep hB
    have hlt := lt_of_cell d0
    have hne := Nat.ne_of_lt hlt
    have hne' := Nat.ne_of_gt hlt
    clear hb1 hb2
    go_wp2_with fail
    refine (toDate_any _ _ _ _).mono ?_
    rintro e w3 ⟨rfl, hb3⟩
    have hX := (Cells3.new w2 29 (.int .i64 0) (.int .i64 0) (.int .i64 0)).below hb3
    have hB3 := below2 (below_alloc hB) (below_alloc hb3)
    clear hB hb3 d0 d1 d2 hlt hne hne'
    go_wp2_with fail
    refine (WeekOf_i_no _ _ _ _ (HT.out.below hB3) HO.out).mono ?_
    rintro e w4 ⟨rfl, hb4⟩
    obtain ⟨d0, d1, d2, -, -, -⟩ := hX.below hb4
    have hlt := lt_of_cell d0
    have hne := Nat.ne_of_lt hlt
    have hne' := Nat.ne_of_gt hlt
    have hB4 := below2 hB3 hb4
    clear hX hB3 hb4
    go_wp2_with fail
    refine (eqWeek_same _ _ _ _).mono ?_
    rintro e w5 ⟨rfl, hb5⟩
    go_wp2_with fail
    go_ret
    exact ⟨rfl, below2 hB4 (below_alloc hb5)⟩
theorem walk_ExactWeekDate (y k d : Int) (w : World) (h0 : (Lit.int .i64 y).wf = true) (h1 : (Lit.int .i64 k).wf = true) (h2 : (Lit.int .i64 d).wf = true) (hT : Tab w) : Calls Tryd.prog 5 #[.agg #[.int .i64 y, .int .i64 k, .int .i64 d]] w fun e w' => e = .returned (.bool true) ∧ Below w.heap.size w w' := by
  clear h0 h1 h2
  have HT := Lib.hid hT
  clear hT
  go_enter Tryd.func5, Tryd.ntmps5
  go_wp2_with fail
  refine (toWeek_any _ _ _ _).mono ?_
  rintro e w1 ⟨rfl, hb1⟩
  go_wp2_with fail
  rcases wdate_split y k d with hok | ⟨hok, hn⟩ | ⟨hok, hn⟩
  · have HO := Lib.hid hok
    clear hok
    refine (WeekDate_s_no _ _ _ _ HO.out).mono ?_
    rintro e w2 ⟨rfl, hb2⟩
    have hB := below2 hb1 hb2
    obtain ⟨d0, d1, d2⟩ := agg3_keep hB
    have hlt := lt_of_cell d0
    have hne := Nat.ne_of_lt hlt
    have hne' := Nat.ne_of_gt hlt
    clear hb1 hb2
    go_wp2_with fail
    refine (toWeek_any _ _ _ _).mono ?_
    rintro e w3 ⟨rfl, hb3⟩
    have hX := (Cells3.new w2 25 (.int .i64 0) (.int .i64 0) (.int .i64 0)).below hb3
    have hB3 := below2 (below_alloc hB) (below_alloc hb3)
    clear hB hb3 d0 d1 d2 hlt hne hne'
    go_wp2_with fail
    refine (WeekDate_i_no _ _ _ _ HO.out).mono ?_
    rintro e w4 ⟨rfl, hb4⟩
    obtain ⟨d0, d1, d2, -, -, -⟩ := hX.below hb4
    have hlt := lt_of_cell d0
    have hne := Nat.ne_of_lt hlt
    have hne' := Nat.ne_of_gt hlt
    have hB4 := below2 hB3 hb4
    clear hX hB3 hb4
    go_wp2_with fail
    refine (eqDate_same _ _ _ _).mono ?_
    rintro e w5 ⟨rfl, hb5⟩
    go_wp2_with fail
    go_ret
    exact ⟨rfl, below2 hB4 (below_alloc hb5)⟩
  · have HO := Lib.hid hok
    have HN := Lib.hid hn
    clear hok hn
    refine (WeekDate_s_late _ _ _ _ HO.out HN.out).mono ?_
    rintro e w2 ⟨rfl, hb2⟩
    have hB := below2 hb1 hb2
    obtain ⟨d0, d1, d2⟩ := agg3_keep hB
    have hlt := lt_of_cell d0
    have hne := Nat.ne_of_lt hlt
    have hne' := Nat.ne_of_gt hlt
    clear hb1 hb2
    go_wp2_with fail
    refine (toWeek_any _ _ _ _).mono ?_
    rintro e w3 ⟨rfl, hb3⟩
    have hX := (Cells3.new w2 25 (.int .i64 0) (.int .i64 0) (.int .i64 0)).below hb3
    have hB3 := below2 (below_alloc hB) (below_alloc hb3)
    clear hB hb3 d0 d1 d2 hlt hne hne'
    go_wp2_with fail
    refine (WeekDate_i_late _ _ _ _ HO.out HN.out).mono ?_
    rintro e w4 ⟨rfl, hb4⟩
    obtain ⟨d0, d1, d2, -, -, -⟩ := hX.below hb4
    have hlt := lt_of_cell d0
    have hne := Nat.ne_of_lt hlt
    have hne' := Nat.ne_of_gt hlt
    have hB4 := below2 hB3 hb4
    clear hX hB3 hb4
    go_wp2_with fail
    refine (eqDate_same _ _ _ _).mono ?_
    rintro e w5 ⟨rfl, hb5⟩
    go_wp2_with fail
    go_ret
    exact ⟨rfl, below2 hB4 (below_alloc hb5)⟩
  · have HO := Lib.hid hok
    have HN := Lib.hid hn
    clear hok hn
    refine (WeekDate_s_yes _ _ _ _ HO.out HN.out).mono ?_
    rintro e w2 ⟨rfl, hb2⟩
    have hB := below2 hb1 hb2
    obtain ⟨d0, d1, d2⟩ := agg3_keep hB
    have hlt := lt_of_cell d0
    have hne := Nat.ne_of_lt hlt
    have hne' := Nat.ne_of_gt hlt
    clear hb1 hb2
    go_wp2_with fail
    refine (toWeek_any _ _ _ _).mono ?_
    rintro e w3 ⟨rfl, hb3⟩
    have hX := (Cells3.new w2 25 (.int .i64 (Cal.yo (Cal.wnum y k d))) (.int .i64 (Cal.mo (Cal.wnum y k d))) (.int .i64 (Cal.dd (Cal.wnum y k d)))).below hb3
    have hB3 := below2 (below_alloc hB) (below_alloc hb3)
    clear hB hb3 d0 d1 d2 hlt hne hne'
    go_wp2_with fail
    refine (WeekDate_i_yes _ _ _ _ (HT.out.below hB3) HO.out HN.out).mono ?_
    rintro e w4 ⟨rfl, hb4⟩
    obtain ⟨d0, d1, d2, -, -, -⟩ := hX.below hb4
    have hlt := lt_of_cell d0
    have hne := Nat.ne_of_lt hlt
    have hne' := Nat.ne_of_gt hlt
    have hB4 := below2 hB3 hb4
    clear hX hB3 hb4
    go_wp2_with fail
    refine (eqDate_same _ _ _ _).mono ?_
    rintro e w5 ⟨rfl, hb5⟩
    go_wp2_with fail
    go_ret
    exact ⟨rfl, below2 hB4 (below_alloc hb5)⟩
end Go.Proofs.YtjgpfadoebnchaaDoor
