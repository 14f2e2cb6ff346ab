/-
  The walks of laws on the weeks of dates: each returns true, and nothing that was there is written. Conditions: the table of the months reads as listed.
-/
import Derived.Test.YtjgpfadoebnchaaDoorLawW2
import Derived.Test.YtjgpfadoebnchaaDoorKeep9
namespace Go.Proofs.YtjgpfadoebnchaaDoor
open Go.RowKit Go.PlainAid
set_option linter.unusedVariables false

theorem walk_WeekOfAll (a : Option Addr) (len cap : Nat) (z : List Int) (w : World) (h : IsRow .u8 w a len cap z) (hT : Tab w) : Calls Tryd.prog 9 #[.slice a len cap] w fun e w' => e = .returned (.bool true) ∧ Below w.heap.size w w' := by
  obtain ⟨hl, hm⟩ := row_len h
  have hB := Bytes.of_row h
  clear h
  have hm' := hm
  unfold maxLen at hm'
  have HT := Lib.hid hT
  clear hT
  by_cases hbig : (1048576 : Int) < (len : Int)
  · go_enter Tryd.func9, Tryd.ntmps9
    go_wp2
    go_ret
    exact ⟨rfl, Below.refl _ _⟩
  · go_enter Tryd.func9, Tryd.ntmps9
    go_wp2_with fail
    refine (DrawWeekOf_any a len cap w hl hm hB).mono ?_
    rintro e w1 ⟨y, m, d, y0, y1, m0, m1, d0, d1, rfl, hb1⟩
    clear hB
    have HT1 := Lib.hid ((HT.out.below hb1).alloc (.cells #[.int .i64 y, .int .i64 m, .int .i64 d] 25))
    have hC := Cells3.new w1 25 (.int .i64 y) (.int .i64 m) (.int .i64 d)
    by_cases hok : Cal.Ok y m d
    · skip
      have HO := Lib.hid hok
      have hn := Cal.num_bd hok
      obtain ⟨vY, hvY⟩ : ∃ v, v = Cal.wy (Cal.num y m d) := ⟨_, rfl⟩
      obtain ⟨vK, hvK⟩ : ∃ v, v = Cal.wk (Cal.num y m d) := ⟨_, rfl⟩
      obtain ⟨vD, hvD⟩ : ∃ v, v = Cal.wd (Cal.num y m d) := ⟨_, rfl⟩
      have HV := Lib.hid (And.intro hvY (And.intro hvK hvD))
      have HI := Lib.hid (show ∀ w', Tab w' → Calls Tryd.prog 19 #[.agg #[.int .i64 y, .int .i64 m, .int .i64 d]] w' fun e w'' => e = .returned (.tuple #[.agg #[.int .i64 vY, .int .i64 vK, .int .i64 vD], .bool true]) ∧ Below w'.heap.size w' w'' from fun w' hT' => by subst hvY; subst hvK; subst hvD; exact WeekOf_i_yes _ _ _ w' hT' HO.out)
      have HSp := Lib.hid (show ∀ w', Calls Tryd.prog 18 #[.agg #[.int .i64 y, .int .i64 m, .int .i64 d]] w' fun e w'' => e = .returned (.tuple #[.agg #[.int .i64 vY, .int .i64 vK, .int .i64 vD], .bool true]) ∧ Below w'.heap.size w' w'' from fun w' => by subst hvY; subst hvK; subst hvD; exact WeekOf_s_yes _ _ _ w' HO.out)
      clear hok hvY hvK hvD
      go_wp2_with fail
      refine (HI.out _ HT1.out).mono ?_
      rintro e w2 ⟨rfl, hb2⟩
      obtain ⟨c0, c1, c2⟩ := agg3_keep hb2
      have hlt := cell3_lt hb2
      have hne := Nat.ne_of_lt hlt
      have hne' := Nat.ne_of_gt hlt
      have hb12 := below2 hb1 (below_alloc hb2)
      have HT2 := Lib.hid (HT.out.below hb12)
      have HC2 := Lib.hid (hC.below hb2)
      clear hb1 hb2 HT1 hC
      go_wp2_with fail
      refine (HSp.out _).mono ?_
      rintro e w3 ⟨rfl, hb3⟩
      have HX3 := Lib.hid ((Cells3.new w2 29 (.int .i64 vY) (.int .i64 vK) (.int .i64 vD)).below hb3)
      have HC3 := Lib.hid ((HC2.out.alloc (.cells #[.int .i64 vY, .int .i64 vK, .int .i64 vD] 29)).below hb3)
      have hb13 := below2 hb12 (below_alloc hb3)
      have HT3 := Lib.hid ((HT.out.below hb13).alloc (.cells #[.int .i64 vY, .int .i64 vK, .int .i64 vD] 29))
      clear c0 c1 c2 hlt hne hne' HC2 HT2
      obtain ⟨c0, c1, c2, -, -, -⟩ := HC3.out
      obtain ⟨x0, x1, x2, -, -, -⟩ := HX3.out
      have hlt := cell3_lt hb3
      have hne := Nat.ne_of_lt hlt
      have hne' := Nat.ne_of_gt hlt
      have hlu := HC3.out.lt
      have hnu := Nat.ne_of_lt hlu
      have hnu' := Nat.ne_of_gt hlu
      clear hb12 hb3
      go_wp2_with fail
      refine (DateValid_i_yes _ _ _ _ HT3.out HO.out).mono ?_
      rintro e w4 ⟨rfl, hb4⟩
      go_wp2_with fail
      go_ret
      exact ⟨rfl, below2 hb13 (below_alloc hb4)⟩
    · skip
      have HO := Lib.hid hok
      obtain ⟨vY, hvY⟩ : ∃ v : Int, v = 0 := ⟨_, rfl⟩
      obtain ⟨vK, hvK⟩ : ∃ v : Int, v = 0 := ⟨_, rfl⟩
      obtain ⟨vD, hvD⟩ : ∃ v : Int, v = 0 := ⟨_, rfl⟩
      have HI := Lib.hid (show ∀ w', Tab w' → Calls Tryd.prog 19 #[.agg #[.int .i64 y, .int .i64 m, .int .i64 d]] w' fun e w'' => e = .returned (.tuple #[.agg #[.int .i64 vY, .int .i64 vK, .int .i64 vD], .bool false]) ∧ Below w'.heap.size w' w'' from fun w' hT' => by subst hvY; subst hvK; subst hvD; exact WeekOf_i_no _ _ _ w' hT' HO.out)
      have HSp := Lib.hid (show ∀ w', Calls Tryd.prog 18 #[.agg #[.int .i64 y, .int .i64 m, .int .i64 d]] w' fun e w'' => e = .returned (.tuple #[.agg #[.int .i64 vY, .int .i64 vK, .int .i64 vD], .bool false]) ∧ Below w'.heap.size w' w'' from fun w' => by subst hvY; subst hvK; subst hvD; exact WeekOf_s_no _ _ _ w' HO.out)
      clear hok hvY hvK hvD
      go_wp2_with fail
      refine (HI.out _ HT1.out).mono ?_
      rintro e w2 ⟨rfl, hb2⟩
      obtain ⟨c0, c1, c2⟩ := agg3_keep hb2
      have hlt := cell3_lt hb2
      have hne := Nat.ne_of_lt hlt
      have hne' := Nat.ne_of_gt hlt
      have hb12 := below2 hb1 (below_alloc hb2)
      have HT2 := Lib.hid (HT.out.below hb12)
      have HC2 := Lib.hid (hC.below hb2)
      clear hb1 hb2 HT1 hC
      go_wp2_with fail
      refine (HSp.out _).mono ?_
      rintro e w3 ⟨rfl, hb3⟩
      have HX3 := Lib.hid ((Cells3.new w2 29 (.int .i64 vY) (.int .i64 vK) (.int .i64 vD)).below hb3)
      have HC3 := Lib.hid ((HC2.out.alloc (.cells #[.int .i64 vY, .int .i64 vK, .int .i64 vD] 29)).below hb3)
      have hb13 := below2 hb12 (below_alloc hb3)
      have HT3 := Lib.hid ((HT.out.below hb13).alloc (.cells #[.int .i64 vY, .int .i64 vK, .int .i64 vD] 29))
      clear c0 c1 c2 hlt hne hne' HC2 HT2
      obtain ⟨c0, c1, c2, -, -, -⟩ := HC3.out
      obtain ⟨x0, x1, x2, -, -, -⟩ := HX3.out
      have hlt := cell3_lt hb3
      have hne := Nat.ne_of_lt hlt
      have hne' := Nat.ne_of_gt hlt
      have hlu := HC3.out.lt
      have hnu := Nat.ne_of_lt hlu
      have hnu' := Nat.ne_of_gt hlu
      clear hb12 hb3
      go_wp2_with fail
      refine (DateValid_i_no _ _ _ _ HT3.out HO.out).mono ?_
      rintro e w4 ⟨rfl, hb4⟩
      go_wp2_with fail
      go_ret
      exact ⟨rfl, below2 hb13 (below_alloc hb4)⟩
theorem WeekDate_i_wk (y m d : Int) (w : World) (hT : Tab w) (h : Cal.Ok y m d) : Calls Tryd.prog 23 #[.agg #[.int .i64 (Cal.wy (Cal.num y m d)), .int .i64 (Cal.wk (Cal.num y m d)), .int .i64 (Cal.wd (Cal.num y m d))]] w fun e w' => e = .returned (.tuple #[.agg #[.int .i64 y, .int .i64 m, .int .i64 d], .bool true]) ∧ Below w.heap.size w w' := by
  have hn := Cal.num_bd h
  obtain ⟨e1, e2, e3⟩ := Cal.dt_num h
  have e4 := Cal.wnum_wk (Cal.num y m d)
  have hc := WeekDate_i_yes _ _ _ w hT (Cal.wk_ok hn.1 hn.2) (by rw [e4]; exact hn.2)
  rw [e4, e1, e2, e3] at hc
  exact hc
theorem walk_WeekOf (a : Option Addr) (len cap : Nat) (z : List Int) (w : World) (h : IsRow .u8 w a len cap z) (hT : Tab w) : Calls Tryd.prog 14 #[.slice a len cap] w fun e w' => e = .returned (.bool true) ∧ Below w.heap.size w w' := by
  obtain ⟨hl, hm⟩ := row_len h
  have hB := Bytes.of_row h
  clear h
  have hm' := hm
  unfold maxLen at hm'
  have HT := Lib.hid hT
  clear hT
  by_cases hbig : (1048576 : Int) < (len : Int)
  · go_enter Tryd.func14, Tryd.ntmps14
    go_wp2
    go_ret
    exact ⟨rfl, Below.refl _ _⟩
  · go_enter Tryd.func14, Tryd.ntmps14
    go_wp2_with fail
    refine (DrawWeekOf_any a len cap w hl hm hB).mono ?_
    rintro e w1 ⟨y, m, d, y0, y1, m0, m1, d0, d1, rfl, hb1⟩
    clear hB
    have HT1 := Lib.hid ((HT.out.below hb1).alloc (.cells #[.int .i64 y, .int .i64 m, .int .i64 d] 25))
    have hC := Cells3.new w1 25 (.int .i64 y) (.int .i64 m) (.int .i64 d)
    by_cases hok : Cal.Ok y m d
    · skip
      have HO := Lib.hid hok
      have hn := Cal.num_bd hok
      obtain ⟨vY, hvY⟩ : ∃ v, v = Cal.wy (Cal.num y m d) := ⟨_, rfl⟩
      obtain ⟨vK, hvK⟩ : ∃ v, v = Cal.wk (Cal.num y m d) := ⟨_, rfl⟩
      obtain ⟨vD, hvD⟩ : ∃ v, v = Cal.wd (Cal.num y m d) := ⟨_, rfl⟩
      have HV := Lib.hid (And.intro hvY (And.intro hvK hvD))
      have HI := Lib.hid (show ∀ w', Tab w' → Calls Tryd.prog 19 #[.agg #[.int .i64 y, .int .i64 m, .int .i64 d]] w' fun e w'' => e = .returned (.tuple #[.agg #[.int .i64 vY, .int .i64 vK, .int .i64 vD], .bool true]) ∧ Below w'.heap.size w' w'' from fun w' hT' => by subst hvY; subst hvK; subst hvD; exact WeekOf_i_yes _ _ _ w' hT' HO.out)
      have HSp := Lib.hid (show ∀ w', Calls Tryd.prog 18 #[.agg #[.int .i64 y, .int .i64 m, .int .i64 d]] w' fun e w'' => e = .returned (.tuple #[.agg #[.int .i64 vY, .int .i64 vK, .int .i64 vD], .bool true]) ∧ Below w'.heap.size w' w'' from fun w' => by subst hvY; subst hvK; subst hvD; exact WeekOf_s_yes _ _ _ w' HO.out)
      clear hok hvY hvK hvD
      go_wp2_with fail
      refine (HI.out _ HT1.out).mono ?_
      rintro e w2 ⟨rfl, hb2⟩
      obtain ⟨c0, c1, c2⟩ := agg3_keep hb2
      have hlt := cell3_lt hb2
      have hne := Nat.ne_of_lt hlt
      have hne' := Nat.ne_of_gt hlt
      have hb12 := below2 hb1 (below_alloc hb2)
      have HT2 := Lib.hid (HT.out.below hb12)
      have HC2 := Lib.hid (hC.below hb2)
      clear hb1 hb2 HT1 hC
      go_wp2_with fail
      refine (HSp.out _).mono ?_
      rintro e w3 ⟨rfl, hb3⟩
      have HX3 := Lib.hid ((Cells3.new w2 29 (.int .i64 vY) (.int .i64 vK) (.int .i64 vD)).below hb3)
      have HC3 := Lib.hid ((HC2.out.alloc (.cells #[.int .i64 vY, .int .i64 vK, .int .i64 vD] 29)).below hb3)
      have hb13 := below2 hb12 (below_alloc hb3)
      have HT3 := Lib.hid ((HT.out.below hb13).alloc (.cells #[.int .i64 vY, .int .i64 vK, .int .i64 vD] 29))
      clear c0 c1 c2 hlt hne hne' HC2 HT2
      obtain ⟨c0, c1, c2, -, -, -⟩ := HC3.out
      obtain ⟨x0, x1, x2, -, -, -⟩ := HX3.out
      have hlt := cell3_lt hb3
      have hne := Nat.ne_of_lt hlt
      have hne' := Nat.ne_of_gt hlt
      have hlu := HC3.out.lt
      have hnu := Nat.ne_of_lt hlu
      have hnu' := Nat.ne_of_gt hlu
      clear hb12 hb3
      have HWD := Lib.hid (show ∀ w', Tab w' → Calls Tryd.prog 23 #[.agg #[.int .i64 vY, .int .i64 vK, .int .i64 vD]] w' fun e w'' => e = .returned (.tuple #[.agg #[.int .i64 y, .int .i64 m, .int .i64 d], .bool true]) ∧ Below w'.heap.size w' w'' from fun w' hT' => by
        obtain ⟨e1, e2, e3⟩ := HV.out
        rw [e1, e2, e3]
        exact WeekDate_i_wk _ _ _ w' hT' HO.out)
      have qe := dt_ HV.out.2.2
      go_wp2_with fail
      refine (HWD.out _ HT3.out).mono ?_
      rintro e w4 ⟨rfl, hb4⟩
      have HC4 := Lib.hid ((HC3.out.alloc (.cells #[.int .i64 vY, .int .i64 vK, .int .i64 vD] 29)).below hb4)
      have HX4 := Lib.hid ((HX3.out.alloc (.cells #[.int .i64 vY, .int .i64 vK, .int .i64 vD] 29)).below hb4)
      have hb14 := below2 hb13 (below_alloc hb4)
      have HT4 := Lib.hid (HT.out.below hb14)
      clear c0 c1 c2 x0 x1 x2 hlt hne hne' hlu hnu hnu' HC3 HX3 HT3 hb13 hb4
      obtain ⟨c0, c1, c2, -, -, -⟩ := HC4.out
      obtain ⟨x0, x1, x2, -, -, -⟩ := HX4.out
      have hlt := HX4.out.lt
      have hne := Nat.ne_of_lt hlt
      have hne' := Nat.ne_of_gt hlt
      have hlu := HC4.out.lt
      have hnu := Nat.ne_of_lt hlu
      have hnu' := Nat.ne_of_gt hlu
      have HS := Lib.hid (of9 (HC4.out.alloc (.cells #[.int .i64 y, .int .i64 m, .int .i64 d] 25)) (HX4.out.alloc (.cells #[.int .i64 y, .int .i64 m, .int .i64 d] 25)) (Cells3.new w4 25 (.int .i64 y) (.int .i64 m) (.int .i64 d)) (hb14.alloc hb14.size (.cells #[.int .i64 y, .int .i64 m, .int .i64 d] 25)))
      clear hb14
      go_wp2_with fail
      go_region_held3 (fun w' => w'.cell? ⟨w1.heap.size, 0, none⟩ = some (.int .i64 y) ∧ w'.cell? ⟨w1.heap.size, 1, none⟩ = some (.int .i64 m) ∧ w'.cell? ⟨w1.heap.size, 2, none⟩ = some (.int .i64 d) ∧ w'.cell? ⟨w2.heap.size, 0, none⟩ = some (.int .i64 vY) ∧ w'.cell? ⟨w2.heap.size, 1, none⟩ = some (.int .i64 vK) ∧ w'.cell? ⟨w2.heap.size, 2, none⟩ = some (.int .i64 vD) ∧ w'.cell? ⟨w4.heap.size, 0, none⟩ = some (.int .i64 y) ∧ w'.cell? ⟨w4.heap.size, 1, none⟩ = some (.int .i64 m) ∧ w'.cell? ⟨w4.heap.size, 2, none⟩ = some (.int .i64 d) ∧ Below w.heap.size w w') (first | exact HS.out | exact keep9_drew HS.out | exact keep9 hb5 (keep9_drew HS.out)) ((go_at_call 17; refine (Weekday_i_yes y m d _ (HT4.out.alloc _).drew HO.out).mono ?_; rintro e w5 ⟨rfl, hb5⟩))
      go_wp2
      go_ret
      exact ⟨rfl, (keep9 hb5 (keep9_drew HS.out)).2.2.2.2.2.2.2.2.2⟩
    · skip
      have HO := Lib.hid hok
      obtain ⟨vY, hvY⟩ : ∃ v : Int, v = 0 := ⟨_, rfl⟩
      obtain ⟨vK, hvK⟩ : ∃ v : Int, v = 0 := ⟨_, rfl⟩
      obtain ⟨vD, hvD⟩ : ∃ v : Int, v = 0 := ⟨_, rfl⟩
      have HI := Lib.hid (show ∀ w', Tab w' → Calls Tryd.prog 19 #[.agg #[.int .i64 y, .int .i64 m, .int .i64 d]] w' fun e w'' => e = .returned (.tuple #[.agg #[.int .i64 vY, .int .i64 vK, .int .i64 vD], .bool false]) ∧ Below w'.heap.size w' w'' from fun w' hT' => by subst hvY; subst hvK; subst hvD; exact WeekOf_i_no _ _ _ w' hT' HO.out)
      have HSp := Lib.hid (show ∀ w', Calls Tryd.prog 18 #[.agg #[.int .i64 y, .int .i64 m, .int .i64 d]] w' fun e w'' => e = .returned (.tuple #[.agg #[.int .i64 vY, .int .i64 vK, .int .i64 vD], .bool false]) ∧ Below w'.heap.size w' w'' from fun w' => by subst hvY; subst hvK; subst hvD; exact WeekOf_s_no _ _ _ w' HO.out)
      clear hok hvY hvK hvD
      go_wp2_with fail
      refine (HI.out _ HT1.out).mono ?_
      rintro e w2 ⟨rfl, hb2⟩
      obtain ⟨c0, c1, c2⟩ := agg3_keep hb2
      have hlt := cell3_lt hb2
      have hne := Nat.ne_of_lt hlt
      have hne' := Nat.ne_of_gt hlt
      have hb12 := below2 hb1 (below_alloc hb2)
      have HT2 := Lib.hid (HT.out.below hb12)
      have HC2 := Lib.hid (hC.below hb2)
      clear hb1 hb2 HT1 hC
      go_wp2_with fail
      refine (HSp.out _).mono ?_
      rintro e w3 ⟨rfl, hb3⟩
      have HX3 := Lib.hid ((Cells3.new w2 29 (.int .i64 vY) (.int .i64 vK) (.int .i64 vD)).below hb3)
      have HC3 := Lib.hid ((HC2.out.alloc (.cells #[.int .i64 vY, .int .i64 vK, .int .i64 vD] 29)).below hb3)
      have hb13 := below2 hb12 (below_alloc hb3)
      have HT3 := Lib.hid ((HT.out.below hb13).alloc (.cells #[.int .i64 vY, .int .i64 vK, .int .i64 vD] 29))
      clear c0 c1 c2 hlt hne hne' HC2 HT2
      obtain ⟨c0, c1, c2, -, -, -⟩ := HC3.out
      obtain ⟨x0, x1, x2, -, -, -⟩ := HX3.out
      have hlt := cell3_lt hb3
      have hne := Nat.ne_of_lt hlt
      have hne' := Nat.ne_of_gt hlt
      have hlu := HC3.out.lt
      have hnu := Nat.ne_of_lt hlu
      have hnu' := Nat.ne_of_gt hlu
      clear hb12 hb3
      go_wp2_with fail
      go_ret
      exact ⟨rfl, hb13.alloc hb13.size _⟩
end Go.Proofs.YtjgpfadoebnchaaDoor
