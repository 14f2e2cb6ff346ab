/-
  The walks of laws on the dates of weeks: each returns true, and nothing that was there is written. Conditions: the table of the months reads as listed.
-/
import Derived.Test.YtjgpfadoebnchaaDoorLawW2
import Derived.Test.YtjgpfadoebnchaaDoorKeep9
import Derived.Test.YtjgpfadoebnchaaDoorDrawWeek2
namespace Go.Proofs.YtjgpfadoebnchaaDoor
open Go.RowKit Go.PlainAid
set_option linter.unusedVariables false

theorem Cells3.drewN {w : World} {r : Nat} {a b c : Value} (h : Cells3 w r a b c) (n : Nat) : Cells3 (w.drewN n) r a b c := h
set_option maxHeartbeats 1600000 in
theorem walk_WeekMonday (a : Option Addr) (len cap : Nat) (z : List Int) (w : World) (h : IsRow .u8 w a len cap z) (hT : Tab w) : Calls Tryd.prog 11 #[.slice a len cap] w fun e w' => e = .returned (.bool true) ∧ Below w.heap.size w w' := by
  obtain ⟨hl, hm⟩ := row_len h
  have hB := Bytes.of_row h
  clear h
  have hm' := hm
  unfold maxLen at hm'
  have HT := Lib.hid hT
  clear hT
  by_cases hbig : (1048576 : Int) < (len : Int)
  · go_enter Tryd.func11, Tryd.ntmps11
    go_wp2
    go_ret
    exact ⟨rfl, Below.refl _ _⟩
  · go_enter Tryd.func11, Tryd.ntmps11
    go_wp2_with fail
    refine (DrawWeekDate_any a len cap w hl hm hB).mono ?_
    rintro e w1 ⟨y, k, d, y0, y1, m0, m1, d0, d1, rfl, hb1⟩
    clear hB
    have HT1 := Lib.hid ((HT.out.below hb1).alloc (.cells #[.int .i64 y, .int .i64 k, .int .i64 d] 29))
    have hC := Cells3.new w1 29 (.int .i64 y) (.int .i64 k) (.int .i64 d)
    rcases wdate_split y k d with hok | ⟨hok, hn⟩ | ⟨hok, hn⟩
    · skip
      have HO := Lib.hid hok
      obtain ⟨vY, hvY⟩ : ∃ v, v = (0 : Int) := ⟨_, rfl⟩
      obtain ⟨vM, hvM⟩ : ∃ v, v = (0 : Int) := ⟨_, rfl⟩
      obtain ⟨vD, hvD⟩ : ∃ v, v = (0 : Int) := ⟨_, rfl⟩
      have HV := Lib.hid (And.intro hvY (And.intro hvM hvD))
      have HI := Lib.hid (show ∀ w', Tab w' → Calls Tryd.prog 23 #[.agg #[.int .i64 y, .int .i64 k, .int .i64 d]] w' fun e w'' => e = .returned (.tuple #[.agg #[.int .i64 vY, .int .i64 vM, .int .i64 vD], .bool false]) ∧ Below w'.heap.size w' w'' from fun w' hT' => by subst hvY; subst hvM; subst hvD; exact WeekDate_i_no _ _ _ w' HO.out)
      have HSp := Lib.hid (show ∀ w', Calls Tryd.prog 21 #[.agg #[.int .i64 y, .int .i64 k, .int .i64 d]] w' fun e w'' => e = .returned (.tuple #[.agg #[.int .i64 vY, .int .i64 vM, .int .i64 vD], .bool false]) ∧ Below w'.heap.size w' w'' from fun w' => by subst hvY; subst hvM; subst hvD; exact WeekDate_s_no _ _ _ w' HO.out)
      clear hok hvY hvM hvD
      go_wp2_with fail
      refine (HI.out _ HT1.out).mono ?_
      rintro e w2 ⟨rfl, hb2⟩
      obtain ⟨c0, c1, c2⟩ := agg3_keep hb2
      have hlt := cell3_lt hb2
      have hne := Nat.ne_of_lt hlt
      have hne' := Nat.ne_of_gt hlt
      have hb12 := below2 hb1 (below_alloc hb2)
      have HT2 := Lib.hid (HT.out.below hb12)
      have HC2 := Lib.hid (hC.below hb2)
      clear hb1 hb2 HT1 hC
      go_wp2_with fail
      refine (HSp.out _).mono ?_
      rintro e w3 ⟨rfl, hb3⟩
      have HX3 := Lib.hid ((Cells3.new w2 25 (.int .i64 vY) (.int .i64 vM) (.int .i64 vD)).below hb3)
      have HC3 := Lib.hid ((HC2.out.alloc (.cells #[.int .i64 vY, .int .i64 vM, .int .i64 vD] 25)).below hb3)
      have hb13 := below2 hb12 (below_alloc hb3)
      have HT3 := Lib.hid ((HT.out.below hb13).alloc (.cells #[.int .i64 vY, .int .i64 vM, .int .i64 vD] 25))
      clear c0 c1 c2 hlt hne hne' HC2 HT2
      obtain ⟨c0, c1, c2, -, -, -⟩ := HC3.out
      obtain ⟨x0, x1, x2, -, -, -⟩ := HX3.out
      have hlt := cell3_lt hb3
      have hne := Nat.ne_of_lt hlt
      have hne' := Nat.ne_of_gt hlt
      have hlu := HC3.out.lt
      have hnu := Nat.ne_of_lt hlu
      have hnu' := Nat.ne_of_gt hlu
      clear hb12 hb3
      go_wp2_with fail
      go_ret
      exact ⟨rfl, hb13.alloc hb13.size _⟩
    · skip
      have HO := Lib.hid hok
      have HN := Lib.hid hn
      obtain ⟨vY, hvY⟩ : ∃ v, v = (0 : Int) := ⟨_, rfl⟩
      obtain ⟨vM, hvM⟩ : ∃ v, v = (0 : Int) := ⟨_, rfl⟩
      obtain ⟨vD, hvD⟩ : ∃ v, v = (0 : Int) := ⟨_, rfl⟩
      have HV := Lib.hid (And.intro hvY (And.intro hvM hvD))
      have HI := Lib.hid (show ∀ w', Tab w' → Calls Tryd.prog 23 #[.agg #[.int .i64 y, .int .i64 k, .int .i64 d]] w' fun e w'' => e = .returned (.tuple #[.agg #[.int .i64 vY, .int .i64 vM, .int .i64 vD], .bool false]) ∧ Below w'.heap.size w' w'' from fun w' hT' => by subst hvY; subst hvM; subst hvD; exact WeekDate_i_late _ _ _ w' HO.out HN.out)
      have HSp := Lib.hid (show ∀ w', Calls Tryd.prog 21 #[.agg #[.int .i64 y, .int .i64 k, .int .i64 d]] w' fun e w'' => e = .returned (.tuple #[.agg #[.int .i64 vY, .int .i64 vM, .int .i64 vD], .bool false]) ∧ Below w'.heap.size w' w'' from fun w' => by subst hvY; subst hvM; subst hvD; exact WeekDate_s_late _ _ _ w' HO.out HN.out)
      clear hok hvY hvM hvD
      go_wp2_with fail
      refine (HI.out _ HT1.out).mono ?_
      rintro e w2 ⟨rfl, hb2⟩
      obtain ⟨c0, c1, c2⟩ := agg3_keep hb2
      have hlt := cell3_lt hb2
      have hne := Nat.ne_of_lt hlt
      have hne' := Nat.ne_of_gt hlt
      have hb12 := below2 hb1 (below_alloc hb2)
      have HT2 := Lib.hid (HT.out.below hb12)
      have HC2 := Lib.hid (hC.below hb2)
      clear hb1 hb2 HT1 hC
      go_wp2_with fail
      refine (HSp.out _).mono ?_
      rintro e w3 ⟨rfl, hb3⟩
      have HX3 := Lib.hid ((Cells3.new w2 25 (.int .i64 vY) (.int .i64 vM) (.int .i64 vD)).below hb3)
      have HC3 := Lib.hid ((HC2.out.alloc (.cells #[.int .i64 vY, .int .i64 vM, .int .i64 vD] 25)).below hb3)
      have hb13 := below2 hb12 (below_alloc hb3)
      have HT3 := Lib.hid ((HT.out.below hb13).alloc (.cells #[.int .i64 vY, .int .i64 vM, .int .i64 vD] 25))
      clear c0 c1 c2 hlt hne hne' HC2 HT2
      obtain ⟨c0, c1, c2, -, -, -⟩ := HC3.out
      obtain ⟨x0, x1, x2, -, -, -⟩ := HX3.out
      have hlt := cell3_lt hb3
      have hne := Nat.ne_of_lt hlt
      have hne' := Nat.ne_of_gt hlt
      have hlu := HC3.out.lt
      have hnu := Nat.ne_of_lt hlu
      have hnu' := Nat.ne_of_gt hlu
      clear hb12 hb3
      go_wp2_with fail
      go_ret
      exact ⟨rfl, hb13.alloc hb13.size _⟩
    · skip
      have HO := Lib.hid hok
      have HN := Lib.hid hn
      obtain ⟨vY, hvY⟩ : ∃ v, v = Cal.yo (Cal.wnum y k d) := ⟨_, rfl⟩
      obtain ⟨vM, hvM⟩ : ∃ v, v = Cal.mo (Cal.wnum y k d) := ⟨_, rfl⟩
      obtain ⟨vD, hvD⟩ : ∃ v, v = Cal.dd (Cal.wnum y k d) := ⟨_, rfl⟩
      have HV := Lib.hid (And.intro hvY (And.intro hvM hvD))
      have HI := Lib.hid (show ∀ w', Tab w' → Calls Tryd.prog 23 #[.agg #[.int .i64 y, .int .i64 k, .int .i64 d]] w' fun e w'' => e = .returned (.tuple #[.agg #[.int .i64 vY, .int .i64 vM, .int .i64 vD], .bool true]) ∧ Below w'.heap.size w' w'' from fun w' hT' => by subst hvY; subst hvM; subst hvD; exact WeekDate_i_yes _ _ _ w' hT' HO.out HN.out)
      have HSp := Lib.hid (show ∀ w', Calls Tryd.prog 21 #[.agg #[.int .i64 y, .int .i64 k, .int .i64 d]] w' fun e w'' => e = .returned (.tuple #[.agg #[.int .i64 vY, .int .i64 vM, .int .i64 vD], .bool true]) ∧ Below w'.heap.size w' w'' from fun w' => by subst hvY; subst hvM; subst hvD; exact WeekDate_s_yes _ _ _ w' HO.out HN.out)
      clear hok hvY hvM hvD
      go_wp2_with fail
      refine (HI.out _ HT1.out).mono ?_
      rintro e w2 ⟨rfl, hb2⟩
      obtain ⟨c0, c1, c2⟩ := agg3_keep hb2
      have hlt := cell3_lt hb2
      have hne := Nat.ne_of_lt hlt
      have hne' := Nat.ne_of_gt hlt
      have hb12 := below2 hb1 (below_alloc hb2)
      have HT2 := Lib.hid (HT.out.below hb12)
      have HC2 := Lib.hid (hC.below hb2)
      clear hb1 hb2 HT1 hC
      go_wp2_with fail
      refine (HSp.out _).mono ?_
      rintro e w3 ⟨rfl, hb3⟩
      have HX3 := Lib.hid ((Cells3.new w2 25 (.int .i64 vY) (.int .i64 vM) (.int .i64 vD)).below hb3)
      have HC3 := Lib.hid ((HC2.out.alloc (.cells #[.int .i64 vY, .int .i64 vM, .int .i64 vD] 25)).below hb3)
      have hb13 := below2 hb12 (below_alloc hb3)
      have HT3 := Lib.hid ((HT.out.below hb13).alloc (.cells #[.int .i64 vY, .int .i64 vM, .int .i64 vD] 25))
      clear c0 c1 c2 hlt hne hne' HC2 HT2
      obtain ⟨c0, c1, c2, -, -, -⟩ := HC3.out
      obtain ⟨x0, x1, x2, -, -, -⟩ := HX3.out
      have hlt := cell3_lt hb3
      have hne := Nat.ne_of_lt hlt
      have hne' := Nat.ne_of_gt hlt
      have hlu := HC3.out.lt
      have hnu := Nat.ne_of_lt hlu
      have hnu' := Nat.ne_of_gt hlu
      clear hb12 hb3
      have hnb := (Cal.wnum_bd HO.out).2.2.1
      have HD := Lib.hid (Cal.dt_ok hnb HN.out)
      have hOk := Lib.hid (show Cal.Ok vY vM vD from by obtain ⟨e1, e2, e3⟩ := HV.out; rw [e1, e2, e3]; exact HD.out.1)
      have hNum := Lib.hid (show Cal.num vY vM vD = Cal.wnum y k d from by obtain ⟨e1, e2, e3⟩ := HV.out; rw [e1, e2, e3]; exact HD.out.2)
      have HW := Lib.hid (Cal.wnum_of HO.out HN.out)
      have HWk := Lib.hid (show ∀ w', Tab w' → Calls Tryd.prog 17 #[.agg #[.int .i64 vY, .int .i64 vM, .int .i64 vD]] w' fun e w'' => e = .returned (.int .i64 d) ∧ Below w'.heap.size w' w'' from fun w' hT' => by
        have := Weekday_i_yes _ _ _ w' hT' hOk.out
        rw [hNum.out, HW.out.2.2] at this
        exact this)
      go_wp2_with fail
      have HS := Lib.hid (of6 (HC3.out.alloc (.cells #[.int .i64 vY, .int .i64 vM, .int .i64 vD] 25)) (HX3.out.alloc (.cells #[.int .i64 vY, .int .i64 vM, .int .i64 vD] 25)) (hb13.alloc hb13.size (.cells #[.int .i64 vY, .int .i64 vM, .int .i64 vD] 25)))
      have hB0 := Lib.hid (hb13.alloc hb13.size (.cells #[.int .i64 vY, .int .i64 vM, .int .i64 vD] 25))
      clear hb13
      go_region_held3 (fun w' => w'.cell? ⟨w1.heap.size, 0, none⟩ = some (.int .i64 y) ∧ w'.cell? ⟨w1.heap.size, 1, none⟩ = some (.int .i64 k) ∧ w'.cell? ⟨w1.heap.size, 2, none⟩ = some (.int .i64 d) ∧ w'.cell? ⟨w2.heap.size, 0, none⟩ = some (.int .i64 vY) ∧ w'.cell? ⟨w2.heap.size, 1, none⟩ = some (.int .i64 vM) ∧ w'.cell? ⟨w2.heap.size, 2, none⟩ = some (.int .i64 vD) ∧ Below w.heap.size w w') (first | exact HS.out | exact keep6_drew HS.out | exact keep6 hba (keep6_drew HS.out) | exact keep6 hbb (keep6 hba (keep6_drew HS.out))) (first | (go_at_call 17; refine (HWk.out _ (HT.out.below hB0.out.drew)).mono ?_; rintro e wa ⟨rfl, hba⟩) | (go_at_call 32; refine (DateValid_i_yes _ _ _ _ (HT.out.below (below2 hB0.out.drew hba)) hOk.out).mono ?_; rintro e wb ⟨rfl, hbb⟩))
      go_wp2
      go_ret
      exact ⟨rfl, below2 (below2 hB0.out.drew hba) hbb⟩
set_option maxHeartbeats 1600000 in
theorem walk_WeekDate (a : Option Addr) (len cap : Nat) (z : List Int) (w : World) (h : IsRow .u8 w a len cap z) (hT : Tab w) : Calls Tryd.prog 12 #[.slice a len cap] w fun e w' => e = .returned (.bool true) ∧ Below w.heap.size w w' := by
  obtain ⟨hl, hm⟩ := row_len h
  have hB := Bytes.of_row h
  clear h
  have hm' := hm
  unfold maxLen at hm'
  have HT := Lib.hid hT
  clear hT
  by_cases hbig : (1048576 : Int) < (len : Int)
  · go_enter Tryd.func12, Tryd.ntmps12
    go_wp2
    go_ret
    exact ⟨rfl, Below.refl _ _⟩
  · go_enter Tryd.func12, Tryd.ntmps12
    go_wp2_with fail
    refine (DrawWeekDate_any a len cap w hl hm hB).mono ?_
    rintro e w1 ⟨y, k, d, y0, y1, m0, m1, d0, d1, rfl, hb1⟩
    clear hB
    have HT1 := Lib.hid ((HT.out.below hb1).alloc (.cells #[.int .i64 y, .int .i64 k, .int .i64 d] 29))
    have hC := Cells3.new w1 29 (.int .i64 y) (.int .i64 k) (.int .i64 d)
    rcases wdate_split y k d with hok | ⟨hok, hn⟩ | ⟨hok, hn⟩
    · skip
      have HO := Lib.hid hok
      obtain ⟨vY, hvY⟩ : ∃ v, v = (0 : Int) := ⟨_, rfl⟩
      obtain ⟨vM, hvM⟩ : ∃ v, v = (0 : Int) := ⟨_, rfl⟩
      obtain ⟨vD, hvD⟩ : ∃ v, v = (0 : Int) := ⟨_, rfl⟩
      have HV := Lib.hid (And.intro hvY (And.intro hvM hvD))
      have HI := Lib.hid (show ∀ w', Tab w' → Calls Tryd.prog 23 #[.agg #[.int .i64 y, .int .i64 k, .int .i64 d]] w' fun e w'' => e = .returned (.tuple #[.agg #[.int .i64 vY, .int .i64 vM, .int .i64 vD], .bool false]) ∧ Below w'.heap.size w' w'' from fun w' hT' => by subst hvY; subst hvM; subst hvD; exact WeekDate_i_no _ _ _ w' HO.out)
      have HSp := Lib.hid (show ∀ w', Calls Tryd.prog 21 #[.agg #[.int .i64 y, .int .i64 k, .int .i64 d]] w' fun e w'' => e = .returned (.tuple #[.agg #[.int .i64 vY, .int .i64 vM, .int .i64 vD], .bool false]) ∧ Below w'.heap.size w' w'' from fun w' => by subst hvY; subst hvM; subst hvD; exact WeekDate_s_no _ _ _ w' HO.out)
      clear hok hvY hvM hvD
      go_wp2_with fail
      refine (HI.out _ HT1.out).mono ?_
      rintro e w2 ⟨rfl, hb2⟩
      obtain ⟨c0, c1, c2⟩ := agg3_keep hb2
      have hlt := cell3_lt hb2
      have hne := Nat.ne_of_lt hlt
      have hne' := Nat.ne_of_gt hlt
      have hb12 := below2 hb1 (below_alloc hb2)
      have HT2 := Lib.hid (HT.out.below hb12)
      have HC2 := Lib.hid (hC.below hb2)
      clear hb1 hb2 HT1 hC
      go_wp2_with fail
      refine (HSp.out _).mono ?_
      rintro e w3 ⟨rfl, hb3⟩
      have HX3 := Lib.hid ((Cells3.new w2 25 (.int .i64 vY) (.int .i64 vM) (.int .i64 vD)).below hb3)
      have HC3 := Lib.hid ((HC2.out.alloc (.cells #[.int .i64 vY, .int .i64 vM, .int .i64 vD] 25)).below hb3)
      have hb13 := below2 hb12 (below_alloc hb3)
      have HT3 := Lib.hid ((HT.out.below hb13).alloc (.cells #[.int .i64 vY, .int .i64 vM, .int .i64 vD] 25))
      clear c0 c1 c2 hlt hne hne' HC2 HT2
      obtain ⟨c0, c1, c2, -, -, -⟩ := HC3.out
      obtain ⟨x0, x1, x2, -, -, -⟩ := HX3.out
      have hlt := cell3_lt hb3
      have hne := Nat.ne_of_lt hlt
      have hne' := Nat.ne_of_gt hlt
      have hlu := HC3.out.lt
      have hnu := Nat.ne_of_lt hlu
      have hnu' := Nat.ne_of_gt hlu
      clear hb12 hb3
      go_wp2_with fail
      go_ret
      exact ⟨rfl, hb13.alloc hb13.size _⟩
    · skip
      have HO := Lib.hid hok
      have HN := Lib.hid hn
      obtain ⟨vY, hvY⟩ : ∃ v, v = (0 : Int) := ⟨_, rfl⟩
      obtain ⟨vM, hvM⟩ : ∃ v, v = (0 : Int) := ⟨_, rfl⟩
      obtain ⟨vD, hvD⟩ : ∃ v, v = (0 : Int) := ⟨_, rfl⟩
      have HV := Lib.hid (And.intro hvY (And.intro hvM hvD))
      have HI := Lib.hid (show ∀ w', Tab w' → Calls Tryd.prog 23 #[.agg #[.int .i64 y, .int .i64 k, .int .i64 d]] w' fun e w'' => e = .returned (.tuple #[.agg #[.int .i64 vY, .int .i64 vM, .int .i64 vD], .bool false]) ∧ Below w'.heap.size w' w'' from fun w' hT' => by subst hvY; subst hvM; subst hvD; exact WeekDate_i_late _ _ _ w' HO.out HN.out)
      have HSp := Lib.hid (show ∀ w', Calls Tryd.prog 21 #[.agg #[.int .i64 y, .int .i64 k, .int .i64 d]] w' fun e w'' => e = .returned (.tuple #[.agg #[.int .i64 vY, .int .i64 vM, .int .i64 vD], .bool false]) ∧ Below w'.heap.size w' w'' from fun w' => by subst hvY; subst hvM; subst hvD; exact WeekDate_s_late _ _ _ w' HO.out HN.out)
      clear hok hvY hvM hvD
      go_wp2_with fail
      refine (HI.out _ HT1.out).mono ?_
      rintro e w2 ⟨rfl, hb2⟩
      obtain ⟨c0, c1, c2⟩ := agg3_keep hb2
      have hlt := cell3_lt hb2
      have hne := Nat.ne_of_lt hlt
      have hne' := Nat.ne_of_gt hlt
      have hb12 := below2 hb1 (below_alloc hb2)
      have HT2 := Lib.hid (HT.out.below hb12)
      have HC2 := Lib.hid (hC.below hb2)
      clear hb1 hb2 HT1 hC
      go_wp2_with fail
      refine (HSp.out _).mono ?_
      rintro e w3 ⟨rfl, hb3⟩
      have HX3 := Lib.hid ((Cells3.new w2 25 (.int .i64 vY) (.int .i64 vM) (.int .i64 vD)).below hb3)
      have HC3 := Lib.hid ((HC2.out.alloc (.cells #[.int .i64 vY, .int .i64 vM, .int .i64 vD] 25)).below hb3)
      have hb13 := below2 hb12 (below_alloc hb3)
      have HT3 := Lib.hid ((HT.out.below hb13).alloc (.cells #[.int .i64 vY, .int .i64 vM, .int .i64 vD] 25))
      clear c0 c1 c2 hlt hne hne' HC2 HT2
      obtain ⟨c0, c1, c2, -, -, -⟩ := HC3.out
      obtain ⟨x0, x1, x2, -, -, -⟩ := HX3.out
      have hlt := cell3_lt hb3
      have hne := Nat.ne_of_lt hlt
      have hne' := Nat.ne_of_gt hlt
      have hlu := HC3.out.lt
      have hnu := Nat.ne_of_lt hlu
      have hnu' := Nat.ne_of_gt hlu
      clear hb12 hb3
      go_wp2_with fail
      go_ret
      exact ⟨rfl, hb13.alloc hb13.size _⟩
    · skip
      have HO := Lib.hid hok
      have HN := Lib.hid hn
      obtain ⟨vY, hvY⟩ : ∃ v, v = Cal.yo (Cal.wnum y k d) := ⟨_, rfl⟩
      obtain ⟨vM, hvM⟩ : ∃ v, v = Cal.mo (Cal.wnum y k d) := ⟨_, rfl⟩
      obtain ⟨vD, hvD⟩ : ∃ v, v = Cal.dd (Cal.wnum y k d) := ⟨_, rfl⟩
      have HV := Lib.hid (And.intro hvY (And.intro hvM hvD))
      have HI := Lib.hid (show ∀ w', Tab w' → Calls Tryd.prog 23 #[.agg #[.int .i64 y, .int .i64 k, .int .i64 d]] w' fun e w'' => e = .returned (.tuple #[.agg #[.int .i64 vY, .int .i64 vM, .int .i64 vD], .bool true]) ∧ Below w'.heap.size w' w'' from fun w' hT' => by subst hvY; subst hvM; subst hvD; exact WeekDate_i_yes _ _ _ w' hT' HO.out HN.out)
      have HSp := Lib.hid (show ∀ w', Calls Tryd.prog 21 #[.agg #[.int .i64 y, .int .i64 k, .int .i64 d]] w' fun e w'' => e = .returned (.tuple #[.agg #[.int .i64 vY, .int .i64 vM, .int .i64 vD], .bool true]) ∧ Below w'.heap.size w' w'' from fun w' => by subst hvY; subst hvM; subst hvD; exact WeekDate_s_yes _ _ _ w' HO.out HN.out)
      clear hok hvY hvM hvD
      go_wp2_with fail
      refine (HI.out _ HT1.out).mono ?_
      rintro e w2 ⟨rfl, hb2⟩
      obtain ⟨c0, c1, c2⟩ := agg3_keep hb2
      have hlt := cell3_lt hb2
      have hne := Nat.ne_of_lt hlt
      have hne' := Nat.ne_of_gt hlt
      have hb12 := below2 hb1 (below_alloc hb2)
      have HT2 := Lib.hid (HT.out.below hb12)
      have HC2 := Lib.hid (hC.below hb2)
      clear hb1 hb2 HT1 hC
      go_wp2_with fail
      refine (HSp.out _).mono ?_
      rintro e w3 ⟨rfl, hb3⟩
      have HX3 := Lib.hid ((Cells3.new w2 25 (.int .i64 vY) (.int .i64 vM) (.int .i64 vD)).below hb3)
      have HC3 := Lib.hid ((HC2.out.alloc (.cells #[.int .i64 vY, .int .i64 vM, .int .i64 vD] 25)).below hb3)
      have hb13 := below2 hb12 (below_alloc hb3)
      have HT3 := Lib.hid ((HT.out.below hb13).alloc (.cells #[.int .i64 vY, .int .i64 vM, .int .i64 vD] 25))
      clear c0 c1 c2 hlt hne hne' HC2 HT2
      obtain ⟨c0, c1, c2, -, -, -⟩ := HC3.out
      obtain ⟨x0, x1, x2, -, -, -⟩ := HX3.out
      have hlt := cell3_lt hb3
      have hne := Nat.ne_of_lt hlt
      have hne' := Nat.ne_of_gt hlt
      have hlu := HC3.out.lt
      have hnu := Nat.ne_of_lt hlu
      have hnu' := Nat.ne_of_gt hlu
      clear hb12 hb3
      have hnb := (Cal.wnum_bd HO.out).2.2.1
      have HD := Lib.hid (Cal.dt_ok hnb HN.out)
      have hOk := Lib.hid (show Cal.Ok vY vM vD from by obtain ⟨e1, e2, e3⟩ := HV.out; rw [e1, e2, e3]; exact HD.out.1)
      have hNum := Lib.hid (show Cal.num vY vM vD = Cal.wnum y k d from by obtain ⟨e1, e2, e3⟩ := HV.out; rw [e1, e2, e3]; exact HD.out.2)
      have HW := Lib.hid (Cal.wnum_of HO.out HN.out)
      have HWk := Lib.hid (show ∀ w', Tab w' → Calls Tryd.prog 19 #[.agg #[.int .i64 vY, .int .i64 vM, .int .i64 vD]] w' fun e w'' => e = .returned (.tuple #[.agg #[.int .i64 y, .int .i64 k, .int .i64 d], .bool true]) ∧ Below w'.heap.size w' w'' from fun w' hT' => by
        have := WeekOf_i_yes _ _ _ w' hT' hOk.out
        rw [hNum.out, HW.out.1, HW.out.2.1, HW.out.2.2] at this
        exact this)
      go_wp2_with fail
      refine (HWk.out _ HT3.out).mono ?_
      rintro e w4 ⟨rfl, hb4⟩
      have HC4 := Lib.hid ((HC3.out.alloc (.cells #[.int .i64 vY, .int .i64 vM, .int .i64 vD] 25)).below hb4)
      have hb14 := below2 hb13 (below_alloc hb4)
      clear c0 c1 c2 x0 x1 x2 hlt hne hne' hlu hnu hnu' HC3 HX3 HT3 hb13 hb4
      obtain ⟨c0, c1, c2, -, -, -⟩ := HC4.out
      have hlu := HC4.out.lt
      have hnu := Nat.ne_of_lt hlu
      have hnu' := Nat.ne_of_gt hlu
      go_wp2
      go_ret
      exact ⟨rfl, hb14.alloc hb14.size _⟩
set_option maxHeartbeats 1600000 in
theorem walk_WeekDateNext (a : Option Addr) (len cap : Nat) (z : List Int) (w : World) (h : IsRow .u8 w a len cap z) (hT : Tab w) : Calls Tryd.prog 10 #[.slice a len cap] w fun e w' => e = .returned (.bool true) ∧ Below w.heap.size w w' := by
  obtain ⟨hl, hm⟩ := row_len h
  have hB := Bytes.of_row h
  clear h
  have hm' := hm
  unfold maxLen at hm'
  have HT := Lib.hid hT
  clear hT
  by_cases hbig : (1048576 : Int) < (len : Int)
  · go_enter Tryd.func10, Tryd.ntmps10
    go_wp2
    go_ret
    exact ⟨rfl, Below.refl _ _⟩
  · go_enter Tryd.func10, Tryd.ntmps10
    go_wp2_with fail
    refine (DrawWeekDate_any a len cap w hl hm hB).mono ?_
    rintro e w1 ⟨y, k, d, y0, y1, m0, m1, d0, d1, rfl, hb1⟩
    clear hB
    have HT1 := Lib.hid ((HT.out.below hb1).alloc (.cells #[.int .i64 y, .int .i64 k, .int .i64 d] 29))
    have hC := Cells3.new w1 29 (.int .i64 y) (.int .i64 k) (.int .i64 d)
    rcases wdate_split y k d with hok | ⟨hok, hn⟩ | ⟨hok, hn⟩
    · skip
      have HO := Lib.hid hok
      obtain ⟨vY, hvY⟩ : ∃ v, v = (0 : Int) := ⟨_, rfl⟩
      obtain ⟨vM, hvM⟩ : ∃ v, v = (0 : Int) := ⟨_, rfl⟩
      obtain ⟨vD, hvD⟩ : ∃ v, v = (0 : Int) := ⟨_, rfl⟩
      have HV := Lib.hid (And.intro hvY (And.intro hvM hvD))
      have HI := Lib.hid (show ∀ w', Tab w' → Calls Tryd.prog 23 #[.agg #[.int .i64 y, .int .i64 k, .int .i64 d]] w' fun e w'' => e = .returned (.tuple #[.agg #[.int .i64 vY, .int .i64 vM, .int .i64 vD], .bool false]) ∧ Below w'.heap.size w' w'' from fun w' hT' => by subst hvY; subst hvM; subst hvD; exact WeekDate_i_no _ _ _ w' HO.out)
      have HSp := Lib.hid (show ∀ w', Calls Tryd.prog 21 #[.agg #[.int .i64 y, .int .i64 k, .int .i64 d]] w' fun e w'' => e = .returned (.tuple #[.agg #[.int .i64 vY, .int .i64 vM, .int .i64 vD], .bool false]) ∧ Below w'.heap.size w' w'' from fun w' => by subst hvY; subst hvM; subst hvD; exact WeekDate_s_no _ _ _ w' HO.out)
      clear hok hvY hvM hvD
      go_wp2_with fail
      refine (HI.out _ HT1.out).mono ?_
      rintro e w2 ⟨rfl, hb2⟩
      obtain ⟨c0, c1, c2⟩ := agg3_keep hb2
      have hlt := cell3_lt hb2
      have hne := Nat.ne_of_lt hlt
      have hne' := Nat.ne_of_gt hlt
      have hb12 := below2 hb1 (below_alloc hb2)
      have HT2 := Lib.hid (HT.out.below hb12)
      have HC2 := Lib.hid (hC.below hb2)
      clear hb1 hb2 HT1 hC
      go_wp2_with fail
      refine (HSp.out _).mono ?_
      rintro e w3 ⟨rfl, hb3⟩
      have HX3 := Lib.hid ((Cells3.new w2 25 (.int .i64 vY) (.int .i64 vM) (.int .i64 vD)).below hb3)
      have HC3 := Lib.hid ((HC2.out.alloc (.cells #[.int .i64 vY, .int .i64 vM, .int .i64 vD] 25)).below hb3)
      have hb13 := below2 hb12 (below_alloc hb3)
      have HT3 := Lib.hid ((HT.out.below hb13).alloc (.cells #[.int .i64 vY, .int .i64 vM, .int .i64 vD] 25))
      clear c0 c1 c2 hlt hne hne' HC2 HT2
      obtain ⟨c0, c1, c2, -, -, -⟩ := HC3.out
      obtain ⟨x0, x1, x2, -, -, -⟩ := HX3.out
      have hlt := cell3_lt hb3
      have hne := Nat.ne_of_lt hlt
      have hne' := Nat.ne_of_gt hlt
      have hlu := HC3.out.lt
      have hnu := Nat.ne_of_lt hlu
      have hnu' := Nat.ne_of_gt hlu
      clear hb12 hb3
      go_wp2_with fail
      go_quiet (fail)
      go_wp2
      go_ret
      exact ⟨rfl, below_drewN (hb13.alloc hb13.size _) _⟩
    · skip
      have HO := Lib.hid hok
      have HN := Lib.hid hn
      obtain ⟨vY, hvY⟩ : ∃ v, v = (0 : Int) := ⟨_, rfl⟩
      obtain ⟨vM, hvM⟩ : ∃ v, v = (0 : Int) := ⟨_, rfl⟩
      obtain ⟨vD, hvD⟩ : ∃ v, v = (0 : Int) := ⟨_, rfl⟩
      have HV := Lib.hid (And.intro hvY (And.intro hvM hvD))
      have HI := Lib.hid (show ∀ w', Tab w' → Calls Tryd.prog 23 #[.agg #[.int .i64 y, .int .i64 k, .int .i64 d]] w' fun e w'' => e = .returned (.tuple #[.agg #[.int .i64 vY, .int .i64 vM, .int .i64 vD], .bool false]) ∧ Below w'.heap.size w' w'' from fun w' hT' => by subst hvY; subst hvM; subst hvD; exact WeekDate_i_late _ _ _ w' HO.out HN.out)
      have HSp := Lib.hid (show ∀ w', Calls Tryd.prog 21 #[.agg #[.int .i64 y, .int .i64 k, .int .i64 d]] w' fun e w'' => e = .returned (.tuple #[.agg #[.int .i64 vY, .int .i64 vM, .int .i64 vD], .bool false]) ∧ Below w'.heap.size w' w'' from fun w' => by subst hvY; subst hvM; subst hvD; exact WeekDate_s_late _ _ _ w' HO.out HN.out)
      clear hok hvY hvM hvD
      go_wp2_with fail
      refine (HI.out _ HT1.out).mono ?_
      rintro e w2 ⟨rfl, hb2⟩
      obtain ⟨c0, c1, c2⟩ := agg3_keep hb2
      have hlt := cell3_lt hb2
      have hne := Nat.ne_of_lt hlt
      have hne' := Nat.ne_of_gt hlt
      have hb12 := below2 hb1 (below_alloc hb2)
      have HT2 := Lib.hid (HT.out.below hb12)
      have HC2 := Lib.hid (hC.below hb2)
      clear hb1 hb2 HT1 hC
      go_wp2_with fail
      refine (HSp.out _).mono ?_
      rintro e w3 ⟨rfl, hb3⟩
      have HX3 := Lib.hid ((Cells3.new w2 25 (.int .i64 vY) (.int .i64 vM) (.int .i64 vD)).below hb3)
      have HC3 := Lib.hid ((HC2.out.alloc (.cells #[.int .i64 vY, .int .i64 vM, .int .i64 vD] 25)).below hb3)
      have hb13 := below2 hb12 (below_alloc hb3)
      have HT3 := Lib.hid ((HT.out.below hb13).alloc (.cells #[.int .i64 vY, .int .i64 vM, .int .i64 vD] 25))
      clear c0 c1 c2 hlt hne hne' HC2 HT2
      obtain ⟨c0, c1, c2, -, -, -⟩ := HC3.out
      obtain ⟨x0, x1, x2, -, -, -⟩ := HX3.out
      have hlt := cell3_lt hb3
      have hne := Nat.ne_of_lt hlt
      have hne' := Nat.ne_of_gt hlt
      have hlu := HC3.out.lt
      have hnu := Nat.ne_of_lt hlu
      have hnu' := Nat.ne_of_gt hlu
      clear hb12 hb3
      go_wp2_with fail
      go_quiet (fail)
      go_wp2
      go_ret
      exact ⟨rfl, below_drewN (hb13.alloc hb13.size _) _⟩
    · skip
      have HO := Lib.hid hok
      have HN := Lib.hid hn
      obtain ⟨vY, hvY⟩ : ∃ v, v = Cal.yo (Cal.wnum y k d) := ⟨_, rfl⟩
      obtain ⟨vM, hvM⟩ : ∃ v, v = Cal.mo (Cal.wnum y k d) := ⟨_, rfl⟩
      obtain ⟨vD, hvD⟩ : ∃ v, v = Cal.dd (Cal.wnum y k d) := ⟨_, rfl⟩
      have HV := Lib.hid (And.intro hvY (And.intro hvM hvD))
      have HI := Lib.hid (show ∀ w', Tab w' → Calls Tryd.prog 23 #[.agg #[.int .i64 y, .int .i64 k, .int .i64 d]] w' fun e w'' => e = .returned (.tuple #[.agg #[.int .i64 vY, .int .i64 vM, .int .i64 vD], .bool true]) ∧ Below w'.heap.size w' w'' from fun w' hT' => by subst hvY; subst hvM; subst hvD; exact WeekDate_i_yes _ _ _ w' hT' HO.out HN.out)
      have HSp := Lib.hid (show ∀ w', Calls Tryd.prog 21 #[.agg #[.int .i64 y, .int .i64 k, .int .i64 d]] w' fun e w'' => e = .returned (.tuple #[.agg #[.int .i64 vY, .int .i64 vM, .int .i64 vD], .bool true]) ∧ Below w'.heap.size w' w'' from fun w' => by subst hvY; subst hvM; subst hvD; exact WeekDate_s_yes _ _ _ w' HO.out HN.out)
      clear hok hvY hvM hvD
      go_wp2_with fail
      refine (HI.out _ HT1.out).mono ?_
      rintro e w2 ⟨rfl, hb2⟩
      obtain ⟨c0, c1, c2⟩ := agg3_keep hb2
      have hlt := cell3_lt hb2
      have hne := Nat.ne_of_lt hlt
      have hne' := Nat.ne_of_gt hlt
      have hb12 := below2 hb1 (below_alloc hb2)
      have HT2 := Lib.hid (HT.out.below hb12)
      have HC2 := Lib.hid (hC.below hb2)
      clear hb1 hb2 HT1 hC
      go_wp2_with fail
      refine (HSp.out _).mono ?_
      rintro e w3 ⟨rfl, hb3⟩
      have HX3 := Lib.hid ((Cells3.new w2 25 (.int .i64 vY) (.int .i64 vM) (.int .i64 vD)).below hb3)
      have HC3 := Lib.hid ((HC2.out.alloc (.cells #[.int .i64 vY, .int .i64 vM, .int .i64 vD] 25)).below hb3)
      have hb13 := below2 hb12 (below_alloc hb3)
      have HT3 := Lib.hid ((HT.out.below hb13).alloc (.cells #[.int .i64 vY, .int .i64 vM, .int .i64 vD] 25))
      clear c0 c1 c2 hlt hne hne' HC2 HT2
      obtain ⟨c0, c1, c2, -, -, -⟩ := HC3.out
      obtain ⟨x0, x1, x2, -, -, -⟩ := HX3.out
      have hlt := cell3_lt hb3
      have hne := Nat.ne_of_lt hlt
      have hne' := Nat.ne_of_gt hlt
      have hlu := HC3.out.lt
      have hnu := Nat.ne_of_lt hlu
      have hnu' := Nat.ne_of_gt hlu
      clear hb12 hb3
      have hnb := (Cal.wnum_bd HO.out).2.2.1
      have HD := Lib.hid (Cal.dt_ok hnb HN.out)
      have hOk := Lib.hid (show Cal.Ok vY vM vD from by obtain ⟨e1, e2, e3⟩ := HV.out; rw [e1, e2, e3]; exact HD.out.1)
      have hNum := Lib.hid (show Cal.num vY vM vD = Cal.wnum y k d from by obtain ⟨e1, e2, e3⟩ := HV.out; rw [e1, e2, e3]; exact HD.out.2)
      have HW := Lib.hid (Cal.wnum_of HO.out HN.out)
      obtain ⟨h1, h2, k1, k2, d1', d2'⟩ := id HO.out
      by_cases hk : k = Cal.wks y
      · have qk := dt_ hk
        have hk' := Lib.hid hk
        clear hk
        go_wp2_with fail
        go_quiet ((go_at_call 27; exact quiet_l (WeeksOf_s_yes y _ h1 h2)))
        go_wp2
        go_ret
        exact ⟨rfl, below_drewN (hb13.alloc hb13.size _) _⟩
      · have qk := df_ hk
        go_wp2_with fail
        go_quiet ((go_at_call 27; exact quiet_l (WeeksOf_s_yes y _ h1 h2)))
        go_wp2_with fail
        have hw7 : Cal.wnum y (k + 1) d = Cal.wnum y k d + 7 := by unfold Cal.wnum; omega
        have hO2 : Cal.WOk y (k + 1) d := ⟨h1, h2, by omega, by omega, d1', d2'⟩
        have HO2 := Lib.hid hO2
        have hwn1 := HN.out
        have HN1 := Lib.hid (show ∀ w', Tab w' → Calls Tryd.prog 29 #[.agg #[.int .i64 vY, .int .i64 vM, .int .i64 vD]] w' fun e w'' => e = .returned (.int .i64 (Cal.wnum y k d)) ∧ Below w'.heap.size w' w'' from fun w' hT' => by
          have := DayNumber_i_yes _ _ _ w' hT' hOk.out
          rw [hNum.out] at this
          exact this)
        by_cases hx : Cal.wnum y (k + 1) d ≤ 3652058
        · obtain ⟨hk1, hk2⟩ := Cal.dt_ok (Cal.wnum_bd hO2).2.2.1 hx
          have hwi := WeekDate_i_yes y (k + 1) d
          rw [hw7] at hk1 hk2 hwi
          rw [hw7] at hx
          have HWi := Lib.hid (fun w' hT' => hwi w' hT' hO2 hx)
          clear hwi hO2
          generalize Cal.yo (Cal.wnum y k d + 7) = tY at *
          generalize Cal.mo (Cal.wnum y k d + 7) = tM at *
          generalize Cal.dd (Cal.wnum y k d + 7) = tD at *
          have HN2 := Lib.hid (show ∀ w', Tab w' → Calls Tryd.prog 29 #[.agg #[.int .i64 tY, .int .i64 tM, .int .i64 tD]] w' fun e w'' => e = .returned (.int .i64 (Cal.wnum y k d + 7)) ∧ Below w'.heap.size w' w'' from fun w' hT' => by
            have := DayNumber_i_yes _ _ _ w' hT' hk1
            rw [hk2] at this
            exact this)
          clear hk1 hk2 hw7
          refine (HWi.out _ (HT3.out.drewN _)).mono ?_
          rintro e w4 ⟨rfl, hb4⟩
          have HX4 := Lib.hid (((HX3.out.alloc (.cells #[.int .i64 vY, .int .i64 vM, .int .i64 vD] 25)).drewN _).below hb4)
          have hb14 := below2 (below_drewN (hb13.alloc hb13.size (.cells #[.int .i64 vY, .int .i64 vM, .int .i64 vD] 25)) _) hb4
          clear c0 c1 c2 x0 x1 x2 hlt hne hne' hlu hnu hnu' HC3 HX3 HT3 hb13 hb4
          obtain ⟨x0, x1, x2, -, -, -⟩ := HX4.out
          have hlt := HX4.out.lt
          have hne := Nat.ne_of_lt hlt
          have hne' := Nat.ne_of_gt hlt
          go_wp2_with fail
          have HS := Lib.hid (of6 (HX4.out.alloc (.cells #[.int .i64 tY, .int .i64 tM, .int .i64 tD] 25)) (Cells3.new w4 25 (.int .i64 tY) (.int .i64 tM) (.int .i64 tD)) (hb14.alloc hb14.size (.cells #[.int .i64 tY, .int .i64 tM, .int .i64 tD] 25)))
          have hB0 := Lib.hid (hb14.alloc hb14.size (.cells #[.int .i64 tY, .int .i64 tM, .int .i64 tD] 25))
          have e1 : IntKind.i64.wrap (Cal.wnum y k d + 7) = Cal.wnum y k d + 7 := IntWalk.i64_in _ ⟨by omega, by omega⟩
          clear hb14
          go_region_held3 (fun w' => w'.cell? ⟨w2.heap.size, 0, none⟩ = some (.int .i64 vY) ∧ w'.cell? ⟨w2.heap.size, 1, none⟩ = some (.int .i64 vM) ∧ w'.cell? ⟨w2.heap.size, 2, none⟩ = some (.int .i64 vD) ∧ w'.cell? ⟨w4.heap.size, 0, none⟩ = some (.int .i64 tY) ∧ w'.cell? ⟨w4.heap.size, 1, none⟩ = some (.int .i64 tM) ∧ w'.cell? ⟨w4.heap.size, 2, none⟩ = some (.int .i64 tD) ∧ Below w.heap.size w w') (first | exact HS.out | exact keep6_drew HS.out | exact keep6 hba (keep6_drew HS.out) | exact keep6 hbb (keep6 hba (keep6_drew HS.out))) (first | (go_at_call 29; ((with_reducible refine (HN2.out _ (HT.out.below hB0.out.drew)).mono ?_); rintro e wa ⟨rfl, hba⟩)) | (go_at_call 29; ((with_reducible refine (HN1.out _ (HT.out.below (below2 hB0.out.drew hba))).mono ?_); rintro e wb ⟨rfl, hbb⟩)))
          clear e1
          go_wp2
          go_ret
          exact ⟨rfl, below2 (below2 hB0.out.drew hba) hbb⟩
        · have hwi := WeekDate_i_late y (k + 1) d
          have HWi := Lib.hid (fun w' => hwi w' hO2 (by omega))
          have qx := dect (show 3652058 < Cal.wnum y k d + 7 by omega)
          clear hwi hO2 hw7 hx
          refine (HWi.out _).mono ?_
          rintro e w4 ⟨rfl, hb4⟩
          have HX4 := Lib.hid (((HX3.out.alloc (.cells #[.int .i64 vY, .int .i64 vM, .int .i64 vD] 25)).drewN _).below hb4)
          have hb14 := below2 (below_drewN (hb13.alloc hb13.size (.cells #[.int .i64 vY, .int .i64 vM, .int .i64 vD] 25)) _) hb4
          clear c0 c1 c2 x0 x1 x2 hlt hne hne' hlu hnu hnu' HC3 HX3 HT3 hb13 hb4
          obtain ⟨x0, x1, x2, -, -, -⟩ := HX4.out
          have hlt := HX4.out.lt
          have hne := Nat.ne_of_lt hlt
          have hne' := Nat.ne_of_gt hlt
          go_wp2_with fail
          refine (HN1.out _ ((HT.out.below hb14).alloc _)).mono ?_
          rintro e w5 ⟨rfl, hb5⟩
          go_wp2_with fail
          go_ret
          exact ⟨rfl, below2 hb14 (below_alloc hb5)⟩
end Go.Proofs.YtjgpfadoebnchaaDoor
