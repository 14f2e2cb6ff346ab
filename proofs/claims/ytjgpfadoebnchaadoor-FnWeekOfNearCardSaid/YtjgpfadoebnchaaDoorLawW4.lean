/-
  The walk of the law that a week belongs to the year with its Thursday: it returns true, and nothing that was there is written. Conditions: the table of the months reads as listed.
-/
import Derived.Test.YtjgpfadoebnchaaDoorLawW2
import Derived.Test.YtjgpfadoebnchaaDoorKeep9
namespace Go.Proofs.YtjgpfadoebnchaaDoor
open Go.RowKit Go.PlainAid
set_option linter.unusedVariables false

theorem below_up {w W : World} (h : Below w.heap.size w W) (o : Obj) : Below w.heap.size w (W.alloc o) := h.alloc h.size o
set_option maxHeartbeats 1600000 in
theorem walk_WeekOfNear (a : Option Addr) (len cap : Nat) (z : List Int) (w : World) (h : IsRow .u8 w a len cap z) (hT : Tab w) : Calls Tryd.prog 13 #[.slice a len cap] w fun e w' => e = .returned (.bool true) ∧ Below w.heap.size w w' := by
  obtain ⟨hl, hm⟩ := row_len h
  have hB := Bytes.of_row h
  clear h
  have hm' := hm
  unfold maxLen at hm'
  have HT := Lib.hid hT
  clear hT
  by_cases hbig : (1048576 : Int) < (len : Int)
  · go_enter Tryd.func13, Tryd.ntmps13
    go_wp2
    go_ret
    exact ⟨rfl, Below.refl _ _⟩
  · go_enter Tryd.func13, Tryd.ntmps13
    go_wp2_with fail
    refine (DrawWeekOf_any a len cap w hl hm hB).mono ?_
    rintro e w1 ⟨y, m, d, y0, y1, m0, m1, d0, d1, rfl, hb1⟩
    clear hB
    have HT1 := Lib.hid ((HT.out.below hb1).alloc (.cells #[.int .i64 y, .int .i64 m, .int .i64 d] 25))
    have hC := Cells3.new w1 25 (.int .i64 y) (.int .i64 m) (.int .i64 d)
    by_cases hok : Cal.Ok y m d
    · skip
      have HO := Lib.hid hok
      have hn := Cal.num_bd hok
      obtain ⟨vY, hvY⟩ : ∃ v, v = Cal.wy (Cal.num y m d) := ⟨_, rfl⟩
      obtain ⟨vK, hvK⟩ : ∃ v, v = Cal.wk (Cal.num y m d) := ⟨_, rfl⟩
      obtain ⟨vD, hvD⟩ : ∃ v, v = Cal.wd (Cal.num y m d) := ⟨_, rfl⟩
      have HV := Lib.hid (And.intro hvY (And.intro hvK hvD))
      have HI := Lib.hid (show ∀ w', Tab w' → Calls Tryd.prog 19 #[.agg #[.int .i64 y, .int .i64 m, .int .i64 d]] w' fun e w'' => e = .returned (.tuple #[.agg #[.int .i64 vY, .int .i64 vK, .int .i64 vD], .bool true]) ∧ Below w'.heap.size w' w'' from fun w' hT' => by subst hvY; subst hvK; subst hvD; exact WeekOf_i_yes _ _ _ w' hT' HO.out)
      have HSp := Lib.hid (show ∀ w', Calls Tryd.prog 18 #[.agg #[.int .i64 y, .int .i64 m, .int .i64 d]] w' fun e w'' => e = .returned (.tuple #[.agg #[.int .i64 vY, .int .i64 vK, .int .i64 vD], .bool true]) ∧ Below w'.heap.size w' w'' from fun w' => by subst hvY; subst hvK; subst hvD; exact WeekOf_s_yes _ _ _ w' HO.out)
      clear hok hvY hvK hvD
      go_wp2_with fail
      refine (HI.out _ HT1.out).mono ?_
      rintro e w2 ⟨rfl, hb2⟩
      obtain ⟨c0, c1, c2⟩ := agg3_keep hb2
      have hlt := cell3_lt hb2
      have hne := Nat.ne_of_lt hlt
      have hne' := Nat.ne_of_gt hlt
      have hb12 := below2 hb1 (below_alloc hb2)
      have HT2 := Lib.hid (HT.out.below hb12)
      have HC2 := Lib.hid (hC.below hb2)
      clear hb1 hb2 HT1 hC
      go_wp2_with fail
      refine (HSp.out _).mono ?_
      rintro e w3 ⟨rfl, hb3⟩
      have HX3 := Lib.hid ((Cells3.new w2 29 (.int .i64 vY) (.int .i64 vK) (.int .i64 vD)).below hb3)
      have HC3 := Lib.hid ((HC2.out.alloc (.cells #[.int .i64 vY, .int .i64 vK, .int .i64 vD] 29)).below hb3)
      have hb13 := below2 hb12 (below_alloc hb3)
      have HT3 := Lib.hid ((HT.out.below hb13).alloc (.cells #[.int .i64 vY, .int .i64 vK, .int .i64 vD] 29))
      clear c0 c1 c2 hlt hne hne' HC2 HT2
      obtain ⟨c0, c1, c2, -, -, -⟩ := HC3.out
      obtain ⟨x0, x1, x2, -, -, -⟩ := HX3.out
      have hlt := cell3_lt hb3
      have hne := Nat.ne_of_lt hlt
      have hne' := Nat.ne_of_gt hlt
      have hlu := HC3.out.lt
      have hnu := Nat.ne_of_lt hlu
      have hnu' := Nat.ne_of_gt hlu
      clear hb12 hb3
      have HDT := Lib.hid (show ∀ w', Tab w' → Calls Tryd.prog 30 #[.int .i64 (Cal.num y m d - Cal.wd (Cal.num y m d) + 4)] w' fun e w'' => e = .returned (.tuple #[.agg #[.int .i64 vY, .int .i64 (Cal.mo (7 * (Cal.num y m d / 7) + 3)), .int .i64 (Cal.dd (7 * (Cal.num y m d / 7) + 3))], .bool true]) ∧ Below w'.heap.size w' w'' from fun w' hT' => by
        rw [HV.out.1, Cal.th_eq]
        exact DateOf_i_yes _ w' hT' (Cal.th_bd hn.1 hn.2).1 (Cal.th_bd hn.1 hn.2).2)
      have hwd := Cal.wd_bd (Cal.num y m d)
      go_wp2_with fail
      have HS := Lib.hid (of6 (HC3.out.alloc (.cells #[.int .i64 vY, .int .i64 vK, .int .i64 vD] 29)) (HX3.out.alloc (.cells #[.int .i64 vY, .int .i64 vK, .int .i64 vD] 29)) (hb13.alloc hb13.size (.cells #[.int .i64 vY, .int .i64 vK, .int .i64 vD] 29)))
      have hB0 := hb13.alloc hb13.size (.cells #[.int .i64 vY, .int .i64 vK, .int .i64 vD] 29)
      have hs13 := hb13.size
      have e1 : IntKind.i64.wrap (Cal.num y m d - Cal.wd (Cal.num y m d)) = Cal.num y m d - Cal.wd (Cal.num y m d) := IntWalk.i64_in _ ⟨by omega, by omega⟩
      have e2 : IntKind.i64.wrap (Cal.num y m d - Cal.wd (Cal.num y m d) + 4) = Cal.num y m d - Cal.wd (Cal.num y m d) + 4 := IntWalk.i64_in _ ⟨by omega, by omega⟩
      clear hb13 hwd
      go_region_held3 (fun w' => w'.cell? ⟨w1.heap.size, 0, none⟩ = some (.int .i64 y) ∧ w'.cell? ⟨w1.heap.size, 1, none⟩ = some (.int .i64 m) ∧ w'.cell? ⟨w1.heap.size, 2, none⟩ = some (.int .i64 d) ∧ w'.cell? ⟨w2.heap.size, 0, none⟩ = some (.int .i64 vY) ∧ w'.cell? ⟨w2.heap.size, 1, none⟩ = some (.int .i64 vK) ∧ w'.cell? ⟨w2.heap.size, 2, none⟩ = some (.int .i64 vD) ∧ Below w.heap.size w w') ((repeat (first | (with_reducible exact HS.out) | (with_reducible refine keep6 hbc ?_) | (with_reducible refine keep6 hbb ?_) | (with_reducible refine keep6 hba ?_) | (with_reducible refine keep6_drew ?_) | (with_reducible refine keep6_alloc _ ?_) | refine keep6_set (by first | omega | (simp; omega)) (by first | omega | (simp; omega)) (by first | omega | (simp; omega)) _ _ _ ?_))) (first | (go_at_call 29; refine (DayNumber_i_yes y m d _ (HT.out.below (by repeat (first | (with_reducible exact hB0) | (with_reducible refine below2 ?_ hbb) | (with_reducible refine below2 ?_ hba) | (with_reducible refine Below.drew ?_) | (with_reducible refine below_up ?_ _)))) HO.out).mono ?_; rintro e wa ⟨rfl, hba⟩; have sa := hba.size; (try simp at sa); obtain ⟨hca, hfa⟩ := bcell hba; (try have za : w3.heap.size + 1 < wa.heap.size := by omega)) | (go_at_call 17; refine (Weekday_i_yes y m d _ (HT.out.below (by repeat (first | (with_reducible exact hB0) | (with_reducible refine below2 ?_ hbb) | (with_reducible refine below2 ?_ hba) | (with_reducible refine Below.drew ?_) | (with_reducible refine below_up ?_ _)))) HO.out).mono ?_; rintro e wb ⟨rfl, hbb⟩; have sb := hbb.size; (try simp at sb); obtain ⟨hcb, hfb⟩ := bcell hbb; (try have zb : wa.heap.size < wb.heap.size := by omega); (try have zb2 : w3.heap.size + 1 < wb.heap.size := by omega)) | (go_at_call 30; refine (HDT.out _ (HT.out.below (by repeat (first | (with_reducible exact hB0) | (with_reducible refine below2 ?_ hbb) | (with_reducible refine below2 ?_ hba) | (with_reducible refine Below.drew ?_) | (with_reducible refine below_up ?_ _))))).mono ?_; rintro e wc ⟨rfl, hbc⟩; have sc := hbc.size; (try simp at sc); obtain ⟨hcc, hfc⟩ := bcell hbc; (try have zc : wa.heap.size < wc.heap.size := by omega); (try have zc2 : w3.heap.size + 1 < wc.heap.size := by omega); (try have zc3 : wb.heap.size < wc.heap.size := by omega)))
      all_goals clear e1 e2
      all_goals go_wp2
      all_goals go_ret
      all_goals refine ⟨rfl, ?_⟩
      all_goals (repeat (first | (with_reducible exact hB0) | (with_reducible refine below2 ?_ hbc) | (with_reducible refine below2 ?_ hbb) | (with_reducible refine below2 ?_ hba) | (with_reducible refine Below.drew ?_) | (with_reducible refine below_up ?_ _) | (with_reducible refine Below.setCell ?_ (by first | omega | (simp; omega)) _)))
    · skip
      have HO := Lib.hid hok
      obtain ⟨vY, hvY⟩ : ∃ v : Int, v = 0 := ⟨_, rfl⟩
      obtain ⟨vK, hvK⟩ : ∃ v : Int, v = 0 := ⟨_, rfl⟩
      obtain ⟨vD, hvD⟩ : ∃ v : Int, v = 0 := ⟨_, rfl⟩
      have HI := Lib.hid (show ∀ w', Tab w' → Calls Tryd.prog 19 #[.agg #[.int .i64 y, .int .i64 m, .int .i64 d]] w' fun e w'' => e = .returned (.tuple #[.agg #[.int .i64 vY, .int .i64 vK, .int .i64 vD], .bool false]) ∧ Below w'.heap.size w' w'' from fun w' hT' => by subst hvY; subst hvK; subst hvD; exact WeekOf_i_no _ _ _ w' hT' HO.out)
      have HSp := Lib.hid (show ∀ w', Calls Tryd.prog 18 #[.agg #[.int .i64 y, .int .i64 m, .int .i64 d]] w' fun e w'' => e = .returned (.tuple #[.agg #[.int .i64 vY, .int .i64 vK, .int .i64 vD], .bool false]) ∧ Below w'.heap.size w' w'' from fun w' => by subst hvY; subst hvK; subst hvD; exact WeekOf_s_no _ _ _ w' HO.out)
      clear hok hvY hvK hvD
      go_wp2_with fail
      refine (HI.out _ HT1.out).mono ?_
      rintro e w2 ⟨rfl, hb2⟩
      obtain ⟨c0, c1, c2⟩ := agg3_keep hb2
      have hlt := cell3_lt hb2
      have hne := Nat.ne_of_lt hlt
      have hne' := Nat.ne_of_gt hlt
      have hb12 := below2 hb1 (below_alloc hb2)
      have HT2 := Lib.hid (HT.out.below hb12)
      have HC2 := Lib.hid (hC.below hb2)
      clear hb1 hb2 HT1 hC
      go_wp2_with fail
      refine (HSp.out _).mono ?_
      rintro e w3 ⟨rfl, hb3⟩
      have HX3 := Lib.hid ((Cells3.new w2 29 (.int .i64 vY) (.int .i64 vK) (.int .i64 vD)).below hb3)
      have HC3 := Lib.hid ((HC2.out.alloc (.cells #[.int .i64 vY, .int .i64 vK, .int .i64 vD] 29)).below hb3)
      have hb13 := below2 hb12 (below_alloc hb3)
      have HT3 := Lib.hid ((HT.out.below hb13).alloc (.cells #[.int .i64 vY, .int .i64 vK, .int .i64 vD] 29))
      clear c0 c1 c2 hlt hne hne' HC2 HT2
      obtain ⟨c0, c1, c2, -, -, -⟩ := HC3.out
      obtain ⟨x0, x1, x2, -, -, -⟩ := HX3.out
      have hlt := cell3_lt hb3
      have hne := Nat.ne_of_lt hlt
      have hne' := Nat.ne_of_gt hlt
      have hlu := HC3.out.lt
      have hnu := Nat.ne_of_lt hlu
      have hnu' := Nat.ne_of_gt hlu
      clear hb12 hb3
      go_wp2_with fail
      go_ret
      exact ⟨rfl, hb13.alloc hb13.size _⟩
end Go.Proofs.YtjgpfadoebnchaaDoor
