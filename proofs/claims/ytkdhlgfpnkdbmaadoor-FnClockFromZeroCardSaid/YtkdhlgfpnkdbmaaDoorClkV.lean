/-
  Contracts: the text of a time, by the reference. Conditions: as each states.
-/
import Derived.Test.YtkdhlgfpnkdbmaaDoorClkU
namespace Go.Proofs.YtkdhlgfpnkdbmaaDoor
open Go.RowKit Go.PlainAid
set_option linter.unusedVariables false

theorem dig2_s (n : Nat) (w : World) (h : n ≤ 999) : Calls Tryd.prog 45 #[.int .i64 (n : Int), .int .i64 2] w fun e w' => e = .returned (.string (bs (digL n 2))) ∧ Below w.heap.size w w' := l1Put_any n 2 w (by omega) (by omega)
theorem fr_s1 (l : Nat) (w : World) (h : l ≤ 999) : Calls Tryd.prog 45 #[.int .i64 ((l : Int) / 100), .int .i64 1] w fun e w' => e = .returned (.string (bs (digL (l / 100) 1))) ∧ Below w.heap.size w w' := by
  have := l1Put_any (l / 100) 1 w (by omega) (by omega)
  rw [show ((l / 100 : Nat) : Int) = (l : Int) / 100 by omega] at this
  exact this
theorem fr_s2 (l : Nat) (w : World) (h : l ≤ 999) : Calls Tryd.prog 45 #[.int .i64 ((l : Int) / 10), .int .i64 2] w fun e w' => e = .returned (.string (bs (digL (l / 10) 2))) ∧ Below w.heap.size w w' := by
  have := l1Put_any (l / 10) 2 w (by omega) (by omega)
  rw [show ((l / 10 : Nat) : Int) = (l : Int) / 10 by omega] at this
  exact this
theorem fr_s3 (l : Nat) (w : World) (h : l ≤ 999) : Calls Tryd.prog 45 #[.int .i64 (l : Int), .int .i64 3] w fun e w' => e = .returned (.string (bs (digL l 3))) ∧ Below w.heap.size w w' := l1Put_any l 3 w (by omega) (by omega)
theorem cat46 {P : Program} (l k q : Nat) (hk : k ≤ 3) (e : fracL l = 46 :: digL q k) (w : World) : (Op.stringOp .add ⟨#[46]⟩ (bs (digL q k))).run P w = .ok (.string (cp5 l)) w := by
  have := cat_law (P := P) [46] (digL q k) (by rw [digL_length]; simp; omega) w
  rw [cp5, e]
  exact this
theorem l5Fraction_any (l : Nat) (w : World) (h : l ≤ 999) : Calls Tryd.prog 46 #[.int .i64 (l : Int)] w fun e w' => e = .returned (.string (cp5 l)) ∧ Below w.heap.size w w' := by
  by_cases h0 : l = 0
  · have q0 : ((l : Int) == 0) = true := beq_iff_eq.2 (by omega)
    have HE := Lib.hid (show (⟨#[]⟩ : ByteArray) = cp5 l by rw [h0]; rfl)
    clear h0
    go_enter Tryd.func46, Tryd.ntmps46
    go_wp2_with fail
    go_ret
    exact ⟨str_ret HE.out, Below.refl _ _⟩
  · have q0 : ((l : Int) == 0) = false := beq_eq_false_iff_ne.2 (by omega)
    by_cases h1 : l % 100 = 0
    · have q1 : ((l : Int) % 100 == 0) = true := beq_iff_eq.2 (by omega)
      have k5 := cat46 (P := Tryd.prog) l 1 (l / 100) (by omega) (by unfold fracL; rw [if_neg h0, if_pos h1])
      clear h0 h1
      go_enter Tryd.func46, Tryd.ntmps46
      go_wp2_with (first | (go_at_call 45; (refine (fr_s1 l _ h).mono ?_; rintro e wd ⟨rfl, hb⟩)))
      go_ret
      exact ⟨rfl, hb⟩
    · have q1 : ((l : Int) % 100 == 0) = false := beq_eq_false_iff_ne.2 (by omega)
      by_cases h2 : l % 10 = 0
      · have q2 : ((l : Int) % 10 == 0) = true := beq_iff_eq.2 (by omega)
        have k5 := cat46 (P := Tryd.prog) l 2 (l / 10) (by omega) (by unfold fracL; rw [if_neg h0, if_neg h1, if_pos h2])
        clear h0 h1 h2
        go_enter Tryd.func46, Tryd.ntmps46
        go_wp2_with (first | (go_at_call 45; (refine (fr_s2 l _ h).mono ?_; rintro e wd ⟨rfl, hb⟩)))
        go_ret
        exact ⟨rfl, hb⟩
      · have q2 : ((l : Int) % 10 == 0) = false := beq_eq_false_iff_ne.2 (by omega)
        have k5 := cat46 (P := Tryd.prog) l 3 l (by omega) (by unfold fracL; rw [if_neg h0, if_neg h1, if_neg h2])
        clear h0 h1 h2
        go_enter Tryd.func46, Tryd.ntmps46
        go_wp2_with (first | (go_at_call 45; (refine (fr_s3 l _ h).mono ?_; rintro e wd ⟨rfl, hb⟩)))
        go_ret
        exact ⟨rfl, hb⟩
set_option maxHeartbeats 1600000 in
theorem l5Text_false (h m s l : Nat) (w : World) (hk : ClockOk h m s l) : Calls Tryd.prog 28 #[.agg #[.int .i64 h, .int .i64 m, .int .i64 s, .int .i64 l], .bool false] w fun e w' => e = .returned (.string (cp6 h m s l false)) ∧ Below w.heap.size w w' := by
  have hbd := hk.bd
  have k1 : ∀ w, (Op.stringOp .add (bs (digL h 2)) ⟨#[]⟩).run Tryd.prog w = .ok (.string (cp1 h false)) w := cp1_law h false
  have k2 := cp2_law (P := Tryd.prog) h m false
  have k3 : ∀ w, (Op.stringOp .add (cp2 h m false) ⟨#[]⟩).run Tryd.prog w = .ok (.string (cp3 h m false)) w := cp3_law h m false
  have k4 := cp4_law (P := Tryd.prog) h m s false
  have k6 := cp6_law (P := Tryd.prog) h m s (l := l) (by omega) false
  have HS := Lib.hid (of4 (Cells4.new w 25 (.int .i64 h) (.int .i64 m) (.int .i64 s) (.int .i64 l)) ((Below.refl _ _).alloc (Nat.le_refl _) _))
  clear hk
  go_enter Tryd.func28, Tryd.ntmps28
  go_wp2_with fail
  go_region_held3 (fun w' => w'.cell? ⟨w.heap.size, 0, none⟩ = some (.int .i64 h) ∧ w'.cell? ⟨w.heap.size, 1, none⟩ = some (.int .i64 m) ∧ w'.cell? ⟨w.heap.size, 2, none⟩ = some (.int .i64 s) ∧ w'.cell? ⟨w.heap.size, 3, none⟩ = some (.int .i64 l) ∧ Below w.heap.size w w') (first | exact HS.out | exact keep4_drew HS.out | exact keep4 hba (keep4_drew HS.out) | exact keep4 hbb (keep4 hba (keep4_drew HS.out)) | exact keep4 hbc (keep4 hbb (keep4 hba (keep4_drew HS.out))) | exact keep4 hbe (keep4 hbc (keep4 hbb (keep4 hba (keep4_drew HS.out))))) (first | (go_at_call 45; ((with_reducible refine (dig2_s h _ (by omega)).mono ?_); rintro e wa ⟨rfl, hba⟩)) | (go_at_call 45; ((with_reducible refine (dig2_s m _ (by omega)).mono ?_); rintro e wb ⟨rfl, hbb⟩)) | (go_at_call 45; ((with_reducible refine (dig2_s s _ (by omega)).mono ?_); rintro e wc ⟨rfl, hbc⟩)) | (go_at_call 46; ((with_reducible refine (l5Fraction_any l _ (by omega)).mono ?_); rintro e we ⟨rfl, hbe⟩)))
  go_wp2
  go_ret
  exact ⟨rfl, (keep4 hbe (keep4 hbc (keep4 hbb (keep4 hba (keep4_drew HS.out))))).2.2.2.2⟩
set_option maxHeartbeats 1600000 in
theorem l5Text_true (h m s l : Nat) (w : World) (hk : ClockOk h m s l) : Calls Tryd.prog 28 #[.agg #[.int .i64 h, .int .i64 m, .int .i64 s, .int .i64 l], .bool true] w fun e w' => e = .returned (.string (cp6 h m s l true)) ∧ Below w.heap.size w w' := by
  have hbd := hk.bd
  have k1 : ∀ w, (Op.stringOp .add (bs (digL h 2)) ⟨#[58]⟩).run Tryd.prog w = .ok (.string (cp1 h true)) w := cp1_law h true
  have k2 := cp2_law (P := Tryd.prog) h m true
  have k3 : ∀ w, (Op.stringOp .add (cp2 h m true) ⟨#[58]⟩).run Tryd.prog w = .ok (.string (cp3 h m true)) w := cp3_law h m true
  have k4 := cp4_law (P := Tryd.prog) h m s true
  have k6 := cp6_law (P := Tryd.prog) h m s (l := l) (by omega) true
  have HS := Lib.hid (of4 (Cells4.new w 25 (.int .i64 h) (.int .i64 m) (.int .i64 s) (.int .i64 l)) ((Below.refl _ _).alloc (Nat.le_refl _) _))
  clear hk
  go_enter Tryd.func28, Tryd.ntmps28
  go_wp2_with fail
  go_region_held3 (fun w' => w'.cell? ⟨w.heap.size, 0, none⟩ = some (.int .i64 h) ∧ w'.cell? ⟨w.heap.size, 1, none⟩ = some (.int .i64 m) ∧ w'.cell? ⟨w.heap.size, 2, none⟩ = some (.int .i64 s) ∧ w'.cell? ⟨w.heap.size, 3, none⟩ = some (.int .i64 l) ∧ Below w.heap.size w w') (first | exact HS.out | exact keep4_drew HS.out | exact keep4 hba (keep4_drew HS.out) | exact keep4 hbb (keep4 hba (keep4_drew HS.out)) | exact keep4 hbc (keep4 hbb (keep4 hba (keep4_drew HS.out))) | exact keep4 hbe (keep4 hbc (keep4 hbb (keep4 hba (keep4_drew HS.out))))) (first | (go_at_call 45; ((with_reducible refine (dig2_s h _ (by omega)).mono ?_); rintro e wa ⟨rfl, hba⟩)) | (go_at_call 45; ((with_reducible refine (dig2_s m _ (by omega)).mono ?_); rintro e wb ⟨rfl, hbb⟩)) | (go_at_call 45; ((with_reducible refine (dig2_s s _ (by omega)).mono ?_); rintro e wc ⟨rfl, hbc⟩)) | (go_at_call 46; ((with_reducible refine (l5Fraction_any l _ (by omega)).mono ?_); rintro e we ⟨rfl, hbe⟩)))
  go_wp2
  go_ret
  exact ⟨rfl, (keep4 hbe (keep4 hbc (keep4 hbb (keep4 hba (keep4_drew HS.out))))).2.2.2.2⟩
theorem ClockText_s_no (h m s l : Int) (b : Bool) (w : World) (hk : ¬ ClockOk h m s l) : Calls Tryd.prog 14 #[.agg #[.int .i64 h, .int .i64 m, .int .i64 s, .int .i64 l], .bool b] w fun e w' => e = .returned (.string (bs [])) ∧ Below w.heap.size w w' := by
  have HO := Lib.hid hk
  clear hk
  go_enter Tryd.func14, Tryd.ntmps14
  go_wp2_with fail
  refine (ClockValid_s_no _ _ _ _ _ HO.out).mono ?_
  rintro e w2 ⟨rfl, hb2⟩
  go_wp2_with fail
  go_ret
  exact ⟨rfl, below_alloc hb2⟩
theorem ClockText_s_yes (h m s l : Nat) (b : Bool) (w : World) (hk : ClockOk h m s l) : Calls Tryd.prog 14 #[.agg #[.int .i64 h, .int .i64 m, .int .i64 s, .int .i64 l], .bool b] w fun e w' => e = .returned (.string (cp6 h m s l b)) ∧ Below w.heap.size w w' := by
  have HO := Lib.hid hk
  have HX := Lib.hid (show ∀ w', Calls Tryd.prog 28 #[.agg #[.int .i64 h, .int .i64 m, .int .i64 s, .int .i64 l], .bool b] w' fun e w'' => e = .returned (.string (cp6 h m s l b)) ∧ Below w'.heap.size w' w'' from fun w' => by
    cases b
    · exact l5Text_false h m s l w' HO.out
    · exact l5Text_true h m s l w' HO.out)
  clear hk
  go_enter Tryd.func14, Tryd.ntmps14
  go_wp2_with fail
  refine (ClockValid_s_yes _ _ _ _ _ HO.out).mono ?_
  rintro e w2 ⟨rfl, hb2⟩
  obtain ⟨d0, d1, d2, d3⟩ := agg4_keep hb2
  go_wp2_with fail
  refine (HX.out _).mono ?_
  rintro e w3 ⟨rfl, hb3⟩
  go_wp2_with fail
  go_ret
  exact ⟨rfl, below_alloc (below2 hb2 hb3)⟩
theorem ClockText_i_yes (h m s l : Nat) (b : Bool) (w : World) (hk : ClockOk h m s l) : Calls Tryd.prog 13 #[.agg #[.int .i64 h, .int .i64 m, .int .i64 s, .int .i64 l], .bool b] w fun e w' => e = .returned (.string (cp6 h m s l b)) ∧ Below w.heap.size w w' := by
  cases b
  · exact ClockText_i_false h m s l w hk
  · exact ClockText_i_true h m s l w hk
end Go.Proofs.YtkdhlgfpnkdbmaaDoor
