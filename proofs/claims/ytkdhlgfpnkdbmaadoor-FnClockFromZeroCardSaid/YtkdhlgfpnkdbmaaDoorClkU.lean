/-
  Contracts: the text of a time, by the program and by the reference. Conditions: as each states.
-/
import Derived.Test.YtkdhlgfpnkdbmaaDoorClkT
import Derived.Deep.RegionHeld3
namespace Go.Proofs.YtkdhlgfpnkdbmaaDoor
open Go.RowKit Go.PlainAid
set_option linter.unusedVariables false

theorem kheld {W w1 : World} {b o : Nat} {v : Value} (hb : Below W.heap.size W w1) (h : W.cell? ⟨b, o, none⟩ = some v) : w1.cell? ⟨b, o, none⟩ = some v := (hb.cell (lt_of_cell h)).trans h
theorem keep4 {w0 W w1 : World} {b : Nat} {v0 v1 v2 v3 : Value} (hb : Below W.heap.size W w1) (h : W.cell? ⟨b, 0, none⟩ = some v0 ∧ W.cell? ⟨b, 1, none⟩ = some v1 ∧ W.cell? ⟨b, 2, none⟩ = some v2 ∧ W.cell? ⟨b, 3, none⟩ = some v3 ∧ Below w0.heap.size w0 W) :
    w1.cell? ⟨b, 0, none⟩ = some v0 ∧ w1.cell? ⟨b, 1, none⟩ = some v1 ∧ w1.cell? ⟨b, 2, none⟩ = some v2 ∧ w1.cell? ⟨b, 3, none⟩ = some v3 ∧ Below w0.heap.size w0 w1 := ⟨kheld hb h.1, kheld hb h.2.1, kheld hb h.2.2.1, kheld hb h.2.2.2.1, below2 h.2.2.2.2 hb⟩
theorem keep4_drew {w0 W : World} {b : Nat} {v0 v1 v2 v3 : Value} (h : W.cell? ⟨b, 0, none⟩ = some v0 ∧ W.cell? ⟨b, 1, none⟩ = some v1 ∧ W.cell? ⟨b, 2, none⟩ = some v2 ∧ W.cell? ⟨b, 3, none⟩ = some v3 ∧ Below w0.heap.size w0 W) :
    W.drew.cell? ⟨b, 0, none⟩ = some v0 ∧ W.drew.cell? ⟨b, 1, none⟩ = some v1 ∧ W.drew.cell? ⟨b, 2, none⟩ = some v2 ∧ W.drew.cell? ⟨b, 3, none⟩ = some v3 ∧ Below w0.heap.size w0 W.drew := ⟨h.1, h.2.1, h.2.2.1, h.2.2.2.1, h.2.2.2.2.drew⟩
theorem of4 {w0 W : World} {b : Nat} {v0 v1 v2 v3 : Value} (h : Cells4 W b v0 v1 v2 v3) (hb : Below w0.heap.size w0 W) : W.cell? ⟨b, 0, none⟩ = some v0 ∧ W.cell? ⟨b, 1, none⟩ = some v1 ∧ W.cell? ⟨b, 2, none⟩ = some v2 ∧ W.cell? ⟨b, 3, none⟩ = some v3 ∧ Below w0.heap.size w0 W := ⟨h.1.1, h.1.2.1, h.1.2.2.1, h.1.2.2.2, hb⟩
/-- The parts of a time's text as they grow. -/
def cp1 (h : Nat) (b : Bool) : ByteArray := bs (digL h 2 ++ gapL b)
def cp2 (h m : Nat) (b : Bool) : ByteArray := bs (digL h 2 ++ (gapL b ++ digL m 2))
def cp3 (h m : Nat) (b : Bool) : ByteArray := bs (digL h 2 ++ (gapL b ++ (digL m 2 ++ gapL b)))
def cp4 (h m s : Nat) (b : Bool) : ByteArray := bs (clkB h m s b)
def cp5 (l : Nat) : ByteArray := bs (fracL l)
def cp6 (h m s l : Nat) (b : Bool) : ByteArray := bs (clkL h m s l b)
def gapB (b : Bool) : ByteArray := if b then ⟨#[58]⟩ else ⟨#[]⟩
theorem gapB_bs (b : Bool) : gapB b = bs (gapL b) := by cases b <;> rfl
theorem gapL_len (b : Bool) : (gapL b).length ≤ 1 := by cases b <;> simp [gapL]
theorem fracL_len {l : Nat} (hl : l < 1000) : (fracL l).length ≤ 4 := by
  by_cases h0 : l = 0
  · subst h0; simp [fracL]
  · obtain ⟨k, q, k1, k3, hq, e, hn, hf⟩ := frac_form h0 hl
    rw [hf]
    simp [digL_length]
    omega
theorem cp1_law {P : Program} (h : Nat) (b : Bool) (w : World) : (Op.stringOp .add (bs (digL h 2)) (gapB b)).run P w = .ok (.string (cp1 h b)) w := by
  rw [gapB_bs]
  exact cat_law _ _ (by rw [digL_length]; have := gapL_len b; omega) w
theorem cp2_law {P : Program} (h m : Nat) (b : Bool) (w : World) : (Op.stringOp .add (cp1 h b) (bs (digL m 2))).run P w = .ok (.string (cp2 h m b)) w := by
  have := cat_law (P := P) (digL h 2 ++ gapL b) (digL m 2) (by simp [digL_length]; have := gapL_len b; omega) w
  simpa [cp1, cp2] using this
theorem cp3_law {P : Program} (h m : Nat) (b : Bool) (w : World) : (Op.stringOp .add (cp2 h m b) (gapB b)).run P w = .ok (.string (cp3 h m b)) w := by
  rw [gapB_bs]
  have := cat_law (P := P) (digL h 2 ++ (gapL b ++ digL m 2)) (gapL b) (by simp [digL_length]; have := gapL_len b; omega) w
  simpa [cp2, cp3] using this
theorem cp4_law {P : Program} (h m s : Nat) (b : Bool) (w : World) : (Op.stringOp .add (cp3 h m b) (bs (digL s 2))).run P w = .ok (.string (cp4 h m s b)) w := by
  have := cat_law (P := P) (digL h 2 ++ (gapL b ++ (digL m 2 ++ gapL b))) (digL s 2) (by simp [digL_length]; have := gapL_len b; omega) w
  simpa [cp3, cp4, clkB] using this
theorem cp5_law {P : Program} {l : Nat} (h0 : l ≠ 0) (h1 : l < 1000) (w : World) : (Op.stringOp .add ⟨#[46]⟩ (headB (bs (digL l 3)) (cutK (bs (digL l 3)) 48 (bs (digL l 3)).size))).run P w = .ok (.string (cp5 l)) w := by
  obtain ⟨e1, e2⟩ := frac_cut h0 h1
  rw [e1]
  have hl := fracL_len h1
  have := cat_law (P := P) [46] (fracL l).tail (by simp; omega) w
  rw [cp5, e2]
  exact this
theorem cp6_law {P : Program} {l : Nat} (h m s : Nat) (h1 : l < 1000) (b : Bool) (w : World) : (Op.stringOp .add (cp4 h m s b) (cp5 l)).run P w = .ok (.string (cp6 h m s l b)) w := by
  have hl := fracL_len h1
  have hg : gapN b ≤ 1 := by cases b <;> simp [gapN]
  exact cat_law (P := P) (clkB h m s b) (fracL l) (by rw [clkB_length]; omega) w
theorem cp6_zero (h m s : Nat) (b : Bool) : cp4 h m s b = cp6 h m s 0 b := by simp [cp4, cp6, clkL, fracL]
theorem dig2_i (n : Nat) (w : World) (h : n ≤ 999) : Calls Tryd.prog 25 #[.int .i64 (n : Int), .int .i64 2] w fun e w' => e = .returned (.string (bs (digL n 2))) ∧ Below w.heap.size w w' := digits_any n 2 w (by omega) (by omega)
theorem dig3_i (n : Nat) (w : World) (h : n ≤ 999) : Calls Tryd.prog 25 #[.int .i64 (n : Int), .int .i64 3] w fun e w' => e = .returned (.string (bs (digL n 3))) ∧ Below w.heap.size w w' := digits_any n 3 w (by omega) (by omega)
theorem ClockText_i_no (h m s l : Int) (b : Bool) (w : World) (hk : ¬ ClockOk h m s l) : Calls Tryd.prog 13 #[.agg #[.int .i64 h, .int .i64 m, .int .i64 s, .int .i64 l], .bool b] w fun e w' => e = .returned (.string (bs [])) ∧ Below w.heap.size w w' := by
  have HO := Lib.hid hk
  clear hk
  go_enter Tryd.func13, Tryd.ntmps13
  go_wp2_with fail
  refine (ClockValid_i_no _ _ _ _ _ HO.out).mono ?_
  rintro e w2 ⟨rfl, hb2⟩
  go_wp2_with fail
  go_ret
  exact ⟨rfl, below_alloc hb2⟩
set_option maxHeartbeats 1600000 in
theorem ClockText_i_false (h m s l : Nat) (w : World) (hk : ClockOk h m s l) : Calls Tryd.prog 13 #[.agg #[.int .i64 h, .int .i64 m, .int .i64 s, .int .i64 l], .bool false] w fun e w' => e = .returned (.string (cp6 h m s l false)) ∧ Below w.heap.size w w' := by
  have hbd := hk.bd
  have HO := Lib.hid hk
  clear hk
  have k1 : ∀ w, (Op.stringOp .add (bs (digL h 2)) ⟨#[]⟩).run Tryd.prog w = .ok (.string (cp1 h false)) w := cp1_law h false
  have k2 := cp2_law (P := Tryd.prog) h m false
  have k3 : ∀ w, (Op.stringOp .add (cp2 h m false) ⟨#[]⟩).run Tryd.prog w = .ok (.string (cp3 h m false)) w := cp3_law h m false
  have k4 := cp4_law (P := Tryd.prog) h m s false
  have k6 := cp6_law (P := Tryd.prog) h m s (l := l) (by omega) false
  go_enter Tryd.func13, Tryd.ntmps13
  go_wp2_with fail
  refine (ClockValid_i_yes _ _ _ _ _ HO.out).mono ?_
  rintro e w2 ⟨rfl, hb2⟩
  have HS := Lib.hid (of4 ((Cells4.new w 25 (.int .i64 h) (.int .i64 m) (.int .i64 s) (.int .i64 l)).below hb2) (below_alloc hb2))
  obtain ⟨d0, d1, d2, d3⟩ := agg4_keep hb2
  clear hb2
  go_wp2_with fail
  clear d0 d1 d2 d3
  go_region_held3 (fun w' => w'.cell? ⟨w.heap.size, 0, none⟩ = some (.int .i64 h) ∧ w'.cell? ⟨w.heap.size, 1, none⟩ = some (.int .i64 m) ∧ w'.cell? ⟨w.heap.size, 2, none⟩ = some (.int .i64 s) ∧ w'.cell? ⟨w.heap.size, 3, none⟩ = some (.int .i64 l) ∧ Below w.heap.size w w') (first | exact HS.out | exact keep4_drew HS.out | exact keep4 hba (keep4_drew HS.out) | exact keep4 hbb (keep4 hba (keep4_drew HS.out)) | exact keep4 hbc (keep4 hbb (keep4 hba (keep4_drew HS.out)))) (first | (go_at_call 25; ((with_reducible refine (dig2_i h _ (by omega)).mono ?_); rintro e wa ⟨rfl, hba⟩)) | (go_at_call 25; ((with_reducible refine (dig2_i m _ (by omega)).mono ?_); rintro e wb ⟨rfl, hbb⟩)) | (go_at_call 25; ((with_reducible refine (dig2_i s _ (by omega)).mono ?_); rintro e wc ⟨rfl, hbc⟩)))
  have HW := Lib.hid (keep4 hbc (keep4 hbb (keep4 hba (keep4_drew HS.out))))
  obtain ⟨-, -, -, d3, -⟩ := HW.out
  clear hba hbb hbc HS k1 k2 k3 k4
  by_cases h0 : l = 0
  · have q0 : ((l : Int) == 0) = true := beq_iff_eq.2 (by omega)
    have q1 : ((l : Int) != 0) = false := by rw [bne, q0]; rfl
    have H0 := Lib.hid h0
    clear h0
    go_wp2
    go_ret
    exact ⟨str_ret (by rw [H0.out]; exact cp6_zero h m s _), HW.out.2.2.2.2⟩
  · have q0 : ((l : Int) == 0) = false := beq_eq_false_iff_ne.2 (by omega)
    have q1 : ((l : Int) != 0) = true := by rw [bne, q0]; rfl
    have k5 := cp5_law (P := Tryd.prog) h0 (by omega)
    have hsz : (bs (digL l 3)).size ≤ 1000 := by rw [bs_size, digL_length]; omega
    have hsz0 : (bs (digL l 3)).size ≠ 0 := by rw [bs_size, digL_length]; omega
    have HSZ := Lib.hid (And.intro hsz hsz0)
    clear hsz hsz0
    go_wp2_with (first | (go_at_call 25; (refine (dig3_i l _ (by omega)).mono ?_; rintro e wd ⟨rfl, hbd2⟩)) | (go_at_call 26; (refine (TrimRight_zero _ _ HSZ.out.1 HSZ.out.2).mono ?_; rintro e we ⟨rfl, rfl⟩)))
    go_ret
    exact ⟨rfl, below2 HW.out.2.2.2.2 hbd2⟩
set_option maxHeartbeats 1600000 in
theorem ClockText_i_true (h m s l : Nat) (w : World) (hk : ClockOk h m s l) : Calls Tryd.prog 13 #[.agg #[.int .i64 h, .int .i64 m, .int .i64 s, .int .i64 l], .bool true] w fun e w' => e = .returned (.string (cp6 h m s l true)) ∧ Below w.heap.size w w' := by
  have hbd := hk.bd
  have HO := Lib.hid hk
  clear hk
  have k1 : ∀ w, (Op.stringOp .add (bs (digL h 2)) ⟨#[58]⟩).run Tryd.prog w = .ok (.string (cp1 h true)) w := cp1_law h true
  have k2 := cp2_law (P := Tryd.prog) h m true
  have k3 : ∀ w, (Op.stringOp .add (cp2 h m true) ⟨#[58]⟩).run Tryd.prog w = .ok (.string (cp3 h m true)) w := cp3_law h m true
  have k4 := cp4_law (P := Tryd.prog) h m s true
  have k6 := cp6_law (P := Tryd.prog) h m s (l := l) (by omega) true
  go_enter Tryd.func13, Tryd.ntmps13
  go_wp2_with fail
  refine (ClockValid_i_yes _ _ _ _ _ HO.out).mono ?_
  rintro e w2 ⟨rfl, hb2⟩
  have HS := Lib.hid (of4 ((Cells4.new w 25 (.int .i64 h) (.int .i64 m) (.int .i64 s) (.int .i64 l)).below hb2) (below_alloc hb2))
  obtain ⟨d0, d1, d2, d3⟩ := agg4_keep hb2
  clear hb2
  go_wp2_with fail
  clear d0 d1 d2 d3
  go_region_held3 (fun w' => w'.cell? ⟨w.heap.size, 0, none⟩ = some (.int .i64 h) ∧ w'.cell? ⟨w.heap.size, 1, none⟩ = some (.int .i64 m) ∧ w'.cell? ⟨w.heap.size, 2, none⟩ = some (.int .i64 s) ∧ w'.cell? ⟨w.heap.size, 3, none⟩ = some (.int .i64 l) ∧ Below w.heap.size w w') (first | exact HS.out | exact keep4_drew HS.out | exact keep4 hba (keep4_drew HS.out) | exact keep4 hbb (keep4 hba (keep4_drew HS.out)) | exact keep4 hbc (keep4 hbb (keep4 hba (keep4_drew HS.out)))) (first | (go_at_call 25; ((with_reducible refine (dig2_i h _ (by omega)).mono ?_); rintro e wa ⟨rfl, hba⟩)) | (go_at_call 25; ((with_reducible refine (dig2_i m _ (by omega)).mono ?_); rintro e wb ⟨rfl, hbb⟩)) | (go_at_call 25; ((with_reducible refine (dig2_i s _ (by omega)).mono ?_); rintro e wc ⟨rfl, hbc⟩)))
  have HW := Lib.hid (keep4 hbc (keep4 hbb (keep4 hba (keep4_drew HS.out))))
  obtain ⟨-, -, -, d3, -⟩ := HW.out
  clear hba hbb hbc HS k1 k2 k3 k4
  by_cases h0 : l = 0
  · have q0 : ((l : Int) == 0) = true := beq_iff_eq.2 (by omega)
    have q1 : ((l : Int) != 0) = false := by rw [bne, q0]; rfl
    have H0 := Lib.hid h0
    clear h0
    go_wp2
    go_ret
    exact ⟨str_ret (by rw [H0.out]; exact cp6_zero h m s _), HW.out.2.2.2.2⟩
  · have q0 : ((l : Int) == 0) = false := beq_eq_false_iff_ne.2 (by omega)
    have q1 : ((l : Int) != 0) = true := by rw [bne, q0]; rfl
    have k5 := cp5_law (P := Tryd.prog) h0 (by omega)
    have hsz : (bs (digL l 3)).size ≤ 1000 := by rw [bs_size, digL_length]; omega
    have hsz0 : (bs (digL l 3)).size ≠ 0 := by rw [bs_size, digL_length]; omega
    have HSZ := Lib.hid (And.intro hsz hsz0)
    clear hsz hsz0
    go_wp2_with (first | (go_at_call 25; (refine (dig3_i l _ (by omega)).mono ?_; rintro e wd ⟨rfl, hbd2⟩)) | (go_at_call 26; (refine (TrimRight_zero _ _ HSZ.out.1 HSZ.out.2).mono ?_; rintro e we ⟨rfl, rfl⟩)))
    go_ret
    exact ⟨rfl, below2 HW.out.2.2.2.2 hbd2⟩
end Go.Proofs.YtkdhlgfpnkdbmaaDoor
