/-
  Contracts: the week of a date, the date of a day of a week, by the program and by the reference. Conditions: as each states.
-/
import Derived.Test.YtjgpfadoebnchaaDoorWeek2
namespace Go.Proofs.YtjgpfadoebnchaaDoor
open Go.RowKit Go.PlainAid
set_option linter.unusedVariables false

theorem two_boxes {w w2 : World} {T U : TypeId} {a b c a' b' c' : Value} (hb : Below ((w.alloc (.cells #[a, b, c] T)).alloc (.cells #[a', b', c'] U)).heap.size ((w.alloc (.cells #[a, b, c] T)).alloc (.cells #[a', b', c'] U)) w2) :
    Cells3 w2 w.heap.size a b c ∧ Cells3 w2 (w.heap.size + 1) a' b' c' ∧ Below w.heap.size w w2 := by
  refine ⟨((Cells3.new w T a b c).alloc _).below hb, ?_, below_alloc (below_alloc hb)⟩
  have h := (Cells3.new (w.alloc (.cells #[a, b, c] T)) U a' b' c').below hb
  rwa [show (w.alloc (.cells #[a, b, c] T)).heap.size = w.heap.size + 1 by simp] at h
theorem two_boxes_new (w : World) (n : Nat) {T U : TypeId} {a b c a' b' c' : Value} :
    Cells3 (((w.alloc (.cells #[a, b, c] T)).alloc (.cells #[a', b', c'] U)).drewN n) w.heap.size a b c ∧ Cells3 (((w.alloc (.cells #[a, b, c] T)).alloc (.cells #[a', b', c'] U)).drewN n) (w.heap.size + 1) a' b' c' ∧ Below w.heap.size w (((w.alloc (.cells #[a, b, c] T)).alloc (.cells #[a', b', c'] U)).drewN n) := by
  refine ⟨(Cells3.new w T a b c).alloc _, ?_, below_drewN (((Below.refl _ _).alloc (Nat.le_refl _) _).alloc (by simp) _) _⟩
  have h := Cells3.new (w.alloc (.cells #[a, b, c] T)) U a' b' c'
  rwa [show (w.alloc (.cells #[a, b, c] T)).heap.size = w.heap.size + 1 by simp] at h
theorem keep3_set {w W : World} {b r : Nat} {x y z : Value} (h : W.cell? ⟨b, 0, none⟩ = some x ∧ W.cell? ⟨b, 1, none⟩ = some y ∧ W.cell? ⟨b, 2, none⟩ = some z ∧ Below w.heap.size w W) (hne : r ≠ b) (hr : w.heap.size ≤ r) (a1 a2 a3 : Value) :
    (((W.setCell ⟨r, 0, none⟩ a1).setCell ⟨r, 1, none⟩ a2).setCell ⟨r, 2, none⟩ a3).cell? ⟨b, 0, none⟩ = some x ∧ (((W.setCell ⟨r, 0, none⟩ a1).setCell ⟨r, 1, none⟩ a2).setCell ⟨r, 2, none⟩ a3).cell? ⟨b, 1, none⟩ = some y ∧ (((W.setCell ⟨r, 0, none⟩ a1).setCell ⟨r, 1, none⟩ a2).setCell ⟨r, 2, none⟩ a3).cell? ⟨b, 2, none⟩ = some z ∧ Below w.heap.size w (((W.setCell ⟨r, 0, none⟩ a1).setCell ⟨r, 1, none⟩ a2).setCell ⟨r, 2, none⟩ a3) :=
  ⟨(far2 hne).trans ((far2 hne).trans ((far2 hne).trans h.1)), (far2 hne).trans ((far2 hne).trans ((far2 hne).trans h.2.1)), (far2 hne).trans ((far2 hne).trans ((far2 hne).trans h.2.2.1)), ((h.2.2.2.setCell (p := ⟨r, 0, none⟩) hr _).setCell (p := ⟨r, 1, none⟩) hr _).setCell (p := ⟨r, 2, none⟩) hr _⟩
theorem Cells3.drew {w : World} {r : Nat} {a b c : Value} (h : Cells3 w r a b c) : Cells3 w.drew r a b c := h
theorem set3_up {w w2 : World} (h : Below w.heap.size w w2) (a b c : Value) : Below w.heap.size w (((w2.setCell ⟨w.heap.size + 1, 0, none⟩ a).setCell ⟨w.heap.size + 1, 1, none⟩ b).setCell ⟨w.heap.size + 1, 2, none⟩ c) :=
  ((h.setCell (by exact Nat.le_succ _) _).setCell (by exact Nat.le_succ _) _).setCell (by exact Nat.le_succ _) _
theorem drew_below {B n : Nat} {a w : World} (h : Below B (a.drewN n) w) : Below B a w := ⟨h.os, h.tape, h.output, h.size, h.block⟩
theorem WeekOf_i_no (y m d : Int) (w : World) (hT : Tab w) (h : ¬ Cal.Ok y m d) : Calls Tryd.prog 19 #[.agg #[.int .i64 y, .int .i64 m, .int .i64 d]] w fun e w' => e = .returned (.tuple #[.agg #[.int .i64 0, .int .i64 0, .int .i64 0], .bool false]) ∧ Below w.heap.size w w' := by
  have HT := Lib.hid hT
  have HO := Lib.hid h
  clear hT h
  go_enter Tryd.func19, Tryd.ntmps19
  go_wp2_with fail
  refine (DateValid_i_no _ _ _ _ ((HT.out.alloc _).alloc _) HO.out).mono ?_
  rintro e w2 ⟨rfl, hb2⟩
  obtain ⟨-, hR, hB⟩ := two_boxes hb2
  have HB := Lib.hid hB
  obtain ⟨r0, r1, r2, q0, q1, q2⟩ := hR
  clear hb2 hB
  go_wp2
  exact bodyPost_ret (v := .tuple #[.agg #[.int .i64 0, .int .i64 0, .int .i64 0], .bool false]) (by simp [results, Tryd.results19, go_sem, r0, r1, r2]) rfl ⟨rfl, set3_up HB.out _ _ _⟩
theorem WeekOf_i_yes (y m d : Int) (w : World) (hT : Tab w) (h : Cal.Ok y m d) : Calls Tryd.prog 19 #[.agg #[.int .i64 y, .int .i64 m, .int .i64 d]] w fun e w' => e = .returned (.tuple #[.agg #[.int .i64 (Cal.wy (Cal.num y m d)), .int .i64 (Cal.wk (Cal.num y m d)), .int .i64 (Cal.wd (Cal.num y m d))], .bool true]) ∧ Below w.heap.size w w' := by
  have HT := Lib.hid hT
  have HO := Lib.hid h
  have hn := Cal.num_bd h
  clear hT h
  go_enter Tryd.func19, Tryd.ntmps19
  go_wp2_with fail
  refine (DateValid_i_yes _ _ _ _ ((HT.out.alloc _).alloc _) HO.out).mono ?_
  rintro e w2 ⟨rfl, hb2⟩
  obtain ⟨hA, hR, hB⟩ := two_boxes hb2
  obtain ⟨c0, c1, c2, -, -, -⟩ := hA
  clear hb2
  go_wp2_with fail
  refine (number_any _ _ _ _ (HT.out.below hB) HO.out).mono ?_
  rintro e w3 ⟨rfl, hb3⟩
  replace hR := hR.below hb3
  replace hB := below2 hB hb3
  clear hb3 c0 c1 c2
  go_wp2_with fail
  refine (weekAt_any _ _ (HT.out.below hB) hn.1 hn.2).mono ?_
  rintro e w4 ⟨rfl, hb4⟩
  obtain ⟨r0, r1, r2, q0, q1, q2⟩ := hR.below hb4
  have HB := Lib.hid (below2 hB hb4)
  clear hb4 hR hB
  go_wp2
  exact bodyPost_ret (v := .tuple #[.agg #[.int .i64 (Cal.wy (Cal.num y m d)), .int .i64 (Cal.wk (Cal.num y m d)), .int .i64 (Cal.wd (Cal.num y m d))], .bool true]) (by simp [results, Tryd.results19, go_sem, r0, r1, r2]) rfl ⟨rfl, set3_up HB.out _ _ _⟩
theorem WeekOf_s_no (y m d : Int) (w : World) (h : ¬ Cal.Ok y m d) : Calls Tryd.prog 18 #[.agg #[.int .i64 y, .int .i64 m, .int .i64 d]] w fun e w' => e = .returned (.tuple #[.agg #[.int .i64 0, .int .i64 0, .int .i64 0], .bool false]) ∧ Below w.heap.size w w' := by
  have HO := Lib.hid h
  clear h
  go_enter Tryd.func18, Tryd.ntmps18
  go_wp2_with fail
  refine (DateValid_s_no _ _ _ _ HO.out).mono ?_
  rintro e w2 ⟨rfl, hb2⟩
  obtain ⟨-, hR, hB⟩ := two_boxes hb2
  have HB := Lib.hid hB
  obtain ⟨r0, r1, r2, q0, q1, q2⟩ := hR
  clear hb2 hB
  go_wp2
  exact bodyPost_ret (v := .tuple #[.agg #[.int .i64 0, .int .i64 0, .int .i64 0], .bool false]) (by simp [results, Tryd.results18, go_sem, r0, r1, r2]) rfl ⟨rfl, set3_up HB.out _ _ _⟩
theorem week_cases {y m d : Int} (h : Cal.Ok y m d) : (Cal.num y m d < Cal.fm y ∧ 2 ≤ y ∧ Cal.fm (y - 1) ≤ Cal.num y m d ∧ Cal.wy (Cal.num y m d) = y - 1) ∨ (Cal.fm y ≤ Cal.num y m d ∧ Cal.num y m d < Cal.fm (y + 1) ∧ Cal.wy (Cal.num y m d) = y) ∨ (Cal.fm y ≤ Cal.num y m d ∧ Cal.fm (y + 1) ≤ Cal.num y m d ∧ y ≤ 9998 ∧ Cal.wy (Cal.num y m d) = y + 1) := by
  have hn := Cal.num_bd h
  have hy := Cal.num_year h
  have g1 := h.1
  have g2 := h.2.1
  have f0 := Cal.fm_eq y
  have f1 := Cal.fm_eq (y + 1)
  have s0 := Cal.ny_succ g1
  have l0 := Cal.lp_01 y
  by_cases ha : Cal.num y m d < Cal.fm y
  · have h2 : 2 ≤ y := by
      by_cases e : y = 1
      · subst e
        rw [f0, Cal.ny_one] at ha
        omega
      · omega
    have fp := Cal.fm_eq (y - 1)
    have sp := Cal.ny_succ (y := y - 1) (by omega)
    have lp := Cal.lp_01 (y - 1)
    rw [show y - 1 + 1 = y by omega] at sp
    have hle : Cal.fm (y - 1) ≤ Cal.num y m d := by omega
    exact .inl ⟨ha, h2, hle, Cal.wy_of hn.1 hn.2 (by omega) hle (by rw [show y - 1 + 1 = y by omega]; exact ha)⟩
  · by_cases hb : Cal.num y m d < Cal.fm (y + 1)
    · exact .inr (.inl ⟨by omega, hb, Cal.wy_of hn.1 hn.2 g1 (by omega) hb⟩)
    · have f2 := Cal.fm_eq (y + 1 + 1)
      have s1 := Cal.ny_succ (y := y + 1) (by omega)
      have l1 := Cal.lp_01 (y + 1)
      have h9 : y ≤ 9998 := by
        by_cases e : y = 9999
        · subst e
          rw [f1, show (9999 : Int) + 1 = 10000 from rfl, Cal.ny_end] at hb
          omega
        · omega
      exact .inr (.inr ⟨by omega, by omega, h9, Cal.wy_of hn.1 hn.2 (by omega) (by omega) (by omega)⟩)
set_option maxHeartbeats 1600000 in
theorem WeekOf_s_yes (y m d : Int) (w : World) (h : Cal.Ok y m d) : Calls Tryd.prog 18 #[.agg #[.int .i64 y, .int .i64 m, .int .i64 d]] w fun e w' => e = .returned (.tuple #[.agg #[.int .i64 (Cal.wy (Cal.num y m d)), .int .i64 (Cal.wk (Cal.num y m d)), .int .i64 (Cal.wd (Cal.num y m d))], .bool true]) ∧ Below w.heap.size w w' := by
  have HO := Lib.hid h
  have hn := Cal.num_bd h
  have g1 := h.1
  have g2 := h.2.1
  have hc := week_cases h
  have HD := Lib.hid (And.intro (show (Cal.num y m d - Cal.fm (Cal.wy (Cal.num y m d))) / 7 + 1 = Cal.wk (Cal.num y m d) from rfl) (Cal.wk_day (Cal.num y m d)))
  clear h
  have fb := Cal.fm_range g1 (by omega)
  have fc := Cal.fm_range (y := y + 1) (by omega) (by omega)
  rcases hc with ⟨a1, a2, a3, a4⟩ | ⟨a1, a2, a4⟩ | ⟨a1, a2, a3, a4⟩
  · have HE := Lib.hid a4
    have fa := Cal.fm_range (y := y - 1) (by omega) (by omega)
    have p0 : 0 ≤ Cal.num y m d - Cal.fm (y - 1) := by omega
    have q3 : decide (Cal.fm y ≤ Cal.num y m d) = false := decide_eq_false (by omega)
    have q4 : decide (Cal.num y m d < Cal.fm y) = true := decide_eq_true (by omega)
    clear a4
    go_enter Tryd.func18, Tryd.ntmps18
    go_wp2_with fail
    refine (DateValid_s_yes _ _ _ _ HO.out).mono ?_
    rintro e w2 ⟨rfl, hb2⟩
    obtain ⟨hA, hR, hB⟩ := two_boxes hb2
    obtain ⟨c0, c1, c2, -, -, -⟩ := id hA
    clear hb2
    go_wp2_with fail
    refine (DayNumber_s_yes _ _ _ _ HO.out).mono ?_
    rintro e w3 ⟨rfl, hb3⟩
    replace hR := hR.below hb3
    replace hB := below2 hB hb3
    clear c0 c1 c2
    obtain ⟨c0, c1, c2, -, -, -⟩ := hA.below hb3
    clear hb3 hA
    obtain ⟨r0, r1, r2, q0, q1, q2⟩ := hR
    have HB := Lib.hid hB
    clear hB
    go_wp2_with (first | (go_at_call 38; refine (l3First_any _ _ (by omega) (by omega)).mono ?_; rintro e w' ⟨rfl, rfl⟩) | (go_at_call 39; refine (l6In_yes _ _ _ _ (by omega) (by omega)).mono ?_; rintro e w' ⟨rfl, rfl⟩))
    refine bodyPost_ret (v := .tuple #[.agg #[.int .i64 (y - 1), .int .i64 ((Cal.num y m d - Cal.fm (y - 1)) / 7 + 1), .int .i64 ((Cal.num y m d - Cal.fm (y - 1)) % 7 + 1)], .bool true]) (by simp [results, Tryd.results18, go_sem, r0, r1, r2]) rfl ⟨?_, set3_up HB.out _ _ _⟩
    have hd := HD.out
    rw [HE.out] at hd
    exact tup_ret HE.out.symm hd.1 hd.2
  · have HE := Lib.hid a4
    have p0 : 0 ≤ Cal.num y m d - Cal.fm y := by omega
    have q3 : decide (Cal.fm (y + 1) ≤ Cal.num y m d) = false := decide_eq_false (by omega)
    have q4 : decide (Cal.num y m d < Cal.fm y) = false := decide_eq_false (by omega)
    clear a4
    go_enter Tryd.func18, Tryd.ntmps18
    go_wp2_with fail
    refine (DateValid_s_yes _ _ _ _ HO.out).mono ?_
    rintro e w2 ⟨rfl, hb2⟩
    obtain ⟨hA, hR, hB⟩ := two_boxes hb2
    obtain ⟨c0, c1, c2, -, -, -⟩ := id hA
    clear hb2
    go_wp2_with fail
    refine (DayNumber_s_yes _ _ _ _ HO.out).mono ?_
    rintro e w3 ⟨rfl, hb3⟩
    replace hR := hR.below hb3
    replace hB := below2 hB hb3
    clear c0 c1 c2
    obtain ⟨c0, c1, c2, -, -, -⟩ := hA.below hb3
    clear hb3 hA
    obtain ⟨r0, r1, r2, q0, q1, q2⟩ := hR
    have HB := Lib.hid hB
    clear hB
    go_wp2_with (first | (go_at_call 38; refine (l3First_any _ _ (by omega) (by omega)).mono ?_; rintro e w' ⟨rfl, rfl⟩) | (go_at_call 39; refine (l6In_yes _ _ _ _ (by omega) (by omega)).mono ?_; rintro e w' ⟨rfl, rfl⟩))
    refine bodyPost_ret (v := .tuple #[.agg #[.int .i64 y, .int .i64 ((Cal.num y m d - Cal.fm y) / 7 + 1), .int .i64 ((Cal.num y m d - Cal.fm y) % 7 + 1)], .bool true]) (by simp [results, Tryd.results18, go_sem, r0, r1, r2]) rfl ⟨?_, set3_up HB.out _ _ _⟩
    have hd := HD.out
    rw [HE.out] at hd
    exact tup_ret HE.out.symm hd.1 hd.2
  · have HE := Lib.hid a4
    have p0 : 0 ≤ Cal.num y m d - Cal.fm (y + 1) := by omega
    have q3 : decide (Cal.fm (y + 1) ≤ Cal.num y m d) = true := decide_eq_true (by omega)
    have q4 : decide (Cal.num y m d < Cal.fm y) = false := decide_eq_false (by omega)
    clear a4
    go_enter Tryd.func18, Tryd.ntmps18
    go_wp2_with fail
    refine (DateValid_s_yes _ _ _ _ HO.out).mono ?_
    rintro e w2 ⟨rfl, hb2⟩
    obtain ⟨hA, hR, hB⟩ := two_boxes hb2
    obtain ⟨c0, c1, c2, -, -, -⟩ := id hA
    clear hb2
    go_wp2_with fail
    refine (DayNumber_s_yes _ _ _ _ HO.out).mono ?_
    rintro e w3 ⟨rfl, hb3⟩
    replace hR := hR.below hb3
    replace hB := below2 hB hb3
    clear c0 c1 c2
    obtain ⟨c0, c1, c2, -, -, -⟩ := hA.below hb3
    clear hb3 hA
    obtain ⟨r0, r1, r2, q0, q1, q2⟩ := hR
    have HB := Lib.hid hB
    clear hB
    go_wp2_with (first | (go_at_call 38; refine (l3First_any _ _ (by omega) (by omega)).mono ?_; rintro e w' ⟨rfl, rfl⟩) | (go_at_call 39; refine (l6In_yes _ _ _ _ (by omega) (by omega)).mono ?_; rintro e w' ⟨rfl, rfl⟩))
    refine bodyPost_ret (v := .tuple #[.agg #[.int .i64 (y + 1), .int .i64 ((Cal.num y m d - Cal.fm (y + 1)) / 7 + 1), .int .i64 ((Cal.num y m d - Cal.fm (y + 1)) % 7 + 1)], .bool true]) (by simp [results, Tryd.results18, go_sem, r0, r1, r2]) rfl ⟨?_, set3_up HB.out _ _ _⟩
    have hd := HD.out
    rw [HE.out] at hd
    exact tup_ret HE.out.symm hd.1 hd.2
theorem WeekDate_i_no (y k d : Int) (w : World) (h : ¬ Cal.WOk y k d) : Calls Tryd.prog 23 #[.agg #[.int .i64 y, .int .i64 k, .int .i64 d]] w fun e w' => e = .returned (.tuple #[.agg #[.int .i64 0, .int .i64 0, .int .i64 0], .bool false]) ∧ Below w.heap.size w w' := by
  by_cases hr : y < 1 ∨ 9999 < y
  · have HR := Lib.hid hr
    have HK := Lib.hid (show k < 1 ∨ 0 < k from by omega)
    clear h hr
    go_enter Tryd.func23, Tryd.ntmps23
    go_wp2
    go_quiet ((first | (go_at_call 26; exact quiet_l (WeeksOf_i_no y _ HR.out)) | (go_at_call 42; exact quiet_l (within_no _ _ _ _ HK.out))))
    go_wp2
    exact bodyPost_ret (v := .tuple #[.agg #[.int .i64 0, .int .i64 0, .int .i64 0], .bool false]) (by simp [results, Tryd.results23, go_sem]) rfl ⟨rfl, set3_up (below_drewN (by go_grown) _) _ _ _⟩
  · have h1 : 1 ≤ y := by omega
    have h2 : y ≤ 9999 := by omega
    by_cases hk : k < 1 ∨ Cal.wks y < k
    · have HK := Lib.hid hk
      clear h hr hk
      go_enter Tryd.func23, Tryd.ntmps23
      go_wp2
      go_quiet ((first | (go_at_call 26; exact quiet_l (WeeksOf_i_yes y _ h1 h2)) | (go_at_call 42; exact quiet_l (within_no _ _ _ _ HK.out))))
      go_wp2
      exact bodyPost_ret (v := .tuple #[.agg #[.int .i64 0, .int .i64 0, .int .i64 0], .bool false]) (by simp [results, Tryd.results23, go_sem]) rfl ⟨rfl, set3_up (below_drewN (by go_grown) _) _ _ _⟩
    · have k1 : 1 ≤ k := by omega
      have k2 : k ≤ Cal.wks y := by omega
      have hd : d < 1 ∨ 7 < d := by
        by_cases a : d < 1
        · exact .inl a
        · by_cases b : 7 < d
          · exact .inr b
          · exact absurd ⟨h1, h2, k1, k2, by omega, by omega⟩ h
      have HK := Lib.hid hd
      clear h hr hk hd
      go_enter Tryd.func23, Tryd.ntmps23
      go_wp2
      go_quiet ((first | (go_at_call 26; exact quiet_l (WeeksOf_i_yes y _ h1 h2)) | (go_at_call 42; first | (with_reducible exact quiet_l (within_yes _ _ _ _ k1 k2)) | exact quiet_l (within_no _ _ _ _ HK.out))))
      go_wp2_with (first | (go_at_call 42; refine (within_no _ _ _ _ HK.out).mono ?_; rintro e w' ⟨rfl, rfl⟩))
      exact bodyPost_ret (v := .tuple #[.agg #[.int .i64 0, .int .i64 0, .int .i64 0], .bool false]) (by simp [results, Tryd.results23, go_sem]) rfl ⟨rfl, set3_up (below_drewN (by go_grown) _) _ _ _⟩
theorem WeekDate_i_late (y k d : Int) (w : World) (h : Cal.WOk y k d) (hn : 3652058 < Cal.wnum y k d) : Calls Tryd.prog 23 #[.agg #[.int .i64 y, .int .i64 k, .int .i64 d]] w fun e w' => e = .returned (.tuple #[.agg #[.int .i64 0, .int .i64 0, .int .i64 0], .bool false]) ∧ Below w.heap.size w w' := by
  obtain ⟨h1, h2, k1, k2, d1, d2⟩ := id h
  have HO := Lib.hid h
  have HN := Lib.hid (show Cal.wnum y k d < 0 ∨ 3652058 < Cal.wnum y k d from .inr hn)
  clear h hn
  go_enter Tryd.func23, Tryd.ntmps23
  go_wp2
  go_quiet ((first | (go_at_call 26; exact quiet_l (WeeksOf_i_yes y _ h1 h2)) | (go_at_call 42; first | (with_reducible exact quiet_l (within_yes _ _ _ _ k1 k2)) | exact quiet_l (within_yes _ _ _ _ d1 d2))))
  go_wp2_with (first | (go_at_call 42; refine (within_yes _ _ _ _ d1 d2).mono ?_; rintro e w' ⟨rfl, rfl⟩) | fail)
  refine (wnumber_any _ _ _ _ HO.out).mono ?_
  rintro e w2 ⟨rfl, hb2⟩
  obtain ⟨-, hR, hB⟩ := two_boxes (drew_below hb2)
  clear hb2
  go_wp2_with fail
  refine (DateOf_i_no _ _ HN.out).mono ?_
  rintro e w3 ⟨rfl, hb3⟩
  obtain ⟨r0, r1, r2, q0, q1, q2⟩ := hR.below hb3
  have HB := Lib.hid (below2 hB hb3)
  clear hR hB hb3
  go_wp2
  exact bodyPost_ret (v := .tuple #[.agg #[.int .i64 0, .int .i64 0, .int .i64 0], .bool false]) (by simp [results, Tryd.results23, go_sem, r0, r1, r2]) rfl ⟨rfl, set3_up HB.out _ _ _⟩
theorem WeekDate_i_yes (y k d : Int) (w : World) (hT : Tab w) (h : Cal.WOk y k d) (hn : Cal.wnum y k d ≤ 3652058) : Calls Tryd.prog 23 #[.agg #[.int .i64 y, .int .i64 k, .int .i64 d]] w fun e w' => e = .returned (.tuple #[.agg #[.int .i64 (Cal.yo (Cal.wnum y k d)), .int .i64 (Cal.mo (Cal.wnum y k d)), .int .i64 (Cal.dd (Cal.wnum y k d))], .bool true]) ∧ Below w.heap.size w w' := by
  obtain ⟨h1, h2, k1, k2, d1, d2⟩ := id h
  have HO := Lib.hid h
  have HN := Lib.hid (And.intro (Cal.wnum_bd h).2.2.1 hn)
  have HT := Lib.hid hT
  clear h hn hT
  go_enter Tryd.func23, Tryd.ntmps23
  go_wp2
  go_quiet ((first | (go_at_call 26; exact quiet_l (WeeksOf_i_yes y _ h1 h2)) | (go_at_call 42; first | (with_reducible exact quiet_l (within_yes _ _ _ _ k1 k2)) | exact quiet_l (within_yes _ _ _ _ d1 d2))))
  go_wp2_with (first | (go_at_call 42; refine (within_yes _ _ _ _ d1 d2).mono ?_; rintro e w' ⟨rfl, rfl⟩) | fail)
  refine (wnumber_any _ _ _ _ HO.out).mono ?_
  rintro e w2 ⟨rfl, hb2⟩
  obtain ⟨-, hR, hB⟩ := two_boxes (drew_below hb2)
  clear hb2
  go_wp2_with fail
  refine (DateOf_i_yes _ _ (HT.out.below hB) HN.out.1 HN.out.2).mono ?_
  rintro e w3 ⟨rfl, hb3⟩
  obtain ⟨r0, r1, r2, q0, q1, q2⟩ := hR.below hb3
  have HB := Lib.hid (below2 hB hb3)
  clear hR hB hb3
  go_wp2
  exact bodyPost_ret (v := .tuple #[.agg #[.int .i64 (Cal.yo (Cal.wnum y k d)), .int .i64 (Cal.mo (Cal.wnum y k d)), .int .i64 (Cal.dd (Cal.wnum y k d))], .bool true]) (by simp [results, Tryd.results23, go_sem, r0, r1, r2]) rfl ⟨rfl, set3_up HB.out _ _ _⟩
theorem WeekDate_s_no (y k d : Int) (w : World) (h : ¬ Cal.WOk y k d) : Calls Tryd.prog 21 #[.agg #[.int .i64 y, .int .i64 k, .int .i64 d]] w fun e w' => e = .returned (.tuple #[.agg #[.int .i64 0, .int .i64 0, .int .i64 0], .bool false]) ∧ Below w.heap.size w w' := by
  by_cases hr : y < 1 ∨ 9999 < y
  · have HR := Lib.hid hr
    have HK := Lib.hid (show k < 1 ∨ 0 < k from by omega)
    clear h hr
    go_enter Tryd.func21, Tryd.ntmps21
    go_wp2
    go_quiet ((first | (go_at_call 27; exact quiet_l (WeeksOf_s_no y _ HR.out)) | (go_at_call 39; exact quiet_l (l6In_no _ _ _ _ HK.out))))
    go_wp2
    exact bodyPost_ret (v := .tuple #[.agg #[.int .i64 0, .int .i64 0, .int .i64 0], .bool false]) (by simp [results, Tryd.results21, go_sem]) rfl ⟨rfl, set3_up (below_drewN (by go_grown) _) _ _ _⟩
  · have h1 : 1 ≤ y := by omega
    have h2 : y ≤ 9999 := by omega
    by_cases hk : k < 1 ∨ Cal.wks y < k
    · have HK := Lib.hid hk
      clear h hr hk
      go_enter Tryd.func21, Tryd.ntmps21
      go_wp2
      go_quiet ((first | (go_at_call 27; exact quiet_l (WeeksOf_s_yes y _ h1 h2)) | (go_at_call 39; exact quiet_l (l6In_no _ _ _ _ HK.out))))
      go_wp2
      exact bodyPost_ret (v := .tuple #[.agg #[.int .i64 0, .int .i64 0, .int .i64 0], .bool false]) (by simp [results, Tryd.results21, go_sem]) rfl ⟨rfl, set3_up (below_drewN (by go_grown) _) _ _ _⟩
    · have k1 : 1 ≤ k := by omega
      have k2 : k ≤ Cal.wks y := by omega
      have hd : d < 1 ∨ 7 < d := by
        by_cases a : d < 1
        · exact .inl a
        · by_cases b : 7 < d
          · exact .inr b
          · exact absurd ⟨h1, h2, k1, k2, by omega, by omega⟩ h
      have HK := Lib.hid hd
      clear h hr hk hd
      go_enter Tryd.func21, Tryd.ntmps21
      go_wp2
      go_quiet ((first | (go_at_call 27; exact quiet_l (WeeksOf_s_yes y _ h1 h2)) | (go_at_call 39; first | (with_reducible exact quiet_l (l6In_yes _ _ _ _ k1 k2)) | exact quiet_l (l6In_no _ _ _ _ HK.out))))
      go_wp2_with (first | (go_at_call 39; refine (l6In_no _ _ _ _ HK.out).mono ?_; rintro e w' ⟨rfl, rfl⟩))
      exact bodyPost_ret (v := .tuple #[.agg #[.int .i64 0, .int .i64 0, .int .i64 0], .bool false]) (by simp [results, Tryd.results21, go_sem]) rfl ⟨rfl, set3_up (below_drewN (by go_grown) _) _ _ _⟩
end Go.Proofs.YtjgpfadoebnchaaDoor
