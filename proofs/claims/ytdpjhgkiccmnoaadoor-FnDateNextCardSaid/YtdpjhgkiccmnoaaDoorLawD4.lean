/-
  The walks of laws on days of years, and on the day after: each returns true, and nothing that was there is written. Conditions: the table of the months reads as listed.
-/
import Derived.Test.YtdpjhgkiccmnoaaDoorLawD2
namespace Go.Proofs.YtdpjhgkiccmnoaaDoor
open Go.RowKit Go.PlainAid
set_option linter.unusedVariables false

theorem walk_OrdinalFirst (a : Option Addr) (len cap : Nat) (z : List Int) (w : World) (h : IsRow .u8 w a len cap z) (hT : Tab w) : Calls Tryd.prog 13 #[.slice a len cap] w fun e w' => e = .returned (.bool true) ∧ Below w.heap.size w w' := by
  obtain ⟨hl, hm⟩ := row_len h
  have hB := Bytes.of_row h
  clear h
  have hm' := hm
  unfold maxLen at hm'
  have HT := Lib.hid hT
  clear hT
  by_cases hbig : (1048576 : Int) < (len : Int)
  · go_enter Tryd.func13, Tryd.ntmps13
    go_wp2
    go_ret
    exact ⟨rfl, Below.refl _ _⟩
  · go_enter Tryd.func13, Tryd.ntmps13
    go_wp2_with fail
    refine (DrawOrdinalOf_any a len cap w hl hm hB).mono ?_
    rintro e w1 ⟨y, m, d, y0, y1, m0, m1, d0, d1, rfl, hb1⟩
    clear hB
    have HT1 := Lib.hid ((HT.out.below hb1).alloc (.cells #[.int .i64 y, .int .i64 m, .int .i64 d] 25))
    have hC := Cells3.new w1 25 (.int .i64 y) (.int .i64 m) (.int .i64 d)
    by_cases hok : Cal.Ok y m d
    · skip
      have HO := Lib.hid hok
      obtain ⟨g1, g2, g3, g4, g5, g6⟩ := hok
      have hcb := Cal.cum_bd y g3 (by omega)
      have hce := Cal.cum_le_end y g3 g4
      have hlp := Cal.lp_01 y
      have hmd := Cal.md_bd y g3 g4
      have q0 := df_ (show Cal.cum y m + d ≠ 0 by omega)
      have q366 := dect (show Cal.cum y m + d ≤ 366 by omega)
      have hle : Cal.cum y m + d ≤ 365 + Cal.lp y := by omega
      have hd31 : d ≤ 31 := by omega
      clear g6
      go_wp2_with fail
      refine (OrdinalOf_i_yes _ _ _ _ HT1.out HO.out).mono ?_
      rintro e w2 ⟨rfl, hb2⟩
      obtain ⟨c0, c1, c2⟩ := agg3_keep hb2
      have hb12 := below2 hb1 (below_alloc hb2)
      have HT2 := Lib.hid (HT1.out.below hb2)
      have HC2 := Lib.hid (hC.below hb2)
      clear hb1 hb2 HT1 hC
      go_wp2_with fail
      refine (OrdinalOf_s_yes _ _ _ _ HO.out).mono ?_
      rintro e w3 ⟨rfl, hb3⟩
      have HC3 := Lib.hid (HC2.out.below hb3)
      have HT3 := Lib.hid (HT2.out.below hb3)
      have hb13 := below2 hb12 hb3
      clear c0 c1 c2 hb12 hb3 HC2 HT2
      obtain ⟨c0, c1, c2, -, -, -⟩ := HC3.out
      have hmd1 := Cal.md_bd y (m := 1) (by omega) (by omega)
      have HO2 := Lib.hid (show Cal.Ok y 1 1 from ⟨g1, g2, by omega, by omega, by omega, by omega⟩)
      have hn := Cal.num_bd HO.out
      have hn2 := Cal.num_bd HO2.out
      have hsub : Cal.num y m d - Cal.num y 1 1 + 1 = Cal.cum y m + d := by unfold Cal.num; rw [Cal.cum_one]; omega
      have HS : Hid (w3.cell? ⟨w1.heap.size, 0, none⟩ = some (.int .i64 y) ∧ w3.cell? ⟨w1.heap.size, 1, none⟩ = some (.int .i64 m) ∧ w3.cell? ⟨w1.heap.size, 2, none⟩ = some (.int .i64 d) ∧ Below w.heap.size w w3) := ⟨c0, c1, c2, hb13⟩
      clear hb13 HC3 hmd1
      go_wp2_with fail
      go_region_held3 (fun w' => w'.cell? ⟨w1.heap.size, 0, none⟩ = some (.int .i64 y) ∧ w'.cell? ⟨w1.heap.size, 1, none⟩ = some (.int .i64 m) ∧ w'.cell? ⟨w1.heap.size, 2, none⟩ = some (.int .i64 d) ∧ Below w.heap.size w w') (first | exact HS.out | exact keep3_drew HS.out | exact keep3 hba (keep3_drew HS.out) | exact keep3 hbb (keep3_drew HS.out) | exact keep3 hbb (keep3 hba (keep3_drew HS.out)) | exact keep3 hba (keep3 hbb (keep3_drew HS.out))) (first | (go_at_call 18; ((with_reducible refine (DayNumber_i_yes y m d _ (by first | exact HT.out.below (keep3_drew HS.out).2.2.2 | exact HT.out.below (keep3 hbb (keep3_drew HS.out)).2.2.2) HO.out).mono ?_); rintro e wa ⟨rfl, hba⟩)) | (go_at_call 18; ((with_reducible refine (DayNumber_i_yes y 1 1 _ (by first | exact HT.out.below (keep3_drew HS.out).2.2.2 | exact HT.out.below (keep3 hba (keep3_drew HS.out)).2.2.2) HO2.out).mono ?_); rintro e wb ⟨rfl, hbb⟩)))
      all_goals go_wp2
      all_goals go_ret
      all_goals refine ⟨?_, (by first | exact (keep3 hbb (keep3 hba (keep3_drew HS.out))).2.2.2 | exact (keep3 hba (keep3 hbb (keep3_drew HS.out))).2.2.2)⟩
      all_goals rw [IntWalk.i64_in (Cal.num y m d - Cal.num y 1 1) ⟨by omega, by omega⟩, IntWalk.i64_in _ ⟨by omega, by omega⟩, hsub]
      all_goals simp
    · skip
      have HO := Lib.hid hok
      clear hok
      go_wp2_with fail
      refine (OrdinalOf_i_no _ _ _ _ HT1.out HO.out).mono ?_
      rintro e w2 ⟨rfl, hb2⟩
      obtain ⟨c0, c1, c2⟩ := agg3_keep hb2
      have hb12 := below2 hb1 (below_alloc hb2)
      clear hb1 hb2 HT1 hC
      go_wp2_with fail
      refine (OrdinalOf_s_no _ _ _ _ HO.out).mono ?_
      rintro e w3 ⟨rfl, hb3⟩
      have hb13 := below2 hb12 hb3
      clear c0 c1 c2 hb12 hb3
      go_wp2_with fail
      go_ret
      exact ⟨rfl, hb13⟩
theorem Cal_next {Y M D : Int} (h : Cal.Ok Y M D) (hn : Cal.num Y M D + 1 ≤ 3652058) :
    (D < Cal.md Y M ∧ Cal.Ok Y M (D + 1) ∧ Cal.num Y M (D + 1) = Cal.num Y M D + 1) ∨ (¬ D < Cal.md Y M ∧ M < 12 ∧ Cal.Ok Y (M + 1) 1 ∧ Cal.num Y (M + 1) 1 = Cal.num Y M D + 1) ∨ (¬ D < Cal.md Y M ∧ M = 12 ∧ Cal.Ok (Y + 1) 1 1 ∧ Cal.num (Y + 1) 1 1 = Cal.num Y M D + 1) := by
  obtain ⟨h1, h2, h3, h4, h5, h6⟩ := h
  by_cases hd : D < Cal.md Y M
  · exact .inl ⟨hd, ⟨h1, h2, h3, h4, by omega, by omega⟩, by unfold Cal.num; omega⟩
  · have hcs := Cal.cum_succ Y h3 h4
    by_cases hm : M < 12
    · have := Cal.md_bd Y (m := M + 1) (by omega) (by omega)
      exact .inr (.inl ⟨hd, hm, ⟨h1, h2, by omega, by omega, by omega, by omega⟩, by unfold Cal.num; omega⟩)
    · obtain rfl : M = 12 := by omega
      have he := Cal.cum_end Y
      have hs := Cal.ny_succ h1
      have e13 : (12 : Int) + 1 = 13 := rfl
      rw [e13] at hcs
      have c1 := Cal.cum_one (Y + 1)
      have hmd := Cal.md_bd (Y + 1) (m := 1) (by omega) (by omega)
      have hnum : Cal.num (Y + 1) 1 1 = Cal.num Y 12 D + 1 := by unfold Cal.num; omega
      refine .inr (.inr ⟨hd, rfl, ⟨by omega, ?_, by omega, by omega, by omega, by omega⟩, hnum⟩)
      have hlast := Cal.ny_end
      by_cases hy : Y = 9999
      · subst hy
        unfold Cal.num at hn
        have e1 : (9999 : Int) + 1 = 10000 := rfl
        rw [e1] at hs
        omega
      · omega
theorem DateOf_i_at (n y m d : Int) (h : Cal.Ok y m d) (e : Cal.num y m d = n) (w : World) (hT : Tab w) : Calls Tryd.prog 20 #[.int .i64 n] w fun e w' => e = .returned (.tuple #[.agg #[.int .i64 y, .int .i64 m, .int .i64 d], .bool true]) ∧ Below w.heap.size w w' := by
  subst e
  exact DateOf_i_num y m d w hT h
theorem DateOf_s_at (n y m d : Int) (h : Cal.Ok y m d) (e : Cal.num y m d = n) (w : World) : Calls Tryd.prog 19 #[.int .i64 n] w fun e w' => e = .returned (.tuple #[.agg #[.int .i64 y, .int .i64 m, .int .i64 d], .bool true]) ∧ Below w.heap.size w w' := by
  subst e
  have hb := Cal.num_bd h
  obtain ⟨h1, h2, h3⟩ := Cal.dt_num h
  have hc := DateOf_s_yes (Cal.num y m d) w hb.1 hb.2
  rw [h1, h2, h3] at hc
  exact hc
theorem walk_DateNext (a : Option Addr) (len cap : Nat) (z : List Int) (w : World) (h : IsRow .u8 w a len cap z) (hT : Tab w) : Calls Tryd.prog 9 #[.slice a len cap] w fun e w' => e = .returned (.bool true) ∧ Below w.heap.size w w' := by
  obtain ⟨hl, hm⟩ := row_len h
  have hB := Bytes.of_row h
  clear h
  have hm' := hm
  unfold maxLen at hm'
  have HT := Lib.hid hT
  clear hT
  by_cases hbig : (1048576 : Int) < (len : Int)
  · go_enter Tryd.func9, Tryd.ntmps9
    go_wp2
    go_ret
    exact ⟨rfl, Below.refl _ _⟩
  · go_enter Tryd.func9, Tryd.ntmps9
    go_wp2_with fail
    refine (DrawDateOf_any a len cap w hl hm hB).mono ?_
    rintro e w1 ⟨n, n0, n1, rfl, hb1⟩
    clear hB
    by_cases hok : n < 0 ∨ 3652058 < n
    · skip
      have HO := Lib.hid hok
      go_wp2_with fail
      refine (DateOf_i_no _ _ HO.out).mono ?_
      rintro e w2 ⟨rfl, hb2⟩
      have hb12 := below2 hb1 hb2
      clear hb1 hb2
      go_wp2_with fail
      refine (DateOf_s_no _ _ HO.out).mono ?_
      rintro e w3 ⟨rfl, hb3⟩
      obtain ⟨c0, c1, c2⟩ := agg3_keep hb3
      have hlt := cell3_lt hb3
      have hne := Nat.ne_of_lt hlt
      have hne' := Nat.ne_of_gt hlt
      have HB := Lib.hid (below2 hb12 (below_alloc hb3))
      clear hb12 hb3
      go_wp2_with fail
      go_ret
      exact ⟨rfl, HB.out.alloc HB.out.size _⟩
    · obtain ⟨Y, M, D, hK, hE⟩ : ∃ Y M D, Cal.Ok Y M D ∧ Cal.num Y M D = n := ⟨_, _, _, Cal.dt_ok (by omega) (by omega)⟩
      have HK := Lib.hid hK
      have HE := Lib.hid hE
      have hbn := Cal.num_bd hK
      rw [hE] at hbn
      obtain ⟨b0, b1⟩ := hbn
      obtain ⟨g1, g2, g3, g4, g5, -⟩ := id hK
      have hd31 : D ≤ 31 := by
        have := Cal.md_bd Y g3 g4
        have := hK.2.2.2.2.2
        omega
      clear hK hE hok
      go_wp2_with fail
      refine (DateOf_i_at _ _ _ _ HK.out HE.out _ (HT.out.below hb1)).mono ?_
      rintro e w2 ⟨rfl, hb2⟩
      have hb12 := below2 hb1 hb2
      clear hb1 hb2
      go_wp2_with fail
      refine (DateOf_s_at _ _ _ _ HK.out HE.out _).mono ?_
      rintro e w3 ⟨rfl, hb3⟩
      obtain ⟨c0, c1, c2⟩ := agg3_keep hb3
      have HC := Lib.hid (((Cells3.new w2 25 (.int .i64 Y) (.int .i64 M) (.int .i64 D)).below hb3).alloc (.cells #[.int .i64 Y, .int .i64 M, .int .i64 D] 25))
      have hlt := cell3_lt hb3
      have hne := Nat.ne_of_lt hlt
      have hne' := Nat.ne_of_gt hlt
      have HB := Lib.hid (below2 hb12 (below_alloc hb3))
      have HT3 := Lib.hid ((HT.out.below HB.out).alloc (.cells #[.int .i64 Y, .int .i64 M, .int .i64 D] 25))
      clear hb12 hb3
      by_cases hmax : n = 3652058
      · have qn := dt_ hmax
        clear HE HT3
        go_wp2_with fail
        go_ret
        exact ⟨rfl, HB.out.alloc HB.out.size _⟩
      · have qn := df_ hmax
        have hx := Cal_next HK.out (by rw [HE.out]; omega)
        rw [HE.out] at hx
        have HM := Lib.hid (show MonOk Y M from ⟨g1, g2, g3, g4⟩)
        go_wp2_with fail
        clear c0 c1 c2 hlt hne hne'
        rcases hx with ⟨hd, hK2, hE2⟩ | ⟨hd, hm12, hK2, hE2⟩ | ⟨hd, hm12, hK2, hE2⟩
        · have HK2 := Lib.hid hK2
          have HE2 := Lib.hid hE2
          have qd := dect hd
          clear hK2 hE2 hd
          obtain ⟨Z, hZ⟩ : ∃ Z, Z = Obj.cells #[.int .i64 Y, .int .i64 M, .int .i64 (D + 1)] 25 := ⟨_, rfl⟩
          refine (DateOf_i_at _ _ _ _ HK2.out HE2.out _ HT3.out).mono ?_
          rintro e w4 ⟨rfl, hb4⟩
          have HB4 := Lib.hid (below2 HB.out (below_alloc hb4))
          have HT4 := Lib.hid ((HT3.out.below hb4).alloc Z)
          have HC4 := Lib.hid (HC.out.below hb4)
          have hlt := HC4.out.lt
          have hne := Nat.ne_of_lt hlt
          have hne' := Nat.ne_of_gt hlt
          obtain ⟨c0, c1, c2, -, -, -⟩ := HC4.out
          clear hb4 HC HB HT3
          subst hZ
          go_wp2_with fail
          go_quiet ((go_at_call 25; exact quiet_l (MonthDays_i_yes Y M _ (HT4.out.drewN _) HM.out)))
          go_wp2_with fail
          go_ret
          exact ⟨rfl, below_drewN (HB4.out.alloc HB4.out.size _) _⟩
        · have HK2 := Lib.hid hK2
          have HE2 := Lib.hid hE2
          have qd := decf (show ¬ D < Cal.md Y M by omega)
          clear hK2 hE2 hd
          obtain ⟨Z, hZ⟩ : ∃ Z, Z = Obj.cells #[.int .i64 Y, .int .i64 (M + 1), .int .i64 1] 25 := ⟨_, rfl⟩
          refine (DateOf_i_at _ _ _ _ HK2.out HE2.out _ HT3.out).mono ?_
          rintro e w4 ⟨rfl, hb4⟩
          have HB4 := Lib.hid (below2 HB.out (below_alloc hb4))
          have HT4 := Lib.hid ((HT3.out.below hb4).alloc Z)
          have HC4 := Lib.hid (HC.out.below hb4)
          have hlt := HC4.out.lt
          have hne := Nat.ne_of_lt hlt
          have hne' := Nat.ne_of_gt hlt
          obtain ⟨c0, c1, c2, -, -, -⟩ := HC4.out
          clear hb4 HC HB HT3
          subst hZ
          go_wp2_with fail
          go_quiet ((go_at_call 25; exact quiet_l (MonthDays_i_yes Y M _ (HT4.out.drewN _) HM.out)))
          go_wp2_with fail
          go_ret
          exact ⟨rfl, below_drewN (HB4.out.alloc HB4.out.size _) _⟩
        · have HK2 := Lib.hid hK2
          have HE2 := Lib.hid hE2
          have qd := decf (show ¬ D < Cal.md Y M by omega)
          subst hm12
          have qy := df_ (show Y + 1 ≠ Y by omega)
          clear hK2 hE2 hd
          obtain ⟨Z, hZ⟩ : ∃ Z, Z = Obj.cells #[.int .i64 (Y + 1), .int .i64 1, .int .i64 1] 25 := ⟨_, rfl⟩
          refine (DateOf_i_at _ _ _ _ HK2.out HE2.out _ HT3.out).mono ?_
          rintro e w4 ⟨rfl, hb4⟩
          have HB4 := Lib.hid (below2 HB.out (below_alloc hb4))
          have HT4 := Lib.hid ((HT3.out.below hb4).alloc Z)
          have HC4 := Lib.hid (HC.out.below hb4)
          have hlt := HC4.out.lt
          have hne := Nat.ne_of_lt hlt
          have hne' := Nat.ne_of_gt hlt
          obtain ⟨c0, c1, c2, -, -, -⟩ := HC4.out
          clear hb4 HC HB HT3
          subst hZ
          go_wp2_with fail
          go_quiet ((go_at_call 25; exact quiet_l (MonthDays_i_yes Y 12 _ (HT4.out.drewN _) HM.out)))
          go_wp2_with fail
          go_ret
          exact ⟨rfl, below_drewN (HB4.out.alloc HB4.out.size _) _⟩
end Go.Proofs.YtdpjhgkiccmnoaaDoor
