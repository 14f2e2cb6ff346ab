/-
  The walks of laws on days of years: each returns true, and nothing that was there is written. Conditions: the table of the months reads as listed.
-/
import Derived.Test.YtdpjhgkiccmnoaaDoorLawD2
namespace Go.Proofs.YtdpjhgkiccmnoaaDoor
open Go.RowKit Go.PlainAid
set_option linter.unusedVariables false

theorem walk_Ordinal (a : Option Addr) (len cap : Nat) (z : List Int) (w : World) (h : IsRow .u8 w a len cap z) (hT : Tab w) : Calls Tryd.prog 14 #[.slice a len cap] w fun e w' => e = .returned (.bool true) ∧ Below w.heap.size w w' := by
  obtain ⟨hl, hm⟩ := row_len h
  have hB := Bytes.of_row h
  clear h
  have hm' := hm
  unfold maxLen at hm'
  have HT := Lib.hid hT
  clear hT
  by_cases hbig : (1048576 : Int) < (len : Int)
  · go_enter Tryd.func14, Tryd.ntmps14
    go_wp2
    go_ret
    exact ⟨rfl, Below.refl _ _⟩
  · go_enter Tryd.func14, Tryd.ntmps14
    go_wp2_with fail
    refine (DrawOrdinalOf_any a len cap w hl hm hB).mono ?_
    rintro e w1 ⟨y, m, d, y0, y1, m0, m1, d0, d1, rfl, hb1⟩
    clear hB
    have HT1 := Lib.hid ((HT.out.below hb1).alloc (.cells #[.int .i64 y, .int .i64 m, .int .i64 d] 25))
    have hC := Cells3.new w1 25 (.int .i64 y) (.int .i64 m) (.int .i64 d)
    by_cases hok : Cal.Ok y m d
    · skip
      have HO := Lib.hid hok
      obtain ⟨g1, g2, g3, g4, g5, g6⟩ := hok
      have hcb := Cal.cum_bd y g3 (by omega)
      have hce := Cal.cum_le_end y g3 g4
      have hlp := Cal.lp_01 y
      have hmd := Cal.md_bd y g3 g4
      have q0 := df_ (show Cal.cum y m + d ≠ 0 by omega)
      have q366 := dect (show Cal.cum y m + d ≤ 366 by omega)
      have hle : Cal.cum y m + d ≤ 365 + Cal.lp y := by omega
      have hd31 : d ≤ 31 := by omega
      clear g6
      go_wp2_with fail
      refine (OrdinalOf_i_yes _ _ _ _ HT1.out HO.out).mono ?_
      rintro e w2 ⟨rfl, hb2⟩
      obtain ⟨c0, c1, c2⟩ := agg3_keep hb2
      have hb12 := below2 hb1 (below_alloc hb2)
      have HT2 := Lib.hid (HT1.out.below hb2)
      have HC2 := Lib.hid (hC.below hb2)
      clear hb1 hb2 HT1 hC
      go_wp2_with fail
      refine (OrdinalOf_s_yes _ _ _ _ HO.out).mono ?_
      rintro e w3 ⟨rfl, hb3⟩
      have HC3 := Lib.hid (HC2.out.below hb3)
      have HT3 := Lib.hid (HT2.out.below hb3)
      have hb13 := below2 hb12 hb3
      clear c0 c1 c2 hb12 hb3 HC2 HT2
      obtain ⟨c0, c1, c2, -, -, -⟩ := HC3.out
      go_wp2_with fail
      refine (OrdinalDate_i_ord _ _ _ _ HT3.out HO.out).mono ?_
      rintro e w4 ⟨rfl, hb4⟩
      have HC4 := Lib.hid (HC3.out.below hb4)
      have hlt := HC4.out.lt
      have hne := Nat.ne_of_lt hlt
      have hne' := Nat.ne_of_gt hlt
      clear c0 c1 c2
      obtain ⟨c0, c1, c2, -, -, -⟩ := HC4.out
      have HB := Lib.hid (below2 hb13 hb4)
      clear hb13 hb4 HC3 HT3
      go_wp2_with fail
      go_ret
      exact ⟨rfl, HB.out.alloc HB.out.size _⟩
    · skip
      have HO := Lib.hid hok
      clear hok
      go_wp2_with fail
      refine (OrdinalOf_i_no _ _ _ _ HT1.out HO.out).mono ?_
      rintro e w2 ⟨rfl, hb2⟩
      obtain ⟨c0, c1, c2⟩ := agg3_keep hb2
      have hb12 := below2 hb1 (below_alloc hb2)
      clear hb1 hb2 HT1 hC
      go_wp2_with fail
      refine (OrdinalOf_s_no _ _ _ _ HO.out).mono ?_
      rintro e w3 ⟨rfl, hb3⟩
      have hb13 := below2 hb12 hb3
      clear c0 c1 c2 hb12 hb3
      go_wp2_with fail
      go_ret
      exact ⟨rfl, hb13⟩
theorem walk_OrdinalLast (a : Option Addr) (len cap : Nat) (z : List Int) (w : World) (h : IsRow .u8 w a len cap z) (hT : Tab w) : Calls Tryd.prog 12 #[.slice a len cap] w fun e w' => e = .returned (.bool true) ∧ Below w.heap.size w w' := by
  obtain ⟨hl, hm⟩ := row_len h
  have hB := Bytes.of_row h
  clear h
  have hm' := hm
  unfold maxLen at hm'
  have HT := Lib.hid hT
  clear hT
  by_cases hbig : (1048576 : Int) < (len : Int)
  · go_enter Tryd.func12, Tryd.ntmps12
    go_wp2
    go_ret
    exact ⟨rfl, Below.refl _ _⟩
  · go_enter Tryd.func12, Tryd.ntmps12
    go_wp2_with fail
    refine (DrawOrdinalOf_any a len cap w hl hm hB).mono ?_
    rintro e w1 ⟨y, m, d, y0, y1, m0, m1, d0, d1, rfl, hb1⟩
    clear hB
    have HT1 := Lib.hid ((HT.out.below hb1).alloc (.cells #[.int .i64 y, .int .i64 m, .int .i64 d] 25))
    have hC := Cells3.new w1 25 (.int .i64 y) (.int .i64 m) (.int .i64 d)
    by_cases hok : Cal.Ok y m d
    · skip
      have HO := Lib.hid hok
      obtain ⟨g1, g2, g3, g4, g5, g6⟩ := hok
      have hcb := Cal.cum_bd y g3 (by omega)
      have hce := Cal.cum_le_end y g3 g4
      have hlp := Cal.lp_01 y
      have hmd := Cal.md_bd y g3 g4
      have q0 := df_ (show Cal.cum y m + d ≠ 0 by omega)
      have q366 := dect (show Cal.cum y m + d ≤ 366 by omega)
      have hle : Cal.cum y m + d ≤ 365 + Cal.lp y := by omega
      have hd31 : d ≤ 31 := by omega
      clear g6
      go_wp2_with fail
      refine (OrdinalOf_i_yes _ _ _ _ HT1.out HO.out).mono ?_
      rintro e w2 ⟨rfl, hb2⟩
      obtain ⟨c0, c1, c2⟩ := agg3_keep hb2
      have hb12 := below2 hb1 (below_alloc hb2)
      have HT2 := Lib.hid (HT1.out.below hb2)
      have HC2 := Lib.hid (hC.below hb2)
      clear hb1 hb2 HT1 hC
      go_wp2_with fail
      refine (OrdinalOf_s_yes _ _ _ _ HO.out).mono ?_
      rintro e w3 ⟨rfl, hb3⟩
      have HC3 := Lib.hid (HC2.out.below hb3)
      have HT3 := Lib.hid (HT2.out.below hb3)
      have hb13 := below2 hb12 hb3
      clear c0 c1 c2 hb12 hb3 HC2 HT2
      obtain ⟨c0, c1, c2, -, -, -⟩ := HC3.out
      have h31 : Cal.md y 12 = 31 := by unfold Cal.md; rw [if_neg (by decide)]; rfl
      have HO2 := Lib.hid (show Cal.Ok y 12 31 from ⟨g1, g2, by omega, by omega, by omega, by omega⟩)
      have hq : Cal.cum y 12 + 31 = 365 + Cal.lp y := by have := cum_last y; omega
      have hc2 : ∀ w', Tab w' → Calls Tryd.prog 27 #[.agg #[.int .i64 y, .int .i64 12, .int .i64 31]] w' fun e w'' => e = .returned (.int .i64 (365 + Cal.lp y)) ∧ Below w'.heap.size w' w'' := fun w' ht => by
        have := OrdinalOf_i_yes y 12 31 w' ht HO2.out
        rw [hq] at this
        exact this
      have HF := Lib.hid hc2
      clear hc2 hq h31
      by_cases hl4 : Cal.Leap y
      · rw [Cal.lp_yes hl4] at hle HF
        have hle2 := dect (show Cal.cum y m + d ≤ 366 by omega)
        have HL := Lib.hid hl4
        clear hl4
        go_wp2_with fail
        refine (HF.out _ HT3.out).mono ?_
        rintro e w4 ⟨rfl, hb4⟩
        clear c0 c1 c2
        obtain ⟨c0, c1, c2, -, -, -⟩ := HC3.out.below hb4
        have HB := Lib.hid (below2 hb13 hb4)
        clear hb13 hb4
        go_wp2_with (first | (go_at_call 31; refine (LeapYear_i_yes y _ g1 g2 HL.out).mono ?_; rintro e w5 ⟨rfl, rfl⟩))
        go_ret
        exact ⟨rfl, HB.out⟩
      · rw [Cal.lp_no hl4] at hle HF
        have hle2 := dect (show Cal.cum y m + d ≤ 365 by omega)
        have HL := Lib.hid (show ¬ (1 ≤ y ∧ y ≤ 9999 ∧ Cal.Leap y) from fun hh => hl4 hh.2.2)
        clear hl4
        go_wp2_with fail
        refine (HF.out _ HT3.out).mono ?_
        rintro e w4 ⟨rfl, hb4⟩
        clear c0 c1 c2
        obtain ⟨c0, c1, c2, -, -, -⟩ := HC3.out.below hb4
        have HB := Lib.hid (below2 hb13 hb4)
        clear hb13 hb4
        go_wp2_with (first | (go_at_call 31; refine (LeapYear_i_no y _ HL.out).mono ?_; rintro e w5 ⟨rfl, rfl⟩))
        go_ret
        exact ⟨rfl, HB.out⟩
    · skip
      have HO := Lib.hid hok
      clear hok
      go_wp2_with fail
      refine (OrdinalOf_i_no _ _ _ _ HT1.out HO.out).mono ?_
      rintro e w2 ⟨rfl, hb2⟩
      obtain ⟨c0, c1, c2⟩ := agg3_keep hb2
      have hb12 := below2 hb1 (below_alloc hb2)
      clear hb1 hb2 HT1 hC
      go_wp2_with fail
      refine (OrdinalOf_s_no _ _ _ _ HO.out).mono ?_
      rintro e w3 ⟨rfl, hb3⟩
      have hb13 := below2 hb12 hb3
      clear c0 c1 c2 hb12 hb3
      go_wp2_with fail
      go_ret
      exact ⟨rfl, hb13⟩
end Go.Proofs.YtdpjhgkiccmnoaaDoor
