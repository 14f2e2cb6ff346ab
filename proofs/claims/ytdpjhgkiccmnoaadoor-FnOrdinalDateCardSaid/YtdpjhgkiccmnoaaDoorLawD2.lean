/-
  The walks of laws on days' numbers: each returns true, and nothing that was there is written. Conditions: the table of the months reads as listed.
-/
import Derived.Test.YtdpjhgkiccmnoaaDoorDrawDate2
namespace Go.Proofs.YtdpjhgkiccmnoaaDoor
open Go.RowKit Go.PlainAid
set_option linter.unusedVariables false

theorem DateOf_i_num (y m d : Int) (w : World) (hT : Tab w) (h : Cal.Ok y m d) : Calls Tryd.prog 20 #[.int .i64 (Cal.num y m d)] w fun e w' => e = .returned (.tuple #[.agg #[.int .i64 y, .int .i64 m, .int .i64 d], .bool true]) ∧ Below w.heap.size w w' := by
  have hb := Cal.num_bd h
  obtain ⟨h1, h2, h3⟩ := Cal.dt_num h
  have hc := DateOf_i_yes (Cal.num y m d) w hT hb.1 hb.2
  rw [h1, h2, h3] at hc
  exact hc
theorem DayNumber_i_dt (n : Int) (w : World) (hT : Tab w) (h0 : 0 ≤ n) (h1 : n ≤ 3652058) : Calls Tryd.prog 18 #[.agg #[.int .i64 (Cal.yo n), .int .i64 (Cal.mo n), .int .i64 (Cal.dd n)]] w fun e w' => e = .returned (.int .i64 n) ∧ Below w.heap.size w w' := by
  obtain ⟨h2, h3⟩ := Cal.dt_ok h0 h1
  have hc := DayNumber_i_yes _ _ _ w hT h2
  rw [h3] at hc
  exact hc
theorem OrdinalDate_i_ord (y m d : Int) (w : World) (hT : Tab w) (h : Cal.Ok y m d) : Calls Tryd.prog 29 #[.int .i64 y, .int .i64 (Cal.cum y m + d)] w fun e w' => e = .returned (.tuple #[.agg #[.int .i64 y, .int .i64 m, .int .i64 d], .bool true]) ∧ Below w.heap.size w w' := by
  obtain ⟨a1, a2, a3, a4, a5, a6⟩ := id h
  have b1 := Cal.cum_bd y a3 (by omega)
  have b2 := Cal.cum_le_end y a3 a4
  obtain ⟨h1, h2, h3⟩ := Cal.dt_num h
  have hc := OrdinalDate_i_yes y (Cal.cum y m + d) w hT ⟨a1, a2, by omega, by omega⟩
  have e : Cal.ny y + (Cal.cum y m + d) - 1 = Cal.num y m d := by unfold Cal.num; omega
  rw [e, h1, h2, h3] at hc
  exact hc
theorem cell3_lt {w w2 : World} {T : TypeId} {a b c : Value} (hb : Below (w.alloc (.cells #[a, b, c] T)).heap.size (w.alloc (.cells #[a, b, c] T)) w2) : w.heap.size < w2.heap.size := by
  have := hb.size
  simp at this
  omega
theorem decf {p : Prop} [Decidable p] (h : ¬ p) : decide p = false := by simp [h]
theorem dect {p : Prop} [Decidable p] (h : p) : decide p = true := by simp [h]
theorem walk_Number (a : Option Addr) (len cap : Nat) (z : List Int) (w : World) (h : IsRow .u8 w a len cap z) (hT : Tab w) : Calls Tryd.prog 6 #[.slice a len cap] w fun e w' => e = .returned (.bool true) ∧ Below w.heap.size w w' := by
  obtain ⟨hl, hm⟩ := row_len h
  have hB := Bytes.of_row h
  clear h
  have hm' := hm
  unfold maxLen at hm'
  have HT := Lib.hid hT
  clear hT
  by_cases hbig : (1048576 : Int) < (len : Int)
  · go_enter Tryd.func6, Tryd.ntmps6
    go_wp2
    go_ret
    exact ⟨rfl, Below.refl _ _⟩
  · go_enter Tryd.func6, Tryd.ntmps6
    go_wp2_with fail
    refine (DrawDayNumber_any a len cap w hl hm hB).mono ?_
    rintro e w1 ⟨y, m, d, y0, y1, m0, m1, d0, d1, rfl, hb1⟩
    clear hB
    have HT1 := Lib.hid ((HT.out.below hb1).alloc (.cells #[.int .i64 y, .int .i64 m, .int .i64 d] 25))
    have hC := Cells3.new w1 25 (.int .i64 y) (.int .i64 m) (.int .i64 d)
    by_cases hok : Cal.Ok y m d
    · have HO := Lib.hid hok
      have hn := Cal.num_bd hok
      have qn := decf (show ¬ Cal.num y m d < 0 by omega)
      have qm := dect (show Cal.num y m d ≤ 3652058 by omega)
      clear hok
      go_wp2_with fail
      refine (DayNumber_i_yes _ _ _ _ HT1.out HO.out).mono ?_
      rintro e w2 ⟨rfl, hb2⟩
      obtain ⟨c0, c1, c2⟩ := agg3_keep hb2
      have hb12 := below2 hb1 (below_alloc hb2)
      have HT2 := Lib.hid (HT1.out.below hb2)
      have HC2 := Lib.hid (hC.below hb2)
      clear hb1 hb2 HT1 hC
      go_wp2_with fail
      refine (DayNumber_s_yes _ _ _ _ HO.out).mono ?_
      rintro e w3 ⟨rfl, hb3⟩
      have HC3 := Lib.hid (HC2.out.below hb3)
      have HT3 := Lib.hid (HT2.out.below hb3)
      have hb13 := below2 hb12 hb3
      clear c0 c1 c2 hb12 hb3 HC2 HT2
      go_wp2_with fail
      refine (DateOf_i_num _ _ _ _ HT3.out HO.out).mono ?_
      rintro e w4 ⟨rfl, hb4⟩
      have HC4 := Lib.hid (HC3.out.below hb4)
      have hlt := HC4.out.lt
      have hne := Nat.ne_of_lt hlt
      have hne' := Nat.ne_of_gt hlt
      obtain ⟨c0, c1, c2, -, -, -⟩ := HC4.out
      have HB := Lib.hid (below2 hb13 hb4)
      clear hb13 hb4 HC3 HT3
      go_wp2_with fail
      go_ret
      exact ⟨rfl, HB.out.alloc HB.out.size _⟩
    · have HO := Lib.hid hok
      clear hok
      go_wp2_with fail
      refine (DayNumber_i_no _ _ _ _ HT1.out HO.out).mono ?_
      rintro e w2 ⟨rfl, hb2⟩
      obtain ⟨c0, c1, c2⟩ := agg3_keep hb2
      have hb12 := below2 hb1 (below_alloc hb2)
      clear hb1 hb2 HT1 hC
      go_wp2_with fail
      refine (DayNumber_s_no _ _ _ _ HO.out).mono ?_
      rintro e w3 ⟨rfl, hb3⟩
      have hb13 := below2 hb12 hb3
      clear c0 c1 c2 hb12 hb3
      go_wp2_with fail
      go_ret
      exact ⟨rfl, hb13⟩
theorem walk_NumberLater (a : Option Addr) (len cap : Nat) (z : List Int) (w : World) (h : IsRow .u8 w a len cap z) (hT : Tab w) : Calls Tryd.prog 5 #[.slice a len cap] w fun e w' => e = .returned (.bool true) ∧ Below w.heap.size w w' := by
  obtain ⟨hl, hm⟩ := row_len h
  have hB := Bytes.of_row h
  clear h
  have hm' := hm
  unfold maxLen at hm'
  have HT := Lib.hid hT
  clear hT
  by_cases hbig : (1048576 : Int) < (len : Int)
  · go_enter Tryd.func5, Tryd.ntmps5
    go_wp2
    go_ret
    exact ⟨rfl, Below.refl _ _⟩
  · go_enter Tryd.func5, Tryd.ntmps5
    go_wp2_with fail
    refine (DrawDayNumber_any a len cap w hl hm hB).mono ?_
    rintro e w1 ⟨y, m, d, y0, y1, m0, m1, d0, d1, rfl, hb1⟩
    clear hB
    have HT1 := Lib.hid ((HT.out.below hb1).alloc (.cells #[.int .i64 y, .int .i64 m, .int .i64 d] 25))
    have hC := Cells3.new w1 25 (.int .i64 y) (.int .i64 m) (.int .i64 d)
    by_cases hok : Cal.Ok y m d
    · have HO := Lib.hid hok
      have hn := Cal.num_bd hok
      have qn := decf (show ¬ Cal.num y m d < 0 by omega)
      go_wp2_with fail
      refine (DayNumber_i_yes _ _ _ _ HT1.out HO.out).mono ?_
      rintro e w2 ⟨rfl, hb2⟩
      obtain ⟨c0, c1, c2⟩ := agg3_keep hb2
      have hb12 := below2 hb1 (below_alloc hb2)
      have HT2 := Lib.hid (HT1.out.below hb2)
      have HC2 := Lib.hid (hC.below hb2)
      clear hb1 hb2 HT1 hC
      go_wp2_with fail
      refine (DayNumber_s_yes _ _ _ _ HO.out).mono ?_
      rintro e w3 ⟨rfl, hb3⟩
      have HC3 := Lib.hid (HC2.out.below hb3)
      have HT3 := Lib.hid (HT2.out.below hb3)
      have hb13 := below2 hb12 hb3
      clear c0 c1 c2 hb12 hb3 HC2 HT2
      obtain ⟨c0, c1, c2, -, -, -⟩ := HC3.out
      by_cases h12 : m = 12
      · have q12 := dt_ h12
        clear hok h12
        go_wp2_with fail
        go_ret
        exact ⟨rfl, hb13⟩
      · have q12 := df_ h12
        obtain ⟨g1, g2, g3, g4, g5, g6⟩ := hok
        have hcs := Cal.cum_succ y g3 g4
        have hmd := Cal.md_bd y g3 g4
        have hmd2 := Cal.md_bd y (m := m + 1) (by omega) (by omega)
        have HO2 := Lib.hid (show Cal.Ok y (m + 1) 1 from ⟨g1, g2, by omega, by omega, by omega, by omega⟩)
        have e1 : Cal.num y m d < Cal.num y (m + 1) 1 := by unfold Cal.num; omega
        have e2 : Cal.num y (m + 1) 1 ≤ Cal.num y m d + 31 := by unfold Cal.num; omega
        clear g1 g2 g3 g4 g5 g6 hcs hmd hmd2 h12
        go_wp2_with fail
        refine (DayNumber_i_yes y (m + 1) 1 _ HT3.out HO2.out).mono ?_
        rintro e w4 ⟨rfl, hb4⟩
        have hb14 := below2 hb13 hb4
        clear c0 c1 c2 hb13 hb4 HC3 HT3
        have qa := dect e1
        have qb := dect e2
        go_wp2_with fail
        go_ret
        exact ⟨rfl, hb14⟩
    · have HO := Lib.hid hok
      clear hok
      go_wp2_with fail
      refine (DayNumber_i_no _ _ _ _ HT1.out HO.out).mono ?_
      rintro e w2 ⟨rfl, hb2⟩
      obtain ⟨c0, c1, c2⟩ := agg3_keep hb2
      have hb12 := below2 hb1 (below_alloc hb2)
      have HC2 := Lib.hid (hC.below hb2)
      clear hb1 hb2 HT1 hC
      go_wp2_with fail
      refine (DayNumber_s_no _ _ _ _ HO.out).mono ?_
      rintro e w3 ⟨rfl, hb3⟩
      have hb13 := below2 hb12 hb3
      clear c0 c1 c2 hb12
      obtain ⟨c0, c1, c2, -, -, -⟩ := HC2.out.below hb3
      clear hb3
      go_wp2_with fail
      go_ret
      exact ⟨rfl, hb13⟩
theorem walk_DateOfWhen (a : Option Addr) (len cap : Nat) (z : List Int) (w : World) (h : IsRow .u8 w a len cap z) (hT : Tab w) : Calls Tryd.prog 8 #[.slice a len cap] w fun e w' => e = .returned (.bool true) ∧ Below w.heap.size w w' := by
  obtain ⟨hl, hm⟩ := row_len h
  have hB := Bytes.of_row h
  clear h
  have hm' := hm
  unfold maxLen at hm'
  have HT := Lib.hid hT
  clear hT
  by_cases hbig : (1048576 : Int) < (len : Int)
  · go_enter Tryd.func8, Tryd.ntmps8
    go_wp2
    go_ret
    exact ⟨rfl, Below.refl _ _⟩
  · go_enter Tryd.func8, Tryd.ntmps8
    go_wp2_with fail
    refine (DrawDateOf_any a len cap w hl hm hB).mono ?_
    rintro e w1 ⟨n, n0, n1, rfl, hb1⟩
    clear hB
    by_cases hok : n < 0 ∨ 3652058 < n
    · skip
      have HO := Lib.hid hok
      go_wp2_with fail
      refine (DateOf_i_no _ _ HO.out).mono ?_
      rintro e w2 ⟨rfl, hb2⟩
      have hb12 := below2 hb1 hb2
      clear hb1 hb2
      go_wp2_with fail
      refine (DateOf_s_no _ _ HO.out).mono ?_
      rintro e w3 ⟨rfl, hb3⟩
      obtain ⟨c0, c1, c2⟩ := agg3_keep hb3
      have hlt := cell3_lt hb3
      have hne := Nat.ne_of_lt hlt
      have hne' := Nat.ne_of_gt hlt
      have HB := Lib.hid (below2 hb12 (below_alloc hb3))
      clear hb12 hb3
      rcases hok with hok | hok
      · have q := decf (show ¬ 0 ≤ n by omega)
        go_wp2_with fail
        go_ret
        exact ⟨rfl, HB.out.alloc HB.out.size _⟩
      · have q := dect (show 0 ≤ n by omega)
        have q2 := decf (show ¬ n ≤ 3652058 by omega)
        go_wp2_with fail
        go_ret
        exact ⟨rfl, HB.out.alloc HB.out.size _⟩
    · skip
      have HO := Lib.hid (show 0 ≤ n ∧ n ≤ 3652058 by omega)
      go_wp2_with fail
      refine (DateOf_i_yes _ _ (HT.out.below hb1) HO.out.1 HO.out.2).mono ?_
      rintro e w2 ⟨rfl, hb2⟩
      have hb12 := below2 hb1 hb2
      clear hb1 hb2
      go_wp2_with fail
      refine (DateOf_s_yes _ _ HO.out.1 HO.out.2).mono ?_
      rintro e w3 ⟨rfl, hb3⟩
      obtain ⟨c0, c1, c2⟩ := agg3_keep hb3
      have HC := Lib.hid ((Cells3.new w2 25 (.int .i64 (Cal.yo n)) (.int .i64 (Cal.mo n)) (.int .i64 (Cal.dd n))).below hb3)
      have hlt := cell3_lt hb3
      have hne := Nat.ne_of_lt hlt
      have hne' := Nat.ne_of_gt hlt
      have HB := Lib.hid (below2 hb12 (below_alloc hb3))
      have HT3 := Lib.hid (HT.out.below HB.out)
      clear hb12 hb3
      have q := dect (show 0 ≤ n by omega)
      have q2 := dect (show n ≤ 3652058 by omega)
      go_wp2_with fail
      go_ret
      exact ⟨rfl, HB.out.alloc HB.out.size _⟩
theorem walk_DateOf (a : Option Addr) (len cap : Nat) (z : List Int) (w : World) (h : IsRow .u8 w a len cap z) (hT : Tab w) : Calls Tryd.prog 7 #[.slice a len cap] w fun e w' => e = .returned (.bool true) ∧ Below w.heap.size w w' := by
  obtain ⟨hl, hm⟩ := row_len h
  have hB := Bytes.of_row h
  clear h
  have hm' := hm
  unfold maxLen at hm'
  have HT := Lib.hid hT
  clear hT
  by_cases hbig : (1048576 : Int) < (len : Int)
  · go_enter Tryd.func7, Tryd.ntmps7
    go_wp2
    go_ret
    exact ⟨rfl, Below.refl _ _⟩
  · go_enter Tryd.func7, Tryd.ntmps7
    go_wp2_with fail
    refine (DrawDateOf_any a len cap w hl hm hB).mono ?_
    rintro e w1 ⟨n, n0, n1, rfl, hb1⟩
    clear hB
    by_cases hok : n < 0 ∨ 3652058 < n
    · skip
      have HO := Lib.hid hok
      go_wp2_with fail
      refine (DateOf_i_no _ _ HO.out).mono ?_
      rintro e w2 ⟨rfl, hb2⟩
      have hb12 := below2 hb1 hb2
      clear hb1 hb2
      go_wp2_with fail
      refine (DateOf_s_no _ _ HO.out).mono ?_
      rintro e w3 ⟨rfl, hb3⟩
      obtain ⟨c0, c1, c2⟩ := agg3_keep hb3
      have hlt := cell3_lt hb3
      have hne := Nat.ne_of_lt hlt
      have hne' := Nat.ne_of_gt hlt
      have HB := Lib.hid (below2 hb12 (below_alloc hb3))
      clear hb12 hb3
      go_wp2_with fail
      go_ret
      exact ⟨rfl, HB.out.alloc HB.out.size _⟩
    · skip
      have HO := Lib.hid (show 0 ≤ n ∧ n ≤ 3652058 by omega)
      go_wp2_with fail
      refine (DateOf_i_yes _ _ (HT.out.below hb1) HO.out.1 HO.out.2).mono ?_
      rintro e w2 ⟨rfl, hb2⟩
      have hb12 := below2 hb1 hb2
      clear hb1 hb2
      go_wp2_with fail
      refine (DateOf_s_yes _ _ HO.out.1 HO.out.2).mono ?_
      rintro e w3 ⟨rfl, hb3⟩
      obtain ⟨c0, c1, c2⟩ := agg3_keep hb3
      have HC := Lib.hid ((Cells3.new w2 25 (.int .i64 (Cal.yo n)) (.int .i64 (Cal.mo n)) (.int .i64 (Cal.dd n))).below hb3)
      have hlt := cell3_lt hb3
      have hne := Nat.ne_of_lt hlt
      have hne' := Nat.ne_of_gt hlt
      have HB := Lib.hid (below2 hb12 (below_alloc hb3))
      have HT3 := Lib.hid (HT.out.below HB.out)
      clear hb12 hb3
      have HT4 := Lib.hid (HT3.out.alloc (.cells #[.int .i64 (Cal.yo n), .int .i64 (Cal.mo n), .int .i64 (Cal.dd n)] 25))
      have HC4 := Lib.hid (HC.out.alloc (.cells #[.int .i64 (Cal.yo n), .int .i64 (Cal.mo n), .int .i64 (Cal.dd n)] 25))
      have HOk := Lib.hid (Cal.dt_ok HO.out.1 HO.out.2).1
      clear HT3 HC
      go_wp2_with fail
      refine (DateValid_i_yes _ _ _ _ HT4.out HOk.out).mono ?_
      rintro e w4 ⟨rfl, hb4⟩
      have HB4 := Lib.hid (below2 HB.out (below_alloc hb4))
      have HT5 := Lib.hid (HT4.out.below hb4)
      clear c0 c1 c2 hlt hne hne' HT4
      obtain ⟨c0, c1, c2, -, -, -⟩ := HC4.out.below hb4
      clear hb4 HC4 HB
      go_wp2_with fail
      refine (DayNumber_i_dt _ _ HT5.out HO.out.1 HO.out.2).mono ?_
      rintro e w5 ⟨rfl, hb5⟩
      go_wp2_with fail
      go_ret
      exact ⟨rfl, below2 HB4.out hb5⟩
end Go.Proofs.YtdpjhgkiccmnoaaDoor
