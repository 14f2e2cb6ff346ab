/-
  The walks of laws on the days of a week: each returns true, and nothing that was there is written. Conditions: the table of the months reads as listed.
-/
import Derived.Test.YtjgpfadoebnchaaDoorLawW
import Derived.Test.YtjgpfadoebnchaaDoorDrawWeek
namespace Go.Proofs.YtjgpfadoebnchaaDoor
open Go.RowKit Go.PlainAid
set_option linter.unusedVariables false

theorem Weekday_i_dt (n : Int) (w : World) (hT : Tab w) (h0 : 0 ≤ n) (h1 : n ≤ 3652058) : Calls Tryd.prog 17 #[.agg #[.int .i64 (Cal.yo n), .int .i64 (Cal.mo n), .int .i64 (Cal.dd n)]] w fun e w' => e = .returned (.int .i64 (Cal.wd n)) ∧ Below w.heap.size w w' := by
  obtain ⟨h2, h3⟩ := Cal.dt_ok h0 h1
  have hc := Weekday_i_yes _ _ _ w hT h2
  rw [h3] at hc
  exact hc
theorem wd_ne (n : Int) : (Cal.wd n == 0) = false := df_ (by have := Cal.wd_bd n; omega)
theorem wd_next (n : Int) : Cal.wd (n + 1) = Cal.wd n % 7 + 1 := by unfold Cal.wd; omega
theorem walk_WeekdayFirst (a : Option Addr) (len cap : Nat) (z : List Int) (w : World) (h : IsRow .u8 w a len cap z) (hT : Tab w) : Calls Tryd.prog 7 #[.slice a len cap] w fun e w' => e = .returned (.bool true) ∧ Below w.heap.size w w' := by
  obtain ⟨hl, hm⟩ := row_len h
  have hB := Bytes.of_row h
  clear h
  have hm' := hm
  unfold maxLen at hm'
  have HT := Lib.hid hT
  clear hT
  by_cases hbig : (1048576 : Int) < (len : Int)
  · go_enter Tryd.func7, Tryd.ntmps7
    go_wp2
    go_ret
    exact ⟨rfl, Below.refl _ _⟩
  · go_enter Tryd.func7, Tryd.ntmps7
    go_wp2_with fail
    refine (DrawWeekday_any a len cap w hl hm hB).mono ?_
    rintro e w1 ⟨y, m, d, y0, y1, m0, m1, d0, d1, rfl, hb1⟩
    clear hB
    have HT1 := Lib.hid ((HT.out.below hb1).alloc (.cells #[.int .i64 y, .int .i64 m, .int .i64 d] 25))
    have hC := Cells3.new w1 25 (.int .i64 y) (.int .i64 m) (.int .i64 d)
    by_cases hok : Cal.Ok y m d
    · skip
      have HO := Lib.hid hok
      have hn := Cal.num_bd hok
      have q0 := wd_ne (Cal.num y m d)
      have hwd := Cal.wd_bd (Cal.num y m d)
      clear hok
      go_wp2_with fail
      refine (Weekday_i_yes _ _ _ _ HT1.out HO.out).mono ?_
      rintro e w2 ⟨rfl, hb2⟩
      obtain ⟨c0, c1, c2⟩ := agg3_keep hb2
      have hb12 := below2 hb1 (below_alloc hb2)
      have HT2 := Lib.hid (HT1.out.below hb2)
      have HC2 := Lib.hid (hC.below hb2)
      clear hb1 hb2 HT1 hC
      go_wp2_with fail
      refine (Weekday_s_yes _ _ _ _ HO.out).mono ?_
      rintro e w3 ⟨rfl, hb3⟩
      have HC3 := Lib.hid (HC2.out.below hb3)
      have HT3 := Lib.hid (HT2.out.below hb3)
      have hb13 := below2 hb12 hb3
      clear c0 c1 c2 hb12 hb3 HC2 HT2
      obtain ⟨c0, c1, c2, -, -, -⟩ := HC3.out
      have qe := dt_ (show Cal.wd (Cal.num y m d) = 1 + Cal.num y m d % 7 from by unfold Cal.wd; omega)
      go_wp2_with fail
      refine (DayNumber_i_yes _ _ _ _ HT3.out HO.out).mono ?_
      rintro e w4 ⟨rfl, hb4⟩
      go_wp2_with fail
      go_ret
      exact ⟨rfl, below2 hb13 hb4⟩
    · skip
      have HO := Lib.hid hok
      clear hok
      go_wp2_with fail
      refine (Weekday_i_no _ _ _ _ HT1.out HO.out).mono ?_
      rintro e w2 ⟨rfl, hb2⟩
      obtain ⟨c0, c1, c2⟩ := agg3_keep hb2
      have hb12 := below2 hb1 (below_alloc hb2)
      clear hb1 hb2 HT1 hC
      go_wp2_with fail
      refine (Weekday_s_no _ _ _ _ HO.out).mono ?_
      rintro e w3 ⟨rfl, hb3⟩
      have hb13 := below2 hb12 hb3
      clear c0 c1 c2 hb12 hb3
      go_wp2_with fail
      go_ret
      exact ⟨rfl, hb13⟩
theorem walk_Weekday (a : Option Addr) (len cap : Nat) (z : List Int) (w : World) (h : IsRow .u8 w a len cap z) (hT : Tab w) : Calls Tryd.prog 8 #[.slice a len cap] w fun e w' => e = .returned (.bool true) ∧ Below w.heap.size w w' := by
  obtain ⟨hl, hm⟩ := row_len h
  have hB := Bytes.of_row h
  clear h
  have hm' := hm
  unfold maxLen at hm'
  have HT := Lib.hid hT
  clear hT
  by_cases hbig : (1048576 : Int) < (len : Int)
  · go_enter Tryd.func8, Tryd.ntmps8
    go_wp2
    go_ret
    exact ⟨rfl, Below.refl _ _⟩
  · go_enter Tryd.func8, Tryd.ntmps8
    go_wp2_with fail
    refine (DrawWeekday_any a len cap w hl hm hB).mono ?_
    rintro e w1 ⟨y, m, d, y0, y1, m0, m1, d0, d1, rfl, hb1⟩
    clear hB
    have HT1 := Lib.hid ((HT.out.below hb1).alloc (.cells #[.int .i64 y, .int .i64 m, .int .i64 d] 25))
    have hC := Cells3.new w1 25 (.int .i64 y) (.int .i64 m) (.int .i64 d)
    by_cases hok : Cal.Ok y m d
    · skip
      have HO := Lib.hid hok
      have hn := Cal.num_bd hok
      have q0 := wd_ne (Cal.num y m d)
      have hwd := Cal.wd_bd (Cal.num y m d)
      clear hok
      go_wp2_with fail
      refine (Weekday_i_yes _ _ _ _ HT1.out HO.out).mono ?_
      rintro e w2 ⟨rfl, hb2⟩
      obtain ⟨c0, c1, c2⟩ := agg3_keep hb2
      have hb12 := below2 hb1 (below_alloc hb2)
      have HT2 := Lib.hid (HT1.out.below hb2)
      have HC2 := Lib.hid (hC.below hb2)
      clear hb1 hb2 HT1 hC
      go_wp2_with fail
      refine (Weekday_s_yes _ _ _ _ HO.out).mono ?_
      rintro e w3 ⟨rfl, hb3⟩
      have HC3 := Lib.hid (HC2.out.below hb3)
      have HT3 := Lib.hid (HT2.out.below hb3)
      have hb13 := below2 hb12 hb3
      clear c0 c1 c2 hb12 hb3 HC2 HT2
      obtain ⟨c0, c1, c2, -, -, -⟩ := HC3.out
      go_wp2_with fail
      refine (DayNumber_i_yes _ _ _ _ HT3.out HO.out).mono ?_
      rintro e w4 ⟨rfl, hb4⟩
      have HT4 := Lib.hid (HT3.out.below hb4)
      have hb14 := below2 hb13 hb4
      have qa := dect hwd.1
      have qb := dect hwd.2
      clear c0 c1 c2 hb13 hb4 HT3 HC3
      by_cases hx : Cal.num y m d + 1 ≤ 3652058
      · have qe := dt_ (wd_next (Cal.num y m d))
        go_wp2_with fail
        refine (DateOf_i_yes _ _ HT4.out (by omega) hx).mono ?_
        rintro e w5 ⟨rfl, hb5⟩
        have hb15 := below2 hb14 hb5
        have HT5 := Lib.hid ((HT4.out.below hb5).alloc (.cells #[.int .i64 (Cal.yo (Cal.num y m d + 1)), .int .i64 (Cal.mo (Cal.num y m d + 1)), .int .i64 (Cal.dd (Cal.num y m d + 1))] 25))
        clear hb14 hb5 HT4
        go_wp2_with fail
        refine (Weekday_i_dt _ _ HT5.out (by omega) hx).mono ?_
        rintro e w6 ⟨rfl, hb6⟩
        go_wp2_with fail
        go_ret
        exact ⟨rfl, below2 hb15 (below_alloc hb6)⟩
      · go_wp2_with fail
        refine (DateOf_i_no _ _ (.inr (by omega))).mono ?_
        rintro e w5 ⟨rfl, hb5⟩
        have hb15 := below2 hb14 hb5
        clear hb14 hb5 HT4
        go_wp2_with fail
        go_ret
        exact ⟨rfl, hb15.alloc hb15.size _⟩
    · skip
      have HO := Lib.hid hok
      clear hok
      go_wp2_with fail
      refine (Weekday_i_no _ _ _ _ HT1.out HO.out).mono ?_
      rintro e w2 ⟨rfl, hb2⟩
      obtain ⟨c0, c1, c2⟩ := agg3_keep hb2
      have hb12 := below2 hb1 (below_alloc hb2)
      clear hb1 hb2 HT1 hC
      go_wp2_with fail
      refine (Weekday_s_no _ _ _ _ HO.out).mono ?_
      rintro e w3 ⟨rfl, hb3⟩
      have hb13 := below2 hb12 hb3
      clear c0 c1 c2 hb12 hb3
      go_wp2_with fail
      go_ret
      exact ⟨rfl, hb13⟩
theorem long_split {y : Int} (h1 : 1 ≤ y) : (Cal.wks y = 53 ∧ Cal.wd (Cal.num y 1 1) = 4) ∨ (Cal.wks y = 53 ∧ Cal.wd (Cal.num y 1 1) ≠ 4 ∧ Cal.wd (Cal.num y 12 31) = 4) ∨ (Cal.wks y = 52 ∧ Cal.wd (Cal.num y 1 1) ≠ 4 ∧ Cal.wd (Cal.num y 12 31) ≠ 4) := by
  have e1 : Cal.num y 1 1 = Cal.ny y := by unfold Cal.num; rw [Cal.cum_one]; omega
  have e2 : Cal.num y 12 31 = Cal.ny y + 364 + Cal.lp y := by
    have := cum_last y
    have hm : Cal.md y 12 = 31 := rfl
    unfold Cal.num
    omega
  rw [e1, e2]
  have hl := Cal.wks_long h1
  have hb := Cal.wks_bd h1
  by_cases a : Cal.wd (Cal.ny y) = 4
  · exact .inl ⟨hl.2 (.inl a), a⟩
  · by_cases b : Cal.wd (Cal.ny y + 364 + Cal.lp y) = 4
    · exact .inr (.inl ⟨hl.2 (.inr b), a, b⟩)
    · refine .inr (.inr ⟨?_, a, b⟩)
      rcases hb with hb | hb
      · exact hb
      · rcases hl.1 hb with c | c
        · exact absurd c a
        · exact absurd c b
theorem walk_WeeksLong (a : Option Addr) (len cap : Nat) (z : List Int) (w : World) (h : IsRow .u8 w a len cap z) (hT : Tab w) : Calls Tryd.prog 6 #[.slice a len cap] w fun e w' => e = .returned (.bool true) ∧ Below w.heap.size w w' := by
  obtain ⟨hl, hm⟩ := row_len h
  have hB := Bytes.of_row h
  clear h
  have hm' := hm
  unfold maxLen at hm'
  have HT := Lib.hid hT
  clear hT
  by_cases hbig : (1048576 : Int) < (len : Int)
  · go_enter Tryd.func6, Tryd.ntmps6
    go_wp2
    go_ret
    exact ⟨rfl, Below.refl _ _⟩
  · go_enter Tryd.func6, Tryd.ntmps6
    go_wp2_with fail
    refine (DrawWeeksOf_any a len cap w hl hm hB).mono ?_
    rintro e w1 ⟨y, y0, y1, rfl, hb1⟩
    clear hB
    by_cases hr : y < 1 ∨ 9999 < y
    · have HR := Lib.hid hr
      clear hr
      go_wp2_with (first | (go_at_call 27; refine (WeeksOf_s_no y _ HR.out).mono ?_; rintro e w1 ⟨rfl, rfl⟩) | (go_at_call 26; refine (WeeksOf_i_no y _ HR.out).mono ?_; rintro e w1 ⟨rfl, rfl⟩))
      go_ret
      exact ⟨rfl, hb1⟩
    · have h1 : 1 ≤ y := by omega
      have h2 : y ≤ 9999 := by omega
      clear hr
      have q0 := df_ (show Cal.wks y ≠ 0 from by have := Cal.wks_bd h1; omega)
      have HT1 := Lib.hid (HT.out.below hb1)
      have HO1 := Lib.hid (show Cal.Ok y 1 1 from ⟨h1, h2, by omega, by omega, by omega, by have := Cal.md_bd y (m := 1) (by omega) (by omega); omega⟩)
      have HO2 := Lib.hid (show Cal.Ok y 12 31 from ⟨h1, h2, by omega, by omega, by omega, by have : Cal.md y 12 = 31 := rfl; omega⟩)
      rcases long_split h1 with ⟨x1, x2⟩ | ⟨x1, x2, x3⟩ | ⟨x1, x2, x3⟩
      · have qa := dt_ x1
        have qb := dt_ x2
        clear x1 x2
        go_wp2_with fail
        refine (WeeksOf_i_yes y _ h1 h2).mono ?_
        rintro e w2 ⟨rfl, rfl⟩
        go_wp2_with fail
        refine (WeeksOf_s_yes y _ h1 h2).mono ?_
        rintro e w2 ⟨rfl, rfl⟩
        go_wp2_with fail
        refine (Weekday_i_yes _ _ _ _ HT1.out HO1.out).mono ?_
        rintro e w2 ⟨rfl, hb2⟩
        have hb12 := below2 hb1 hb2
        have HT2 := Lib.hid (HT.out.below hb12)
        clear hb1 hb2 HT1
        go_wp2_with fail
        refine (Weekday_i_yes _ _ _ _ HT2.out HO2.out).mono ?_
        rintro e w3 ⟨rfl, hb3⟩
        go_wp2_with fail
        go_ret
        exact ⟨rfl, below2 hb12 hb3⟩
      · have qa := dt_ x1
        have qb := df_ x2
        have qc := dt_ x3
        clear x1 x2 x3
        go_wp2_with fail
        refine (WeeksOf_i_yes y _ h1 h2).mono ?_
        rintro e w2 ⟨rfl, rfl⟩
        go_wp2_with fail
        refine (WeeksOf_s_yes y _ h1 h2).mono ?_
        rintro e w2 ⟨rfl, rfl⟩
        go_wp2_with fail
        refine (Weekday_i_yes _ _ _ _ HT1.out HO1.out).mono ?_
        rintro e w2 ⟨rfl, hb2⟩
        have hb12 := below2 hb1 hb2
        have HT2 := Lib.hid (HT.out.below hb12)
        clear hb1 hb2 HT1
        go_wp2_with fail
        refine (Weekday_i_yes _ _ _ _ HT2.out HO2.out).mono ?_
        rintro e w3 ⟨rfl, hb3⟩
        go_wp2_with fail
        go_ret
        exact ⟨rfl, below2 hb12 hb3⟩
      · have qa := df_ (show Cal.wks y ≠ 53 from by omega)
        have qb := df_ x2
        have qc := df_ x3
        clear x1 x2 x3
        go_wp2_with fail
        refine (WeeksOf_i_yes y _ h1 h2).mono ?_
        rintro e w2 ⟨rfl, rfl⟩
        go_wp2_with fail
        refine (WeeksOf_s_yes y _ h1 h2).mono ?_
        rintro e w2 ⟨rfl, rfl⟩
        go_wp2_with fail
        refine (Weekday_i_yes _ _ _ _ HT1.out HO1.out).mono ?_
        rintro e w2 ⟨rfl, hb2⟩
        have hb12 := below2 hb1 hb2
        have HT2 := Lib.hid (HT.out.below hb12)
        clear hb1 hb2 HT1
        go_wp2_with fail
        refine (Weekday_i_yes _ _ _ _ HT2.out HO2.out).mono ?_
        rintro e w3 ⟨rfl, hb3⟩
        go_wp2_with fail
        go_ret
        exact ⟨rfl, below2 hb12 hb3⟩
end Go.Proofs.YtjgpfadoebnchaaDoor
