/-
  The walks of the laws on years and months: each returns true, and nothing that was there is written. Conditions: the table of the months reads as listed.
-/
import Derived.Test.YtdbdfionanlogaaDoorDate3
import Derived.Test.YtdbdfionanlogaaDoorDrawYear
namespace Go.Proofs.YtdbdfionanlogaaDoor
open Go.RowKit Go.PlainAid
set_option linter.unusedVariables false

theorem walk_ExactMonthDays (y m : Int) (w : World) (hy : (Lit.int .i64 y).wf = true) (hm : (Lit.int .i64 m).wf = true) (hT : Tab w) : Calls Tryd.prog 3 #[.int .i64 y, .int .i64 m] w fun e w' => e = .returned (.bool true) ∧ Below w.heap.size w w' := by
  clear hy hm
  have HT := Lib.hid hT
  clear hT
  by_cases hok : MonOk y m
  · have HO := Lib.hid hok
    clear hok
    go_enter Tryd.func3, Tryd.ntmps3
    go_wp2_with (first | (go_at_call 8; refine (MonthDays_s_yes y m _ HO.out).mono ?_; rintro e w1 ⟨rfl, hb1⟩) | (go_at_call 9; refine (MonthDays_i_yes y m _ (HT.out.below hb1) HO.out).mono ?_; rintro e w2 ⟨rfl, rfl⟩))
    go_ret
    exact ⟨rfl, hb1⟩
  · have HO := Lib.hid hok
    clear hok
    go_enter Tryd.func3, Tryd.ntmps3
    go_wp2_with (first | (go_at_call 8; refine (MonthDays_s_no y m _ HO.out).mono ?_; rintro e w1 ⟨rfl, rfl⟩) | (go_at_call 9; refine (MonthDays_i_no y m _ HO.out).mono ?_; rintro e w2 ⟨rfl, rfl⟩))
    go_ret
    exact ⟨rfl, Below.refl _ _⟩
theorem walk_ExactDateValid (y m d : Int) (w : World) (h0 : (Lit.int .i64 y).wf = true) (h1 : (Lit.int .i64 m).wf = true) (h2 : (Lit.int .i64 d).wf = true) (hT : Tab w) : Calls Tryd.prog 7 #[.agg #[.int .i64 y, .int .i64 m, .int .i64 d]] w fun e w' => e = .returned (.bool true) ∧ Below w.heap.size w w' := by
  clear h0 h1 h2
  have HT := Lib.hid hT
  clear hT
  by_cases hok : Cal.Ok y m d
  · have HO := Lib.hid hok
    clear hok
    go_enter Tryd.func7, Tryd.ntmps7
    go_wp2_with fail
    refine (toDate_any _ _ _ _).mono ?_
    rintro e w1 ⟨rfl, hb1⟩
    go_wp2_with fail
    refine (DateValid_s_yes _ _ _ _ HO.out).mono ?_
    rintro e w2 ⟨rfl, hb2⟩
    have hB := below2 hb1 hb2
    obtain ⟨d0, d1, d2⟩ := agg3_keep hB
    clear hb1 hb2
    go_wp2_with fail
    refine (toDate_any _ _ _ _).mono ?_
    rintro e w3 ⟨rfl, hb3⟩
    go_wp2_with fail
    have hB3 := below_alloc (below2 hB hb3)
    clear hB hb3 d0 d1 d2
    refine (DateValid_i_yes _ _ _ _ (HT.out.below hB3) HO.out).mono ?_
    rintro e w4 ⟨rfl, hb4⟩
    go_wp2_with fail
    go_ret
    exact ⟨rfl, below2 hB3 hb4⟩
  · have HO := Lib.hid hok
    clear hok
    go_enter Tryd.func7, Tryd.ntmps7
    go_wp2_with fail
    refine (toDate_any _ _ _ _).mono ?_
    rintro e w1 ⟨rfl, hb1⟩
    go_wp2_with fail
    refine (DateValid_s_no _ _ _ _ HO.out).mono ?_
    rintro e w2 ⟨rfl, hb2⟩
    have hB := below2 hb1 hb2
    obtain ⟨d0, d1, d2⟩ := agg3_keep hB
    clear hb1 hb2
    go_wp2_with fail
    refine (toDate_any _ _ _ _).mono ?_
    rintro e w3 ⟨rfl, hb3⟩
    go_wp2_with fail
    have hB3 := below_alloc (below2 hB hb3)
    clear hB hb3 d0 d1 d2
    refine (DateValid_i_no _ _ _ _ (HT.out.below hB3) HO.out).mono ?_
    rintro e w4 ⟨rfl, hb4⟩
    go_wp2_with fail
    go_ret
    exact ⟨rfl, below2 hB3 hb4⟩
theorem walk_Leap (a : Option Addr) (len cap : Nat) (z : List Int) (w : World) (h : IsRow .u8 w a len cap z) (hT : Tab w) : Calls Tryd.prog 4 #[.slice a len cap] w fun e w' => e = .returned (.bool true) ∧ Below w.heap.size w w' := by
  obtain ⟨hl, hm⟩ := row_len h
  have hB := Bytes.of_row h
  clear h
  have hm' := hm
  unfold maxLen at hm'
  have HT := Lib.hid hT
  clear hT
  by_cases hbig : (1048576 : Int) < (len : Int)
  · go_enter Tryd.func4, Tryd.ntmps4
    go_wp2
    go_ret
    exact ⟨rfl, Below.refl _ _⟩
  · go_enter Tryd.func4, Tryd.ntmps4
    go_wp2_with fail
    refine (DrawLeapYear_any a len cap w hl hm hB).mono ?_
    rintro e w1 ⟨y, hy0, hy1, rfl, hb1⟩
    clear hB
    by_cases hok : 1 ≤ y ∧ y ≤ 9999
    · obtain ⟨g1, g2⟩ := hok
      have HM := Lib.hid (show MonOk y 2 from ⟨g1, g2, by decide, by decide⟩)
      by_cases hl4 : Cal.Leap y
      · have hmd : Cal.md y 2 = 29 := by unfold Cal.md; rw [if_pos rfl, Cal.lp_yes hl4]; rfl
        have h4 : y % 4 = 0 := hl4.1
        obtain ⟨q1, q2⟩ := bt_ h4
        have HL := Lib.hid hl4
        clear hl4 h4
        go_wp2_with (first | (go_at_call 11; refine (LeapYear_i_yes y _ g1 g2 HL.out).mono ?_; rintro e w2 ⟨rfl, rfl⟩) | (go_at_call 12; refine (LeapYear_s_yes y _ g1 g2 HL.out).mono ?_; rintro e w3 ⟨rfl, rfl⟩) | (go_at_call 9; refine (MonthDays_i_yes y 2 _ (HT.out.below hb1) HM.out).mono ?_; rintro e w4 ⟨rfl, rfl⟩))
        go_ret
        exact ⟨by simp_all, hb1⟩
      · have hmd : Cal.md y 2 = 28 := by unfold Cal.md; rw [if_pos rfl, Cal.lp_no hl4]; rfl
        have HL := Lib.hid (show ¬ (1 ≤ y ∧ y ≤ 9999 ∧ Cal.Leap y) from fun hh => hl4 hh.2.2)
        clear hl4
        go_wp2_with (first | (go_at_call 11; refine (LeapYear_i_no y _ HL.out).mono ?_; rintro e w2 ⟨rfl, rfl⟩) | (go_at_call 12; refine (LeapYear_s_no y _ HL.out).mono ?_; rintro e w3 ⟨rfl, rfl⟩) | (go_at_call 9; refine (MonthDays_i_yes y 2 _ (HT.out.below hb1) HM.out).mono ?_; rintro e w4 ⟨rfl, rfl⟩))
        go_ret
        exact ⟨by simp_all, hb1⟩
    · have HM := Lib.hid (show ¬ MonOk y 2 from fun hh => hok ⟨hh.1, hh.2.1⟩)
      have HL := Lib.hid (show ¬ (1 ≤ y ∧ y ≤ 9999 ∧ Cal.Leap y) from fun hh => hok ⟨hh.1, hh.2.1⟩)
      clear hok
      go_wp2_with (first | (go_at_call 11; refine (LeapYear_i_no y _ HL.out).mono ?_; rintro e w2 ⟨rfl, rfl⟩) | (go_at_call 12; refine (LeapYear_s_no y _ HL.out).mono ?_; rintro e w3 ⟨rfl, rfl⟩) | (go_at_call 9; refine (MonthDays_i_no y 2 _ HM.out).mono ?_; rintro e w4 ⟨rfl, rfl⟩))
      go_ret
      exact ⟨rfl, hb1⟩
set_option maxHeartbeats 800000 in
theorem walk_YearDays (a : Option Addr) (len cap : Nat) (z : List Int) (w : World) (h : IsRow .u8 w a len cap z) (hT : Tab w) : Calls Tryd.prog 5 #[.slice a len cap] w fun e w' => e = .returned (.bool true) ∧ Below w.heap.size w w' := by
  obtain ⟨hl, hm⟩ := row_len h
  have hB := Bytes.of_row h
  clear h
  have hm' := hm
  unfold maxLen at hm'
  have HT := Lib.hid hT
  clear hT
  by_cases hbig : (1048576 : Int) < (len : Int)
  · go_enter Tryd.func5, Tryd.ntmps5
    go_wp2
    go_ret
    exact ⟨rfl, Below.refl _ _⟩
  · go_enter Tryd.func5, Tryd.ntmps5
    go_wp2_with fail
    refine (DrawMonthDays_any a len cap w hl hm hB).mono ?_
    rintro e w1 ⟨y, m, hy0, hy1, hm0, hm1, rfl, hb1⟩
    clear hB
    by_cases hr : y < 1 ∨ 9999 < y
    · have HM := Lib.hid (show ¬ MonOk y m from fun hh => by obtain ⟨a1, a2, _⟩ := hh; omega)
      rcases hr with hr | hr
      all_goals
        go_wp2_with (first | (go_at_call 9; refine (MonthDays_i_no y m _ HM.out).mono ?_; rintro e w4 ⟨rfl, rfl⟩) | (go_at_call 8; refine (MonthDays_s_no y m _ HM.out).mono ?_; rintro e w4 ⟨rfl, rfl⟩))
        go_ret
        exact ⟨rfl, hb1⟩
    · have g1 : 1 ≤ y := by omega
      have g2 : y ≤ 9999 := by omega
      clear hr
      by_cases hok : MonOk y m
      · have HM := Lib.hid hok
        clear hok
        go_wp2_with (first | (go_at_call 9; refine (MonthDays_i_yes y m _ (HT.out.below hb1) HM.out).mono ?_; rintro e w4 ⟨rfl, rfl⟩) | (go_at_call 8; refine (MonthDays_s_yes y m _ HM.out).mono ?_; rintro e w2 ⟨rfl, hb2⟩))
        have HTw := Lib.hid ((HT.out.below hb1).below hb2)
        have HBw := Lib.hid (below2 hb1 hb2)
        clear hb1 hb2
        go_loop [7, 8] (fun n k => ∃ kk : Int, 1 ≤ kk ∧ kk ≤ 13 ∧ k = .int .i64 kk ∧ n = .int .i64 (Cal.cum y kk)) (fun _ k => (13 - intOf k).toNat)
        case atStart => exact ⟨1, by omega, by omega, rfl, rfl⟩
        case round =>
          obtain ⟨kk, k1, k2, rfl, rfl⟩ := hrel
          have cb := Cal.cum_bd y k1 k2
          by_cases hk : kk ≤ 12
          · have mb := Cal.md_bd y k1 hk
            have HC := Lib.hid (Cal.cum_succ y k1 hk)
            have HMk := Lib.hid (show MonOk y kk from ⟨g1, g2, k1, hk⟩)
            go_wp2_with (first | (go_at_call 9; refine (MonthDays_i_yes y kk _ HTw.out HMk.out).mono ?_; rintro e w5 ⟨rfl, rfl⟩))
            go_round
            case rel => exact ⟨kk + 1, by omega, by omega, rfl, by rw [HC.out]⟩
            case measure => simp [intOf]; omega
          · obtain rfl : kk = 13 := by omega
            have q13 : decide ((13 : Int) ≤ 12) = false := by decide
            by_cases hl4 : Cal.Leap y
            · have hc : Cal.cum y 13 = 366 := by rw [Cal.cum_end, Cal.lp_yes hl4]; rfl
              have HL := Lib.hid hl4
              clear hl4 cb
              go_wp2_with (first | (go_at_call 11; refine (LeapYear_i_yes y _ g1 g2 HL.out).mono ?_; rintro e w5 ⟨rfl, rfl⟩))
              go_ret
              exact ⟨by simp_all, HBw.out⟩
            · have hc : Cal.cum y 13 = 365 := by rw [Cal.cum_end, Cal.lp_no hl4]; rfl
              have HL := Lib.hid (show ¬ (1 ≤ y ∧ y ≤ 9999 ∧ Cal.Leap y) from fun hh => hl4 hh.2.2)
              clear hl4 cb
              go_wp2_with (first | (go_at_call 11; refine (LeapYear_i_no y _ HL.out).mono ?_; rintro e w5 ⟨rfl, rfl⟩))
              go_ret
              exact ⟨by simp_all, HBw.out⟩
      · have HM := Lib.hid hok
        clear hok
        go_wp2_with (first | (go_at_call 9; refine (MonthDays_i_no y m _ HM.out).mono ?_; rintro e w4 ⟨rfl, rfl⟩) | (go_at_call 8; refine (MonthDays_s_no y m _ HM.out).mono ?_; rintro e w4 ⟨rfl, rfl⟩))
        have HTw := Lib.hid (HT.out.below hb1)
        have HBw := Lib.hid hb1
        clear hb1
        go_loop [7, 8] (fun n k => ∃ kk : Int, 1 ≤ kk ∧ kk ≤ 13 ∧ k = .int .i64 kk ∧ n = .int .i64 (Cal.cum y kk)) (fun _ k => (13 - intOf k).toNat)
        case atStart => exact ⟨1, by omega, by omega, rfl, rfl⟩
        case round =>
          obtain ⟨kk, k1, k2, rfl, rfl⟩ := hrel
          have cb := Cal.cum_bd y k1 k2
          by_cases hk : kk ≤ 12
          · have mb := Cal.md_bd y k1 hk
            have HC := Lib.hid (Cal.cum_succ y k1 hk)
            have HMk := Lib.hid (show MonOk y kk from ⟨g1, g2, k1, hk⟩)
            go_wp2_with (first | (go_at_call 9; refine (MonthDays_i_yes y kk _ HTw.out HMk.out).mono ?_; rintro e w5 ⟨rfl, rfl⟩))
            go_round
            case rel => exact ⟨kk + 1, by omega, by omega, rfl, by rw [HC.out]⟩
            case measure => simp [intOf]; omega
          · obtain rfl : kk = 13 := by omega
            have q13 : decide ((13 : Int) ≤ 12) = false := by decide
            by_cases hl4 : Cal.Leap y
            · have hc : Cal.cum y 13 = 366 := by rw [Cal.cum_end, Cal.lp_yes hl4]; rfl
              have HL := Lib.hid hl4
              clear hl4 cb
              go_wp2_with (first | (go_at_call 11; refine (LeapYear_i_yes y _ g1 g2 HL.out).mono ?_; rintro e w5 ⟨rfl, rfl⟩))
              go_ret
              exact ⟨by simp_all, HBw.out⟩
            · have hc : Cal.cum y 13 = 365 := by rw [Cal.cum_end, Cal.lp_no hl4]; rfl
              have HL := Lib.hid (show ¬ (1 ≤ y ∧ y ≤ 9999 ∧ Cal.Leap y) from fun hh => hl4 hh.2.2)
              clear hl4 cb
              go_wp2_with (first | (go_at_call 11; refine (LeapYear_i_no y _ HL.out).mono ?_; rintro e w5 ⟨rfl, rfl⟩))
              go_ret
              exact ⟨by simp_all, HBw.out⟩
theorem walk_MonthDays (a : Option Addr) (len cap : Nat) (z : List Int) (w : World) (h : IsRow .u8 w a len cap z) (hT : Tab w) : Calls Tryd.prog 6 #[.slice a len cap] w fun e w' => e = .returned (.bool true) ∧ Below w.heap.size w w' := by
  obtain ⟨hl, hm⟩ := row_len h
  have hB := Bytes.of_row h
  clear h
  have hm' := hm
  unfold maxLen at hm'
  have HT := Lib.hid hT
  clear hT
  by_cases hbig : (1048576 : Int) < (len : Int)
  · go_enter Tryd.func6, Tryd.ntmps6
    go_wp2
    go_ret
    exact ⟨rfl, Below.refl _ _⟩
  · go_enter Tryd.func6, Tryd.ntmps6
    go_wp2_with fail
    refine (DrawMonthDays_any a len cap w hl hm hB).mono ?_
    rintro e w1 ⟨y, m, hy0, hy1, hm0, hm1, rfl, hb1⟩
    clear hB
    by_cases hok : MonOk y m
    · have mb := Cal.md_bd y hok.2.2.1 hok.2.2.2
      have HM := Lib.hid hok
      have HD1 := Lib.hid (show Cal.Ok y m (Cal.md y m) from ⟨hok.1, hok.2.1, hok.2.2.1, hok.2.2.2, by omega, by omega⟩)
      have HD2 := Lib.hid (show ¬ Cal.Ok y m (Cal.md y m + 1) from fun hh => by have := hh.2.2.2.2.2; omega)
      have hq := df_ (show Cal.md y m ≠ 0 from by omega)
      clear hok
      go_wp2_with (first | (go_at_call 9; refine (MonthDays_i_yes y m _ (HT.out.below hb1) HM.out).mono ?_; rintro e w4 ⟨rfl, rfl⟩) | (go_at_call 8; refine (MonthDays_s_yes y m _ HM.out).mono ?_; rintro e w2 ⟨rfl, hb2⟩) | (go_at_call 14; ((with_reducible refine (DateValid_i_yes y m (Cal.md y m) _ ((HT.out.below hb1).below hb2) HD1.out).mono ?_); rintro e w3 ⟨rfl, hb3⟩)) | (go_at_call 14; ((with_reducible refine (DateValid_i_no y m (Cal.md y m + 1) _ (((HT.out.below hb1).below hb2).below hb3) HD2.out).mono ?_); rintro e w4 ⟨rfl, hb4⟩)))
      go_ret
      exact ⟨rfl, below2 (below2 (below2 hb1 hb2) hb3) hb4⟩
    · have HM := Lib.hid hok
      clear hok
      go_wp2_with (first | (go_at_call 9; refine (MonthDays_i_no y m _ HM.out).mono ?_; rintro e w4 ⟨rfl, rfl⟩) | (go_at_call 8; refine (MonthDays_s_no y m _ HM.out).mono ?_; rintro e w4 ⟨rfl, rfl⟩))
      go_ret
      exact ⟨rfl, hb1⟩
end Go.Proofs.YtdbdfionanlogaaDoor
