/-
  Contracts: days of a year; dates that are alike. Conditions: as each states.
-/
import Derived.Test.YtdpjhgkiccmnoaaDoorDay3
namespace Go.Proofs.YtdpjhgkiccmnoaaDoor
open Go.RowKit Go.PlainAid
set_option linter.unusedVariables false

theorem eqDate_same (y m d : Int) (w : World) : Calls Tryd.prog 21 #[.agg #[.int .i64 y, .int .i64 m, .int .i64 d], .agg #[.int .i64 y, .int .i64 m, .int .i64 d]] w fun e w' => e = .returned (.bool true) ∧ Below w.heap.size w w' := by
  go_enter Tryd.func21, Tryd.ntmps21
  go_wp2
  go_ret
  exact ⟨rfl, by go_grown⟩
theorem OrdinalOf_i_yes (y m d : Int) (w : World) (hT : Tab w) (h : Cal.Ok y m d) : Calls Tryd.prog 27 #[.agg #[.int .i64 y, .int .i64 m, .int .i64 d]] w fun e w' => e = .returned (.int .i64 (Cal.cum y m + d)) ∧ Below w.heap.size w w' := by
  have HT := Lib.hid (hT.alloc (.cells #[.int .i64 y, .int .i64 m, .int .i64 d] 25))
  have HO := Lib.hid h
  clear hT h
  go_enter Tryd.func27, Tryd.ntmps27
  go_wp2_with fail
  refine (DateValid_i_yes _ _ _ _ HT.out HO.out).mono ?_
  rintro e w2 ⟨rfl, hb2⟩
  obtain ⟨d0, d1, d2⟩ := agg3_keep hb2
  go_wp2_with fail
  refine (ordinal_any _ _ _ _ (HT.out.below hb2) HO.out).mono ?_
  rintro e w3 ⟨rfl, hb3⟩
  go_wp2_with fail
  go_ret
  exact ⟨rfl, below_alloc (below2 hb2 hb3)⟩
theorem OrdinalOf_i_no (y m d : Int) (w : World) (hT : Tab w) (h : ¬ Cal.Ok y m d) : Calls Tryd.prog 27 #[.agg #[.int .i64 y, .int .i64 m, .int .i64 d]] w fun e w' => e = .returned (.int .i64 0) ∧ Below w.heap.size w w' := by
  have HT := Lib.hid (hT.alloc (.cells #[.int .i64 y, .int .i64 m, .int .i64 d] 25))
  have HO := Lib.hid h
  clear hT h
  go_enter Tryd.func27, Tryd.ntmps27
  go_wp2_with fail
  refine (DateValid_i_no _ _ _ _ HT.out HO.out).mono ?_
  rintro e w2 ⟨rfl, hb2⟩
  go_wp2_with fail
  go_ret
  exact ⟨rfl, below_alloc hb2⟩
theorem OrdinalOf_s_yes (y m d : Int) (w : World) (h : Cal.Ok y m d) : Calls Tryd.prog 26 #[.agg #[.int .i64 y, .int .i64 m, .int .i64 d]] w fun e w' => e = .returned (.int .i64 (Cal.cum y m + d)) ∧ Below w.heap.size w w' := by
  have HO := Lib.hid h
  obtain ⟨h1, h2, h3, h4, h5, h6⟩ := h
  have cb := Cal.cum_bd y h3 (by omega)
  have mb := Cal.md_bd y h3 h4
  have hd : d ≤ 31 := by omega
  clear h6 mb
  go_enter Tryd.func26, Tryd.ntmps26
  go_wp2_with fail
  refine (DateValid_s_yes _ _ _ _ HO.out).mono ?_
  rintro e w2 ⟨rfl, hb2⟩
  obtain ⟨d0, d1, d2⟩ := agg3_keep hb2
  have HS : Hid (w2.cell? ⟨w.heap.size, 0, none⟩ = some (.int .i64 y) ∧ w2.cell? ⟨w.heap.size, 1, none⟩ = some (.int .i64 m) ∧ w2.cell? ⟨w.heap.size, 2, none⟩ = some (.int .i64 d) ∧ Below w.heap.size w w2) := ⟨d0, d1, d2, below_alloc hb2⟩
  clear hb2
  go_wp2_with fail
  go_region_held3 (fun w' => w'.cell? ⟨w.heap.size, 0, none⟩ = some (.int .i64 y) ∧ w'.cell? ⟨w.heap.size, 1, none⟩ = some (.int .i64 m) ∧ w'.cell? ⟨w.heap.size, 2, none⟩ = some (.int .i64 d) ∧ Below w.heap.size w w') (first | exact HS.out | exact keep3_drew HS.out | exact keep3 hb (keep3_drew HS.out)) (first | (go_at_call 35; refine (l2Months_any y m _ h1 h2 h3 (by omega)).mono ?_; rintro e w1 ⟨rfl, hb⟩))
  go_wp2
  go_ret
  exact ⟨ret_int (by rw [IntWalk.i64_in _ ⟨by omega, by omega⟩]), (keep3 hb (keep3_drew HS.out)).2.2.2⟩
theorem OrdinalOf_s_no (y m d : Int) (w : World) (h : ¬ Cal.Ok y m d) : Calls Tryd.prog 26 #[.agg #[.int .i64 y, .int .i64 m, .int .i64 d]] w fun e w' => e = .returned (.int .i64 0) ∧ Below w.heap.size w w' := by
  have HO := Lib.hid h
  clear h
  go_enter Tryd.func26, Tryd.ntmps26
  go_wp2_with fail
  refine (DateValid_s_no _ _ _ _ HO.out).mono ?_
  rintro e w2 ⟨rfl, hb2⟩
  go_wp2_with fail
  go_ret
  exact ⟨rfl, below_alloc hb2⟩
/-- There is such a day of a year. -/
def OrdOk (y d : Int) : Prop := 1 ≤ y ∧ y ≤ 9999 ∧ 1 ≤ d ∧ d ≤ 365 + Cal.lp y
theorem OrdOk.num {y d : Int} (h : OrdOk y d) : 0 ≤ Cal.ny y + d - 1 ∧ Cal.ny y + d - 1 ≤ 3652058 ∧ Cal.yo (Cal.ny y + d - 1) = y := by
  obtain ⟨h1, h2, h3, h4⟩ := h
  have hb := Cal.ny_bd (y := y) h1 (by omega)
  have hb2 := Cal.ny_bd (y := y + 1) (by omega) (by omega)
  have hs := Cal.ny_succ h1
  have a : 0 ≤ Cal.ny y + d - 1 := by omega
  have b : Cal.ny y + d - 1 ≤ 3652058 := by omega
  exact ⟨a, b, Cal.yo_of a b h1 (by omega) (by omega)⟩
theorem l4Days_yes (y : Int) (w : World) (h1 : 1 ≤ y) (h2 : y ≤ 9999) : Calls Tryd.prog 46 #[.int .i64 y] w fun e w' => e = .returned (.int .i64 (365 + Cal.lp y)) ∧ Below w.heap.size w w' := by
  go_enter Tryd.func46, Tryd.ntmps46
  go_wp2
  go_loopw [3, 4] (fun n k wr => ∃ kk : Int, 1 ≤ kk ∧ kk ≤ 13 ∧ k = .int .i64 kk ∧ n = .int .i64 (Cal.cum y kk) ∧ Below w.heap.size w wr) (fun _ k _ => (13 - intOf k).toNat)
  case atStart => exact ⟨1, by omega, by omega, rfl, rfl, Below.refl _ _⟩
  case round =>
    obtain ⟨kk, k1, k2, rfl, rfl, hbr⟩ := hrel
    have cb := Cal.cum_bd y k1 k2
    by_cases hk : kk ≤ 12
    · have mb := Cal.md_bd y k1 hk
      have HC := Lib.hid (Cal.cum_succ y k1 hk)
      have HM := Lib.hid (show MonOk y kk from ⟨h1, h2, k1, hk⟩)
      go_wp2_with (first | (go_at_call 49; refine (MonthDays_s_yes y kk _ HM.out).mono ?_; rintro e w5 ⟨rfl, hb5⟩))
      go_roundw
      case rel => exact ⟨kk + 1, by omega, by omega, rfl, by rw [HC.out], below2 hbr hb5⟩
      case measure => simp [intOf]; omega
    · obtain rfl : kk = 13 := by omega
      have q13 : decide ((13 : Int) ≤ 12) = false := by decide
      have HE := Lib.hid (Cal.cum_end y)
      clear cb
      go_wp2
      go_ret
      exact ⟨ret_int HE.out, hbr⟩
theorem l4Days_no (y : Int) (w : World) (h : y < 1 ∨ 9999 < y) : Calls Tryd.prog 46 #[.int .i64 y] w fun e w' => e = .returned (.int .i64 0) ∧ Below w.heap.size w w' := by
  go_enter Tryd.func46, Tryd.ntmps46
  go_wp2
  go_loop [3, 4] (fun n k => ∃ kk : Int, 1 ≤ kk ∧ kk ≤ 13 ∧ k = .int .i64 kk ∧ n = .int .i64 0) (fun _ k => (13 - intOf k).toNat)
  case atStart => exact ⟨1, by omega, by omega, rfl, rfl⟩
  case round =>
    obtain ⟨kk, k1, k2, rfl, rfl⟩ := hrel
    by_cases hk : kk ≤ 12
    · have HM := Lib.hid (show ¬ MonOk y kk from fun hh => by obtain ⟨a, b, _⟩ := hh; omega)
      go_wp2_with (first | (go_at_call 49; refine (MonthDays_s_no y kk _ HM.out).mono ?_; rintro e w5 ⟨rfl, rfl⟩))
      go_round
      case rel => exact ⟨kk + 1, by omega, by omega, rfl, rfl⟩
      case measure => simp [intOf]; omega
    · obtain rfl : kk = 13 := by omega
      have q13 : decide ((13 : Int) ≤ 12) = false := by decide
      go_wp2
      go_ret
      exact ⟨rfl, Below.refl _ _⟩
theorem OrdinalDate_i_yes (y d : Int) (w : World) (hT : Tab w) (h : OrdOk y d) : Calls Tryd.prog 29 #[.int .i64 y, .int .i64 d] w fun e w' => e = .returned (.tuple #[.agg #[.int .i64 (Cal.yo (Cal.ny y + d - 1)), .int .i64 (Cal.mo (Cal.ny y + d - 1)), .int .i64 (Cal.dd (Cal.ny y + d - 1))], .bool true]) ∧ Below w.heap.size w w' := by
  have HT := Lib.hid (hT.alloc (.cells #[.int .i64 0, .int .i64 0, .int .i64 0] 25))
  obtain ⟨n0, n1, n2⟩ := h.num
  obtain ⟨h1, h2, h3, h4⟩ := h
  have hb := Cal.ny_bd (y := y) h1 (by omega)
  have hb2 := Cal.ny_bd (y := y + 1) (by omega) (by omega)
  have hs := Cal.ny_succ h1
  have hlp := Cal.lp_01 y
  have h5 : d ≤ Cal.ny (y + 1) - Cal.ny y := by omega
  clear hT h4 n2 hs
  go_enter Tryd.func29, Tryd.ntmps29
  go_wp2_with (first | (go_at_call 44; refine (yearValid_yes _ _ h1 h2).mono ?_; rintro e w' ⟨rfl, rfl⟩) | (go_at_call 47; refine (newYear_any _ _ (by omega) (by omega)).mono ?_; rintro e w' ⟨rfl, rfl⟩) | (go_at_call 38; refine (within_yes _ _ _ _ h3 h5).mono ?_; rintro e w' ⟨rfl, rfl⟩) | (go_at_call 39; refine (dateAt_any _ _ HT.out n0 n1).mono ?_; rintro e w2 ⟨rfl, hb2⟩; obtain ⟨d0, d1, d2, f0, f1, f2⟩ := res3_keep hb2))
  exact bodyPost_ret (v := .tuple #[.agg #[.int .i64 (Cal.yo (Cal.ny y + d - 1)), .int .i64 (Cal.mo (Cal.ny y + d - 1)), .int .i64 (Cal.dd (Cal.ny y + d - 1))], .bool true]) (by simp [results, Tryd.results29, go_sem, d0, d1, d2]) rfl ⟨rfl, set3 (below_alloc hb2) _ _ _⟩
theorem OrdinalDate_i_no (y d : Int) (w : World) (h : ¬ OrdOk y d) : Calls Tryd.prog 29 #[.int .i64 y, .int .i64 d] w fun e w' => e = .returned (.tuple #[.agg #[.int .i64 0, .int .i64 0, .int .i64 0], .bool false]) ∧ Below w.heap.size w w' := by
  by_cases hr : y < 1 ∨ 9999 < y
  · clear h
    go_enter Tryd.func29, Tryd.ntmps29
    go_wp2_with (first | (go_at_call 44; refine (yearValid_no _ _ hr).mono ?_; rintro e w' ⟨rfl, rfl⟩))
    exact bodyPost_ret (v := .tuple #[.agg #[.int .i64 0, .int .i64 0, .int .i64 0], .bool false]) (by simp [results, Tryd.results29, go_sem]) rfl ⟨rfl, by go_grown⟩
  · have h1 : 1 ≤ y := by omega
    have h2 : y ≤ 9999 := by omega
    have hb := Cal.ny_bd (y := y) h1 (by omega)
    have hb2 := Cal.ny_bd (y := y + 1) (by omega) (by omega)
    have hs := Cal.ny_succ h1
    have h5 : d < 1 ∨ Cal.ny (y + 1) - Cal.ny y < d := by
      by_cases a : d < 1
      · exact .inl a
      · by_cases b : d ≤ 365 + Cal.lp y
        · exact absurd ⟨h1, h2, by omega, b⟩ h
        · exact .inr (by omega)
    clear h hr hs
    go_enter Tryd.func29, Tryd.ntmps29
    go_wp2_with (first | (go_at_call 44; refine (yearValid_yes _ _ h1 h2).mono ?_; rintro e w' ⟨rfl, rfl⟩) | (go_at_call 47; refine (newYear_any _ _ (by omega) (by omega)).mono ?_; rintro e w' ⟨rfl, rfl⟩) | (go_at_call 38; refine (within_no _ _ _ _ h5).mono ?_; rintro e w' ⟨rfl, rfl⟩))
    exact bodyPost_ret (v := .tuple #[.agg #[.int .i64 0, .int .i64 0, .int .i64 0], .bool false]) (by simp [results, Tryd.results29, go_sem]) rfl ⟨rfl, by go_grown⟩
theorem OrdinalDate_s_yes (y d : Int) (w : World) (h : OrdOk y d) : Calls Tryd.prog 28 #[.int .i64 y, .int .i64 d] w fun e w' => e = .returned (.tuple #[.agg #[.int .i64 (Cal.yo (Cal.ny y + d - 1)), .int .i64 (Cal.mo (Cal.ny y + d - 1)), .int .i64 (Cal.dd (Cal.ny y + d - 1))], .bool true]) ∧ Below w.heap.size w w' := by
  obtain ⟨n0, n1, n2⟩ := h.num
  obtain ⟨h1, h2, h3, h4⟩ := h
  have hb := Cal.ny_bd (y := y) h1 (by omega)
  have hlp := Cal.lp_01 y
  clear n2
  go_enter Tryd.func28, Tryd.ntmps28
  go_wp2_with (first | (go_at_call 46; refine (l4Days_yes _ _ h1 h2).mono ?_; rintro e w1 ⟨rfl, hb1⟩) | (go_at_call 34; refine (l2Years_any _ _ h1 (by omega)).mono ?_; rintro e w' ⟨rfl, rfl⟩) | (go_at_call 37; refine (l6In_yes _ _ _ _ h3 h4).mono ?_; rintro e w' ⟨rfl, rfl⟩) | (go_at_call 19; refine (DateOf_s_yes _ _ n0 n1).mono ?_; rintro e w2 ⟨rfl, hb2⟩; obtain ⟨d0, d1, d2, f0, f1, f2⟩ := res3_keep (below2 hb1 hb2)))
  exact bodyPost_ret (v := .tuple #[.agg #[.int .i64 (Cal.yo (Cal.ny y + d - 1)), .int .i64 (Cal.mo (Cal.ny y + d - 1)), .int .i64 (Cal.dd (Cal.ny y + d - 1))], .bool true]) (by simp [results, Tryd.results28, go_sem, d0, d1, d2]) rfl ⟨rfl, set3 (below_alloc (below2 hb1 hb2)) _ _ _⟩
theorem OrdinalDate_s_no (y d : Int) (w : World) (h : ¬ OrdOk y d) : Calls Tryd.prog 28 #[.int .i64 y, .int .i64 d] w fun e w' => e = .returned (.tuple #[.agg #[.int .i64 0, .int .i64 0, .int .i64 0], .bool false]) ∧ Below w.heap.size w w' := by
  by_cases hr : y < 1 ∨ 9999 < y
  · have h5 : d < 1 ∨ 0 < d := by omega
    clear h
    go_enter Tryd.func28, Tryd.ntmps28
    go_wp2_with (first | (go_at_call 46; refine (l4Days_no _ _ hr).mono ?_; rintro e w1 ⟨rfl, hb1⟩; obtain ⟨d0, d1, d2, f0, f1, f2⟩ := res3_keep hb1) | (go_at_call 37; refine (l6In_no _ _ _ _ h5).mono ?_; rintro e w' ⟨rfl, rfl⟩))
    exact bodyPost_ret (v := .tuple #[.agg #[.int .i64 0, .int .i64 0, .int .i64 0], .bool false]) (by simp [results, Tryd.results28, go_sem, d0, d1, d2]) rfl ⟨rfl, set3 (below_alloc hb1) _ _ _⟩
  · have h1 : 1 ≤ y := by omega
    have h2 : y ≤ 9999 := by omega
    have h5 : d < 1 ∨ 365 + Cal.lp y < d := by
      by_cases a : d < 1
      · exact .inl a
      · by_cases b : d ≤ 365 + Cal.lp y
        · exact absurd ⟨h1, h2, by omega, b⟩ h
        · exact .inr (by omega)
    clear h hr
    go_enter Tryd.func28, Tryd.ntmps28
    go_wp2_with (first | (go_at_call 46; refine (l4Days_yes _ _ h1 h2).mono ?_; rintro e w1 ⟨rfl, hb1⟩; obtain ⟨d0, d1, d2, f0, f1, f2⟩ := res3_keep hb1) | (go_at_call 37; refine (l6In_no _ _ _ _ h5).mono ?_; rintro e w' ⟨rfl, rfl⟩))
    exact bodyPost_ret (v := .tuple #[.agg #[.int .i64 0, .int .i64 0, .int .i64 0], .bool false]) (by simp [results, Tryd.results28, go_sem, d0, d1, d2]) rfl ⟨rfl, set3 (below_alloc hb1) _ _ _⟩
end Go.Proofs.YtdpjhgkiccmnoaaDoor
