/-
  Plain lemmas on weeks: the year of a week, its number, the day of the week, the number of a day of a week; no program in sight. Conditions: as each states.
-/
import Derived.Test.YtjgpfadoebnchaaDoorCal
namespace Go.Proofs.YtjgpfadoebnchaaDoor
namespace Cal

theorem fm_eq (y : Int) : fm y = 7 * ((ny y + 3) / 7) := by unfold fm; omega
theorem fm_range {y : Int} (h1 : 1 ≤ y) (h2 : y ≤ 10000) : 0 ≤ fm y ∧ fm y ≤ 3652062 := by
  have a := ny_bd h1 h2
  have b := fm_eq y
  omega
/-- How many weeks a year has. -/
def wks (y : Int) : Int := (fm (y + 1) - fm y) / 7
theorem wks_eq (y : Int) : fm (y + 1) = fm y + 7 * wks y := by
  have a := fm_eq y
  have b := fm_eq (y + 1)
  unfold wks
  omega
theorem wks_bd {y : Int} (h : 1 ≤ y) : wks y = 52 ∨ wks y = 53 := by
  have a := ny_succ h
  have b := lp_01 y
  have c := wks_eq y
  have d := fm_eq y
  have e := fm_eq (y + 1)
  omega
/-- The day of the week of a day. -/
def wd (n : Int) : Int := n % 7 + 1
theorem wd_bd (n : Int) : 1 ≤ wd n ∧ wd n ≤ 7 := by unfold wd; omega
/-- The year of the week of a day: that of its Thursday. -/
noncomputable def wy (n : Int) : Int := yo (7 * (n / 7) + 3)
/-- The number of the week of a day. -/
noncomputable def wk (n : Int) : Int := (n - fm (wy n)) / 7 + 1
/-- The number of a day of a week. -/
def wnum (y k d : Int) : Int := fm y + 7 * (k - 1) + d - 1
/-- There is such a day of a week. -/
def WOk (y k d : Int) : Prop := 1 ≤ y ∧ y ≤ 9999 ∧ 1 ≤ k ∧ k ≤ wks y ∧ 1 ≤ d ∧ d ≤ 7
theorem th_bd {n : Int} (h0 : 0 ≤ n) (h1 : n ≤ 3652058) : 0 ≤ 7 * (n / 7) + 3 ∧ 7 * (n / 7) + 3 ≤ 3652058 := by omega
theorem th_eq (n : Int) : n - wd n + 4 = 7 * (n / 7) + 3 := by unfold wd; omega
theorem wy_bd {n : Int} (h0 : 0 ≤ n) (h1 : n ≤ 3652058) : 1 ≤ wy n ∧ wy n ≤ 9999 ∧ fm (wy n) ≤ n ∧ n < fm (wy n + 1) := by
  have a := yo_bd (th_bd h0 h1).1 (th_bd h0 h1).2
  have e1 := fm_eq (yo (7 * (n / 7) + 3))
  have e2 := fm_eq (yo (7 * (n / 7) + 3) + 1)
  unfold wy
  omega
theorem wy_th {n : Int} (h0 : 0 ≤ n) (h1 : n ≤ 3652058) : ny (wy n) ≤ 7 * (n / 7) + 3 := (yo_bd (th_bd h0 h1).1 (th_bd h0 h1).2).2.2.1
theorem wy_of {y n : Int} (h0 : 0 ≤ n) (h1 : n ≤ 3652058) (h2 : 1 ≤ y) (h3 : fm y ≤ n) (h4 : n < fm (y + 1)) : wy n = y := by
  have e1 := fm_eq y
  have e2 := fm_eq (y + 1)
  exact yo_of (th_bd h0 h1).1 (th_bd h0 h1).2 h2 (by omega) (by omega)
theorem wk_bd {n : Int} (h0 : 0 ≤ n) (h1 : n ≤ 3652058) : 1 ≤ wk n ∧ wk n ≤ wks (wy n) := by
  have a := wy_bd h0 h1
  have b := wks_eq (wy n)
  unfold wk
  omega
theorem wk_th {n : Int} (h0 : 0 ≤ n) (h1 : n ≤ 3652058) : (7 * (n / 7) + 3 - ny (wy n)) / 7 + 1 = wk n := by
  have a := wy_th h0 h1
  have b := wy_bd h0 h1
  have e1 := fm_eq (wy n)
  unfold wk
  omega
theorem wk_day (n : Int) : (n - fm (wy n)) % 7 + 1 = wd n := by
  have e1 := fm_eq (wy n)
  unfold wd
  omega
theorem wnum_wk (n : Int) : wnum (wy n) (wk n) (wd n) = n := by
  have e1 := fm_eq (wy n)
  unfold wnum wk wd
  omega
theorem wk_ok {n : Int} (h0 : 0 ≤ n) (h1 : n ≤ 3652058) : WOk (wy n) (wk n) (wd n) :=
  ⟨(wy_bd h0 h1).1, (wy_bd h0 h1).2.1, (wk_bd h0 h1).1, (wk_bd h0 h1).2, (wd_bd n).1, (wd_bd n).2⟩
theorem wnum_bd {y k d : Int} (h : WOk y k d) : fm y ≤ wnum y k d ∧ wnum y k d < fm (y + 1) ∧ 0 ≤ wnum y k d ∧ wnum y k d ≤ 3652061 := by
  obtain ⟨h1, h2, h3, h4, h5, h6⟩ := h
  have a := wks_eq y
  have b := fm_range h1 (by omega)
  have c := fm_range (y := y + 1) (by omega) (by omega)
  unfold wnum
  omega
theorem wnum_of {y k d : Int} (h : WOk y k d) (h1 : wnum y k d ≤ 3652058) : wy (wnum y k d) = y ∧ wk (wnum y k d) = k ∧ wd (wnum y k d) = d := by
  have a := wnum_bd h
  have e := wy_of a.2.2.1 h1 h.1 a.1 a.2.1
  obtain ⟨h1, h2, h3, h4, h5, h6⟩ := h
  refine ⟨e, ?_, ?_⟩
  · unfold wk
    rw [e]
    unfold wnum
    omega
  · have e1 := fm_eq y
    unfold wd wnum
    omega
theorem wks_long {y : Int} (h : 1 ≤ y) : wks y = 53 ↔ (wd (ny y) = 4 ∨ wd (ny y + 364 + lp y) = 4) := by
  have a := ny_succ h
  have b := lp_01 y
  have c := wks_eq y
  have d := fm_eq y
  have e := fm_eq (y + 1)
  unfold wd
  omega
end Cal
end Go.Proofs.YtjgpfadoebnchaaDoor
