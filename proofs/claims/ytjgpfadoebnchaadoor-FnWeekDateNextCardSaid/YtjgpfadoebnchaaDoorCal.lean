/-
  Plain lemmas on the Gregorian calendar: years, months, the number of a day, weeks; no program in sight. Conditions: as each states.
-/
import Derived.PlainAid
import Derived.Below
import Derived.Lib.Hide
namespace Go.Proofs.YtjgpfadoebnchaaDoor
namespace Cal

/-- A year that is divided by 4 and not by 100, or by 400. -/
def Leap (y : Int) : Prop := y % 4 = 0 ∧ (y % 100 ≠ 0 ∨ y % 400 = 0)
instance (y : Int) : Decidable (Leap y) := inferInstanceAs (Decidable (_ ∧ _))
def lp (y : Int) : Int := if Leap y then 1 else 0
theorem lp_yes {y : Int} (h : Leap y) : lp y = 1 := by unfold lp; rw [if_pos h]
theorem lp_no {y : Int} (h : ¬ Leap y) : lp y = 0 := by unfold lp; rw [if_neg h]
theorem lp_01 (y : Int) : 0 ≤ lp y ∧ lp y ≤ 1 := by unfold lp; split <;> omega
/-- The days of a month of a year that is no leap year. -/
def mtab : List Int := [31, 28, 31, 30, 31, 30, 31, 31, 30, 31, 30, 31]
def mt (k : Nat) : Int := mtab.getD k 0
/-- The days of a month. -/
def md (y m : Int) : Int := if m = 2 then 28 + lp y else mt (m - 1).toNat
theorem month_cases {m : Int} (h1 : 1 ≤ m) (h2 : m ≤ 12) : m = 1 ∨ m = 2 ∨ m = 3 ∨ m = 4 ∨ m = 5 ∨ m = 6 ∨ m = 7 ∨ m = 8 ∨ m = 9 ∨ m = 10 ∨ m = 11 ∨ m = 12 := by omega
theorem md_bd (y : Int) {m : Int} (h1 : 1 ≤ m) (h2 : m ≤ 12) : 28 ≤ md y m ∧ md y m ≤ 31 := by
  have hl := lp_01 y
  rcases month_cases h1 h2 with rfl | rfl | rfl | rfl | rfl | rfl | rfl | rfl | rfl | rfl | rfl | rfl <;> simp [md, mt, mtab] <;> omega
/-- The days ahead of a year; the first day has the number 0. -/
def ny (y : Int) : Int := 365 * (y - 1) + (y - 1) / 4 - (y - 1) / 100 + (y - 1) / 400
theorem ny_succ {y : Int} (_h : 1 ≤ y) : ny (y + 1) = ny y + 365 + lp y := by
  by_cases hl : Leap y
  · rw [lp_yes hl]
    unfold Leap at hl
    unfold ny
    omega
  · rw [lp_no hl]
    unfold Leap at hl
    unfold ny
    omega
theorem ny_one : ny 1 = 0 := by decide
theorem ny_end : ny 10000 = 3652059 := by decide
theorem ny_le {a b : Int} (_h0 : 1 ≤ a) (h : a ≤ b) : ny a + 365 * (b - a) ≤ ny b := by unfold ny; omega
theorem ny_up {a b : Int} (h0 : 1 ≤ a) (h : a ≤ b) : ny b ≤ ny a + 366 * (b - a) := by
  obtain ⟨k, rfl⟩ : ∃ k : Nat, b = a + k := ⟨(b - a).toNat, by omega⟩
  clear h
  induction k with
  | zero => simp
  | succ k ih =>
    have h1 := ny_succ (y := a + k) (by omega)
    have h2 := lp_01 (a + k)
    rw [show a + ((k + 1 : Nat) : Int) = a + (k : Int) + 1 from by omega]
    omega
theorem ny_bd {y : Int} (h1 : 1 ≤ y) (h2 : y ≤ 10000) : 0 ≤ ny y ∧ ny y ≤ 3652059 := by
  have a := ny_le (a := 1) (b := y) (by omega) h1
  have b := ny_le (a := y) (b := 10000) h1 h2
  rw [ny_one] at a
  rw [ny_end] at b
  omega
theorem ny_guess {n : Int} (h : 0 ≤ n) : ny (n / 366 + 1) ≤ n := by
  have := ny_up (a := 1) (b := n / 366 + 1) (by omega) (by omega)
  rw [ny_one] at this
  omega
/-- The days of a year ahead of a month. -/
def cum (y m : Int) : Int :=
  if m = 1 then 0 else if m = 2 then 31 else
  (if m = 3 then 59 else if m = 4 then 90 else if m = 5 then 120 else if m = 6 then 151 else if m = 7 then 181 else if m = 8 then 212 else if m = 9 then 243 else if m = 10 then 273 else if m = 11 then 304 else if m = 12 then 334 else 365) + lp y
theorem cum_one (y : Int) : cum y 1 = 0 := rfl
theorem cum_end (y : Int) : cum y 13 = 365 + lp y := by simp [cum]
theorem cum_succ (y : Int) {m : Int} (h1 : 1 ≤ m) (h2 : m ≤ 12) : cum y (m + 1) = cum y m + md y m := by
  rcases month_cases h1 h2 with rfl | rfl | rfl | rfl | rfl | rfl | rfl | rfl | rfl | rfl | rfl | rfl <;> simp [md, mt, mtab, cum] <;> omega
theorem cum_bd (y : Int) {m : Int} (h1 : 1 ≤ m) (h2 : m ≤ 13) : 28 * (m - 1) ≤ cum y m ∧ cum y m ≤ 31 * (m - 1) := by
  have hl := lp_01 y
  by_cases e : m = 13
  · subst e; rw [cum_end]; omega
  · rcases month_cases h1 (by omega) with rfl | rfl | rfl | rfl | rfl | rfl | rfl | rfl | rfl | rfl | rfl | rfl <;> simp [cum] <;> omega
theorem cum_mono (y : Int) {a b : Int} (h1 : 1 ≤ a) (h2 : a ≤ b) (h3 : b ≤ 13) : cum y a ≤ cum y b := by
  obtain ⟨k, rfl⟩ : ∃ k : Nat, b = a + k := ⟨(b - a).toNat, by omega⟩
  clear h2
  induction k with
  | zero => simp
  | succ k ih =>
    have hs := cum_succ y (m := a + k) (by omega) (by omega)
    have hb := md_bd y (m := a + k) (by omega) (by omega)
    have := ih (by omega)
    rw [show a + ((k + 1 : Nat) : Int) = a + (k : Int) + 1 from by omega]
    omega
theorem cum_le_end (y : Int) {m : Int} (h1 : 1 ≤ m) (h2 : m ≤ 12) : cum y m + md y m ≤ 365 + lp y := by
  have := cum_mono y (a := m + 1) (b := 13) (by omega) (by omega) (by omega)
  rw [cum_end, cum_succ y h1 h2] at this
  omega

/-- There is such a date. -/
def Ok (y m d : Int) : Prop := 1 ≤ y ∧ y ≤ 9999 ∧ 1 ≤ m ∧ m ≤ 12 ∧ 1 ≤ d ∧ d ≤ md y m
/-- The number of the day of a date. -/
def num (y m d : Int) : Int := ny y + cum y m + d - 1
theorem num_year {y m d : Int} (h : Ok y m d) : ny y ≤ num y m d ∧ num y m d < ny (y + 1) := by
  obtain ⟨h1, h2, h3, h4, h5, h6⟩ := h
  have a := cum_bd y h3 (by omega)
  have b := cum_le_end y h3 h4
  rw [ny_succ h1]
  unfold num
  omega
theorem num_bd {y m d : Int} (h : Ok y m d) : 0 ≤ num y m d ∧ num y m d ≤ 3652058 := by
  have a := num_year h
  obtain ⟨h1, h2, _⟩ := h
  have b := ny_bd (y := y) h1 (by omega)
  have c := ny_bd (y := y + 1) (by omega) (by omega)
  omega
theorem year_unique {a b n : Int} (ha : 1 ≤ a) (hb : 1 ≤ b) (h1 : ny a ≤ n) (h2 : n < ny (a + 1)) (h3 : ny b ≤ n) (h4 : n < ny (b + 1)) : a = b := by
  by_cases h : a < b
  · have := ny_le (a := a + 1) (b := b) (by omega) (by omega); omega
  · by_cases h' : b < a
    · have := ny_le (a := b + 1) (b := a) (by omega) (by omega); omega
    · omega
theorem month_unique {y a b r : Int} (ha : 1 ≤ a) (ha2 : a ≤ 12) (hb : 1 ≤ b) (hb2 : b ≤ 12) (h1 : cum y a ≤ r) (h2 : r < cum y a + md y a) (h3 : cum y b ≤ r) (h4 : r < cum y b + md y b) : a = b := by
  by_cases h : a < b
  · have := cum_mono y (a := a + 1) (b := b) (by omega) (by omega) (by omega)
    rw [cum_succ y ha ha2] at this; omega
  · by_cases h' : b < a
    · have := cum_mono y (a := b + 1) (b := a) (by omega) (by omega) (by omega)
      rw [cum_succ y hb hb2] at this; omega
    · omega
theorem num_unique {y m d y' m' d' : Int} (h : Ok y m d) (h' : Ok y' m' d') (e : num y m d = num y' m' d') : y = y' ∧ m = m' ∧ d = d' := by
  have a := num_year h
  have b := num_year h'
  obtain ⟨h1, h2, h3, h4, h5, h6⟩ := h
  obtain ⟨k1, k2, k3, k4, k5, k6⟩ := h'
  rw [← e] at b
  obtain rfl := year_unique h1 k1 a.1 a.2 b.1 b.2
  unfold num at e
  obtain rfl := month_unique (y := y) (r := cum y m + d - 1) h3 h4 k3 k4 (by omega) (by omega) (by omega) (by omega)
  exact ⟨rfl, rfl, by omega⟩

theorem year_exists {n : Int} (h0 : 0 ≤ n) : ∀ k : Nat, ∃ y : Int, 1 ≤ y ∧ y ≤ (k : Int) + 1 ∧ ny y ≤ n ∧ (n < ny (y + 1) ∨ y = (k : Int) + 1)
  | 0 => ⟨1, by omega, by omega, by rw [ny_one]; exact h0, .inr (by omega)⟩
  | k + 1 => by
    obtain ⟨y, h1, h2, h3, h4⟩ := year_exists h0 k
    rcases h4 with h4 | h4
    · exact ⟨y, h1, by omega, h3, .inl h4⟩
    · by_cases h5 : n < ny (y + 1)
      · exact ⟨y, h1, by omega, h3, .inl h5⟩
      · exact ⟨y + 1, by omega, by omega, by omega, .inr (by omega)⟩
theorem month_exists {y r : Int} (h0 : 0 ≤ r) : ∀ k : Nat, k ≤ 11 → ∃ m : Int, 1 ≤ m ∧ m ≤ (k : Int) + 1 ∧ cum y m ≤ r ∧ (r < cum y m + md y m ∨ m = (k : Int) + 1)
  | 0, _ => ⟨1, by omega, by omega, by rw [cum_one]; exact h0, .inr (by omega)⟩
  | k + 1, hk => by
    obtain ⟨m, h1, h2, h3, h4⟩ := month_exists (y := y) h0 k (by omega)
    rcases h4 with h4 | h4
    · exact ⟨m, h1, by omega, h3, .inl h4⟩
    · by_cases h5 : r < cum y m + md y m
      · exact ⟨m, h1, by omega, h3, .inl h5⟩
      · exact ⟨m + 1, by omega, by omega, by rw [cum_succ y h1 (by omega)]; omega, .inr (by omega)⟩
theorem date_exists {n : Int} (h0 : 0 ≤ n) (h1 : n ≤ 3652058) : ∃ x : Int × Int × Int, Ok x.1 x.2.1 x.2.2 ∧ num x.1 x.2.1 x.2.2 = n := by
  obtain ⟨y, a1, a2, a3, a4⟩ := year_exists h0 9998
  have a5 : n < ny (y + 1) := by
    rcases a4 with a4 | a4
    · exact a4
    · have e : y + 1 = 10000 := by omega
      rw [e, ny_end]; omega
  rw [ny_succ a1] at a5
  obtain ⟨m, b1, b2, b3, b4⟩ := month_exists (y := y) (r := n - ny y) (by omega) 11 (by omega)
  have b5 : n - ny y < cum y m + md y m := by
    rcases b4 with b4 | b4
    · exact b4
    · have e : m = 12 := by omega
      have := cum_succ y b1 (by omega)
      rw [e] at this ⊢
      have e2 := cum_end y
      rw [show (12 : Int) + 1 = 13 from rfl] at this
      omega
  have k1 : y ≤ 9999 := by omega
  have k2 : m ≤ 12 := by omega
  have k3 : 1 ≤ n - ny y - cum y m + 1 := by omega
  have k4 : n - ny y - cum y m + 1 ≤ md y m := by omega
  have k5 : num y m (n - ny y - cum y m + 1) = n := by unfold num; omega
  exact ⟨(y, m, n - ny y - cum y m + 1), ⟨a1, k1, b1, k2, k3, k4⟩, k5⟩
open Classical in
/-- The date of a day; zeros if there is none. -/
noncomputable def dt (n : Int) : Int × Int × Int := if h : ∃ x : Int × Int × Int, Ok x.1 x.2.1 x.2.2 ∧ num x.1 x.2.1 x.2.2 = n then h.choose else (0, 0, 0)
noncomputable def yo (n : Int) : Int := (dt n).1
noncomputable def mo (n : Int) : Int := (dt n).2.1
noncomputable def dd (n : Int) : Int := (dt n).2.2
theorem dt_ok {n : Int} (h0 : 0 ≤ n) (h1 : n ≤ 3652058) : Ok (yo n) (mo n) (dd n) ∧ num (yo n) (mo n) (dd n) = n := by
  have h := date_exists h0 h1
  unfold yo mo dd dt
  rw [dif_pos h]
  exact h.choose_spec
theorem dt_num {y m d : Int} (h : Ok y m d) : yo (num y m d) = y ∧ mo (num y m d) = m ∧ dd (num y m d) = d := by
  have hb := num_bd h
  have hk := dt_ok hb.1 hb.2
  exact num_unique hk.1 h hk.2
theorem yo_of {y n : Int} (h0 : 0 ≤ n) (h1 : n ≤ 3652058) (h2 : 1 ≤ y) (h3 : ny y ≤ n) (h4 : n < ny (y + 1)) : yo n = y := by
  have hk := dt_ok h0 h1
  have a := num_year hk.1
  rw [hk.2] at a
  exact year_unique hk.1.1 h2 a.1 a.2 h3 h4
theorem yo_bd {n : Int} (h0 : 0 ≤ n) (h1 : n ≤ 3652058) : 1 ≤ yo n ∧ yo n ≤ 9999 ∧ ny (yo n) ≤ n ∧ n < ny (yo n + 1) := by
  have hk := dt_ok h0 h1
  have a := num_year hk.1
  rw [hk.2] at a
  exact ⟨hk.1.1, hk.1.2.1, a.1, a.2⟩

/-- The number of the Monday with which the first week of a year begins. -/
def fm (y : Int) : Int := (ny y + 3) - (ny y + 3) % 7
theorem fm_bd (y : Int) : ny y - 3 ≤ fm y ∧ fm y ≤ ny y + 3 := by unfold fm; omega
end Cal
end Go.Proofs.YtjgpfadoebnchaaDoor
