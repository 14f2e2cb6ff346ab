/-
  Contracts of the functions on years, months and dates. Conditions: as each states; those of the program that read the table of the months ask that it reads as listed.
-/
import Derived.Test.YtjgpfadoebnchaaDoorCal
import Derived.Test.YtjgpfadoebnchaaDoorDig
import Derived.Test.YtjgpfadoebnchaaDoorKeep
namespace Go.Proofs.YtjgpfadoebnchaaDoor
open Go.RowKit Go.PlainAid
set_option linter.unusedVariables false

/-- The table of the months reads as listed. -/
def Tab (w : World) : Prop := ∀ i, i < 12 → w.cell? ⟨0, i, none⟩ = some (.int .i64 (Cal.mt i))
theorem Tab.lt {w : World} (h : Tab w) : 0 < w.heap.size := lt_of_cell (h 0 (by omega))
theorem Tab.below {w w' : World} (h : Tab w) (hb : Below w.heap.size w w') : Tab w' := fun i hi => (hb.cell (p := ⟨0, i, none⟩) h.lt).trans (h i hi)
theorem Tab.drewN {w : World} (h : Tab w) (n : Nat) : Tab (w.drewN n) := h
theorem Tab.alloc {w : World} (h : Tab w) (o : Obj) : Tab (w.alloc o) := h.below ((Below.refl _ _).alloc (Nat.le_refl _) o)
theorem leap_split {y : Int} (h : Cal.Leap y) : (y % 4 = 0 ∧ y % 100 ≠ 0) ∨ (y % 4 = 0 ∧ y % 100 = 0 ∧ y % 400 = 0) := by
  unfold Cal.Leap at h
  omega
theorem noleap_split {y : Int} (h : ¬ Cal.Leap y) : y % 4 ≠ 0 ∨ (y % 4 = 0 ∧ y % 100 = 0 ∧ y % 400 ≠ 0) := by
  unfold Cal.Leap at h
  omega
theorem bt_ {a b : Int} (h : a = b) : (a == b) = true ∧ (a != b) = false := ⟨beq_iff_eq.2 h, by simp [h]⟩
theorem bf_ {a b : Int} (h : a ≠ b) : (a == b) = false ∧ (a != b) = true := ⟨beq_eq_false_iff_ne.2 h, bne_iff_ne.2 h⟩
theorem yearValid_yes (y : Int) (w : World) (h1 : 1 ≤ y) (h2 : y ≤ 9999) : Calls Tryd.prog 46 #[.int .i64 y] w fun e w' => e = .returned (.bool true) ∧ w = w' := by
  go_enter Tryd.func46, Tryd.ntmps46
  go_wp2_with (first | (go_at_call 42; refine (within_yes _ _ _ _ (by omega) (by omega)).mono ?_; rintro e w' ⟨rfl, rfl⟩) | (go_at_call 42; refine (within_no _ _ _ _ (by omega)).mono ?_; rintro e w' ⟨rfl, rfl⟩))
  go_ret
  exact ⟨rfl, rfl⟩
theorem yearValid_no (y : Int) (w : World) (h : y < 1 ∨ 9999 < y) : Calls Tryd.prog 46 #[.int .i64 y] w fun e w' => e = .returned (.bool false) ∧ w = w' := by
  go_enter Tryd.func46, Tryd.ntmps46
  go_wp2_with (first | (go_at_call 42; refine (within_yes _ _ _ _ (by omega) (by omega)).mono ?_; rintro e w' ⟨rfl, rfl⟩) | (go_at_call 42; refine (within_no _ _ _ _ (by omega)).mono ?_; rintro e w' ⟨rfl, rfl⟩))
  go_ret
  exact ⟨rfl, rfl⟩
theorem LeapYear_i_yes (y : Int) (w : World) (h1 : 1 ≤ y) (h2 : y ≤ 9999) (h : Cal.Leap y) : Calls Tryd.prog 57 #[.int .i64 y] w fun e w' => e = .returned (.bool true) ∧ w = w' := by
  rcases leap_split h with ⟨a, b⟩ | ⟨a, b, c⟩
  · obtain ⟨q1, q2⟩ := bt_ a
    obtain ⟨q3, q4⟩ := bf_ b
    clear a b h
    go_enter Tryd.func57, Tryd.ntmps57
    go_wp2_with (first | (go_at_call 46; refine (yearValid_yes _ _ (by omega) (by omega)).mono ?_; rintro e w' ⟨rfl, rfl⟩) | (go_at_call 46; refine (yearValid_no _ _ (by omega)).mono ?_; rintro e w' ⟨rfl, rfl⟩))
    go_ret
    exact ⟨rfl, rfl⟩
  · obtain ⟨q1, q2⟩ := bt_ a
    obtain ⟨q3, q4⟩ := bt_ b
    obtain ⟨q5, q6⟩ := bt_ c
    clear a b c h
    go_enter Tryd.func57, Tryd.ntmps57
    go_wp2_with (first | (go_at_call 46; refine (yearValid_yes _ _ (by omega) (by omega)).mono ?_; rintro e w' ⟨rfl, rfl⟩) | (go_at_call 46; refine (yearValid_no _ _ (by omega)).mono ?_; rintro e w' ⟨rfl, rfl⟩))
    go_ret
    exact ⟨rfl, rfl⟩
theorem LeapYear_i_no (y : Int) (w : World) (h : ¬ (1 ≤ y ∧ y ≤ 9999 ∧ Cal.Leap y)) : Calls Tryd.prog 57 #[.int .i64 y] w fun e w' => e = .returned (.bool false) ∧ w = w' := by
  by_cases hr : y < 1 ∨ 9999 < y
  · clear h
    go_enter Tryd.func57, Tryd.ntmps57
    go_wp2_with (first | (go_at_call 46; refine (yearValid_yes _ _ (by omega) (by omega)).mono ?_; rintro e w' ⟨rfl, rfl⟩) | (go_at_call 46; refine (yearValid_no _ _ (by omega)).mono ?_; rintro e w' ⟨rfl, rfl⟩))
    go_ret
    exact ⟨rfl, rfl⟩
  · have h1 : 1 ≤ y := by omega
    have h2 : y ≤ 9999 := by omega
    have hl : ¬ Cal.Leap y := fun hl => h ⟨h1, h2, hl⟩
    clear h hr
    rcases noleap_split hl with a | ⟨a, b, c⟩
    · obtain ⟨q1, q2⟩ := bf_ a
      clear a hl
      go_enter Tryd.func57, Tryd.ntmps57
      go_wp2_with (first | (go_at_call 46; refine (yearValid_yes _ _ (by omega) (by omega)).mono ?_; rintro e w' ⟨rfl, rfl⟩) | (go_at_call 46; refine (yearValid_no _ _ (by omega)).mono ?_; rintro e w' ⟨rfl, rfl⟩))
      go_ret
      exact ⟨rfl, rfl⟩
    · obtain ⟨q1, q2⟩ := bt_ a
      obtain ⟨q3, q4⟩ := bt_ b
      obtain ⟨q5, q6⟩ := bf_ c
      clear a b c hl
      go_enter Tryd.func57, Tryd.ntmps57
      go_wp2_with (first | (go_at_call 46; refine (yearValid_yes _ _ (by omega) (by omega)).mono ?_; rintro e w' ⟨rfl, rfl⟩) | (go_at_call 46; refine (yearValid_no _ _ (by omega)).mono ?_; rintro e w' ⟨rfl, rfl⟩))
      go_ret
      exact ⟨rfl, rfl⟩
theorem LeapYear_s_yes (y : Int) (w : World) (h1 : 1 ≤ y) (h2 : y ≤ 9999) (h : Cal.Leap y) : Calls Tryd.prog 58 #[.int .i64 y] w fun e w' => e = .returned (.bool true) ∧ w = w' := by
  rcases leap_split h with ⟨a, b⟩ | ⟨a, b, c⟩
  · obtain ⟨q1, q2⟩ := bt_ a
    obtain ⟨q3, q4⟩ := bf_ b
    clear a b h
    go_enter Tryd.func58, Tryd.ntmps58
    go_wp2_with (first | (go_at_call 39; refine (l6In_yes _ _ _ _ (by omega) (by omega)).mono ?_; rintro e w' ⟨rfl, rfl⟩) | (go_at_call 39; refine (l6In_no _ _ _ _ (by omega)).mono ?_; rintro e w' ⟨rfl, rfl⟩))
    go_ret
    exact ⟨rfl, rfl⟩
  · obtain ⟨q1, q2⟩ := bt_ a
    obtain ⟨q3, q4⟩ := bt_ b
    obtain ⟨q5, q6⟩ := bt_ c
    clear a b c h
    go_enter Tryd.func58, Tryd.ntmps58
    go_wp2_with (first | (go_at_call 39; refine (l6In_yes _ _ _ _ (by omega) (by omega)).mono ?_; rintro e w' ⟨rfl, rfl⟩) | (go_at_call 39; refine (l6In_no _ _ _ _ (by omega)).mono ?_; rintro e w' ⟨rfl, rfl⟩))
    go_ret
    exact ⟨rfl, rfl⟩
theorem LeapYear_s_no (y : Int) (w : World) (h : ¬ (1 ≤ y ∧ y ≤ 9999 ∧ Cal.Leap y)) : Calls Tryd.prog 58 #[.int .i64 y] w fun e w' => e = .returned (.bool false) ∧ w = w' := by
  by_cases hr : y < 1 ∨ 9999 < y
  · clear h
    go_enter Tryd.func58, Tryd.ntmps58
    go_wp2_with (first | (go_at_call 39; refine (l6In_yes _ _ _ _ (by omega) (by omega)).mono ?_; rintro e w' ⟨rfl, rfl⟩) | (go_at_call 39; refine (l6In_no _ _ _ _ (by omega)).mono ?_; rintro e w' ⟨rfl, rfl⟩))
    go_ret
    exact ⟨rfl, rfl⟩
  · have h1 : 1 ≤ y := by omega
    have h2 : y ≤ 9999 := by omega
    have hl : ¬ Cal.Leap y := fun hl => h ⟨h1, h2, hl⟩
    clear h hr
    rcases noleap_split hl with a | ⟨a, b, c⟩
    · obtain ⟨q1, q2⟩ := bf_ a
      clear a hl
      go_enter Tryd.func58, Tryd.ntmps58
      go_wp2_with (first | (go_at_call 39; refine (l6In_yes _ _ _ _ (by omega) (by omega)).mono ?_; rintro e w' ⟨rfl, rfl⟩) | (go_at_call 39; refine (l6In_no _ _ _ _ (by omega)).mono ?_; rintro e w' ⟨rfl, rfl⟩))
      go_ret
      exact ⟨rfl, rfl⟩
    · obtain ⟨q1, q2⟩ := bt_ a
      obtain ⟨q3, q4⟩ := bt_ b
      obtain ⟨q5, q6⟩ := bf_ c
      clear a b c hl
      go_enter Tryd.func58, Tryd.ntmps58
      go_wp2_with (first | (go_at_call 39; refine (l6In_yes _ _ _ _ (by omega) (by omega)).mono ?_; rintro e w' ⟨rfl, rfl⟩) | (go_at_call 39; refine (l6In_no _ _ _ _ (by omega)).mono ?_; rintro e w' ⟨rfl, rfl⟩))
      go_ret
      exact ⟨rfl, rfl⟩
/-- There is such a month. -/
def MonOk (y m : Int) : Prop := 1 ≤ y ∧ y ≤ 9999 ∧ 1 ≤ m ∧ m ≤ 12
theorem MonthDays_i_no (y m : Int) (w : World) (h : ¬ MonOk y m) : Calls Tryd.prog 50 #[.int .i64 y, .int .i64 m] w fun e w' => e = .returned (.int .i64 0) ∧ w = w' := by
  unfold MonOk at h
  by_cases hr : y < 1 ∨ 9999 < y
  · clear h
    go_enter Tryd.func50, Tryd.ntmps50
    go_wp2_with (first | (go_at_call 46; refine (yearValid_yes _ _ (by omega) (by omega)).mono ?_; rintro e w' ⟨rfl, rfl⟩) | (go_at_call 46; refine (yearValid_no _ _ (by omega)).mono ?_; rintro e w' ⟨rfl, rfl⟩) | (go_at_call 42; refine (within_yes _ _ _ _ (by omega) (by omega)).mono ?_; rintro e w' ⟨rfl, rfl⟩) | (go_at_call 42; refine (within_no _ _ _ _ (by omega)).mono ?_; rintro e w' ⟨rfl, rfl⟩))
    go_ret
    exact ⟨rfl, rfl⟩
  · have hm : m < 1 ∨ 12 < m := by omega
    clear h
    go_enter Tryd.func50, Tryd.ntmps50
    go_wp2_with (first | (go_at_call 46; refine (yearValid_yes _ _ (by omega) (by omega)).mono ?_; rintro e w' ⟨rfl, rfl⟩) | (go_at_call 46; refine (yearValid_no _ _ (by omega)).mono ?_; rintro e w' ⟨rfl, rfl⟩) | (go_at_call 42; refine (within_yes _ _ _ _ (by omega) (by omega)).mono ?_; rintro e w' ⟨rfl, rfl⟩) | (go_at_call 42; refine (within_no _ _ _ _ (by omega)).mono ?_; rintro e w' ⟨rfl, rfl⟩))
    go_ret
    exact ⟨rfl, rfl⟩
theorem MonthDays_i_yes (y m : Int) (w : World) (hT : Tab w) (h : MonOk y m) : Calls Tryd.prog 50 #[.int .i64 y, .int .i64 m] w fun e w' => e = .returned (.int .i64 (Cal.md y m)) ∧ w = w' := by
  obtain ⟨h1, h2, h3, h4⟩ := h
  by_cases hl : m = 2 ∧ Cal.Leap y
  · obtain ⟨rfl, hl⟩ := hl
    have HL := Lib.hid hl
    have HM := Lib.hid (show Cal.md y 2 = 29 from by unfold Cal.md; rw [if_pos rfl, Cal.lp_yes hl]; rfl)
    clear hl hT
    go_enter Tryd.func50, Tryd.ntmps50
    go_wp2_with (first | (go_at_call 46; refine (yearValid_yes _ _ (by omega) (by omega)).mono ?_; rintro e w' ⟨rfl, rfl⟩) | (go_at_call 46; refine (yearValid_no _ _ (by omega)).mono ?_; rintro e w' ⟨rfl, rfl⟩) | (go_at_call 42; refine (within_yes _ _ _ _ (by omega) (by omega)).mono ?_; rintro e w' ⟨rfl, rfl⟩) | (go_at_call 42; refine (within_no _ _ _ _ (by omega)).mono ?_; rintro e w' ⟨rfl, rfl⟩) | (go_at_call 57; refine (LeapYear_i_yes _ _ h1 h2 HL.out).mono ?_; rintro e w' ⟨rfl, rfl⟩))
    go_ret
    exact ⟨ret_int HM.out.symm, rfl⟩
  · obtain ⟨k, rfl⟩ : ∃ k : Nat, m = (k : Int) + 1 := ⟨(m - 1).toNat, by omega⟩
    have hc := hT k (by omega)
    have hmd : Cal.md y ((k : Int) + 1) = Cal.mt k := by
      unfold Cal.md
      by_cases e : (k : Int) + 1 = 2
      · rw [if_pos e, Cal.lp_no (fun h => hl ⟨e, h⟩)]
        obtain rfl : k = 1 := by omega
        rfl
      · rw [if_neg e, show ((k : Int) + 1 - 1).toNat = k from by omega]
    have HM := Lib.hid hmd
    clear hmd hT
    by_cases e : k = 1
    · subst e
      have HL := Lib.hid (show ¬ (1 ≤ y ∧ y ≤ 9999 ∧ Cal.Leap y) from fun h => hl ⟨rfl, h.2.2⟩)
      clear hl
      go_enter Tryd.func50, Tryd.ntmps50
      go_wp2_with (first | (go_at_call 46; refine (yearValid_yes _ _ (by omega) (by omega)).mono ?_; rintro e w' ⟨rfl, rfl⟩) | (go_at_call 46; refine (yearValid_no _ _ (by omega)).mono ?_; rintro e w' ⟨rfl, rfl⟩) | (go_at_call 42; refine (within_yes _ _ _ _ (by omega) (by omega)).mono ?_; rintro e w' ⟨rfl, rfl⟩) | (go_at_call 42; refine (within_no _ _ _ _ (by omega)).mono ?_; rintro e w' ⟨rfl, rfl⟩) | (go_at_call 57; refine (LeapYear_i_no _ _ HL.out).mono ?_; rintro e w' ⟨rfl, rfl⟩))
      go_ret
      exact ⟨ret_int HM.out.symm, rfl⟩
    · obtain ⟨q1, q2⟩ := bf_ (show (k : Int) + 1 ≠ 2 from by omega)
      clear hl
      go_enter Tryd.func50, Tryd.ntmps50
      go_wp2_with (first | (go_at_call 46; refine (yearValid_yes _ _ (by omega) (by omega)).mono ?_; rintro e w' ⟨rfl, rfl⟩) | (go_at_call 46; refine (yearValid_no _ _ (by omega)).mono ?_; rintro e w' ⟨rfl, rfl⟩) | (go_at_call 42; refine (within_yes _ _ _ _ (by omega) (by omega)).mono ?_; rintro e w' ⟨rfl, rfl⟩) | (go_at_call 42; refine (within_no _ _ _ _ (by omega)).mono ?_; rintro e w' ⟨rfl, rfl⟩))
      go_ret
      exact ⟨ret_int HM.out.symm, rfl⟩
theorem MonthDays_s_no (y m : Int) (w : World) (h : ¬ MonOk y m) : Calls Tryd.prog 52 #[.int .i64 y, .int .i64 m] w fun e w' => e = .returned (.int .i64 0) ∧ w = w' := by
  unfold MonOk at h
  by_cases hr : y < 1 ∨ 9999 < y
  · clear h
    go_enter Tryd.func52, Tryd.ntmps52
    go_wp2_with (first | (go_at_call 39; refine (l6In_yes _ _ _ _ (by omega) (by omega)).mono ?_; rintro e w' ⟨rfl, rfl⟩) | (go_at_call 39; refine (l6In_no _ _ _ _ (by omega)).mono ?_; rintro e w' ⟨rfl, rfl⟩))
    go_ret
    exact ⟨rfl, rfl⟩
  · have hm : m < 1 ∨ 12 < m := by omega
    clear h
    go_enter Tryd.func52, Tryd.ntmps52
    go_wp2_with (first | (go_at_call 39; refine (l6In_yes _ _ _ _ (by omega) (by omega)).mono ?_; rintro e w' ⟨rfl, rfl⟩) | (go_at_call 39; refine (l6In_no _ _ _ _ (by omega)).mono ?_; rintro e w' ⟨rfl, rfl⟩))
    go_ret
    exact ⟨rfl, rfl⟩
theorem months_list (i : Nat) (h : i < 12) : ([.int .i64 31, .int .i64 28, .int .i64 31, .int .i64 30, .int .i64 31, .int .i64 30, .int .i64 31, .int .i64 31, .int .i64 30, .int .i64 31, .int .i64 30, .int .i64 31] : List Value)[i]? = some (.int .i64 (Cal.mt i)) := by
  match i, h with
  | 0, _ => rfl
  | 1, _ => rfl
  | 2, _ => rfl
  | 3, _ => rfl
  | 4, _ => rfl
  | 5, _ => rfl
  | 6, _ => rfl
  | 7, _ => rfl
  | 8, _ => rfl
  | 9, _ => rfl
  | 10, _ => rfl
  | 11, _ => rfl
theorem MonthDays_s_yes (y m : Int) (w : World) (h : MonOk y m) : Calls Tryd.prog 52 #[.int .i64 y, .int .i64 m] w fun e w' => e = .returned (.int .i64 (Cal.md y m)) ∧ Below w.heap.size w w' := by
  obtain ⟨h1, h2, h3, h4⟩ := h
  by_cases hl : m = 2 ∧ Cal.Leap y
  · obtain ⟨rfl, hl⟩ := hl
    have HL := Lib.hid hl
    have HM := Lib.hid (show Cal.md y 2 = 29 from by unfold Cal.md; rw [if_pos rfl, Cal.lp_yes hl]; rfl)
    clear hl
    go_enter Tryd.func52, Tryd.ntmps52
    go_wp2_with (first | (go_at_call 39; refine (l6In_yes _ _ _ _ (by omega) (by omega)).mono ?_; rintro e w' ⟨rfl, rfl⟩) | (go_at_call 39; refine (l6In_no _ _ _ _ (by omega)).mono ?_; rintro e w' ⟨rfl, rfl⟩) | (go_at_call 58; refine (LeapYear_s_yes _ _ h1 h2 HL.out).mono ?_; rintro e w' ⟨rfl, rfl⟩))
    go_ret
    exact ⟨ret_int HM.out.symm, Below.refl _ _⟩
  · obtain ⟨k, rfl⟩ : ∃ k : Nat, m = (k : Int) + 1 := ⟨(m - 1).toNat, by omega⟩
    have hc := months_list k (by omega)
    have hmd : Cal.md y ((k : Int) + 1) = Cal.mt k := by
      unfold Cal.md
      by_cases e : (k : Int) + 1 = 2
      · rw [if_pos e, Cal.lp_no (fun h => hl ⟨e, h⟩)]
        obtain rfl : k = 1 := by omega
        rfl
      · rw [if_neg e, show ((k : Int) + 1 - 1).toNat = k from by omega]
    have HM := Lib.hid hmd
    clear hmd
    by_cases e : k = 1
    · subst e
      have HL := Lib.hid (show ¬ (1 ≤ y ∧ y ≤ 9999 ∧ Cal.Leap y) from fun h => hl ⟨rfl, h.2.2⟩)
      clear hl
      go_enter Tryd.func52, Tryd.ntmps52
      go_wp2_with (first | (go_at_call 39; refine (l6In_yes _ _ _ _ (by omega) (by omega)).mono ?_; rintro e w' ⟨rfl, rfl⟩) | (go_at_call 39; refine (l6In_no _ _ _ _ (by omega)).mono ?_; rintro e w' ⟨rfl, rfl⟩) | (go_at_call 58; refine (LeapYear_s_no _ _ HL.out).mono ?_; rintro e w' ⟨rfl, rfl⟩))
      go_ret
      exact ⟨ret_int HM.out.symm, by go_grown⟩
    · obtain ⟨q1, q2⟩ := bf_ (show (k : Int) + 1 ≠ 2 from by omega)
      clear hl
      go_enter Tryd.func52, Tryd.ntmps52
      go_wp2_with (first | (go_at_call 39; refine (l6In_yes _ _ _ _ (by omega) (by omega)).mono ?_; rintro e w' ⟨rfl, rfl⟩) | (go_at_call 39; refine (l6In_no _ _ _ _ (by omega)).mono ?_; rintro e w' ⟨rfl, rfl⟩))
      go_ret
      exact ⟨ret_int HM.out.symm, by go_grown⟩
end Go.Proofs.YtjgpfadoebnchaaDoor
