/-
  Contracts of the functions on years, months and dates. Conditions: as each states; those of the program that read the table of the months ask that it reads as listed.
-/
import Derived.Test.YtdbdfionanlogaaCal
import Derived.Test.YtdbdfionanlogaaDig
import Derived.Test.YtdbdfionanlogaaKeep
namespace Go.Proofs.Ytdbdfionanlogaa
open Go.RowKit Go.PlainAid
set_option linter.unusedVariables false

theorem leap_split {y : Int} (h : Cal.Leap y) : (y % 4 = 0 ∧ y % 100 ≠ 0) ∨ (y % 4 = 0 ∧ y % 100 = 0 ∧ y % 400 = 0) := by
  unfold Cal.Leap at h
  omega
theorem noleap_split {y : Int} (h : ¬ Cal.Leap y) : y % 4 ≠ 0 ∨ (y % 4 = 0 ∧ y % 100 = 0 ∧ y % 400 ≠ 0) := by
  unfold Cal.Leap at h
  omega
theorem bt_ {a b : Int} (h : a = b) : (a == b) = true ∧ (a != b) = false := ⟨beq_iff_eq.2 h, by simp [h]⟩
theorem bf_ {a b : Int} (h : a ≠ b) : (a == b) = false ∧ (a != b) = true := ⟨beq_eq_false_iff_ne.2 h, bne_iff_ne.2 h⟩
theorem yearValid_yes (y : Int) (w : World) (h1 : 1 ≤ y) (h2 : y ≤ 9999) : Calls Try.prog 19 #[.int .i64 y] w fun e w' => e = .returned (.bool true) ∧ w = w' := by
  go_enter Try.func19, Try.ntmps19
  go_wp2_with (first | (go_at_call 30; refine (within_yes _ _ _ _ (by omega) (by omega)).mono ?_; rintro e w' ⟨rfl, rfl⟩) | (go_at_call 30; refine (within_no _ _ _ _ (by omega)).mono ?_; rintro e w' ⟨rfl, rfl⟩))
  go_ret
  exact ⟨rfl, rfl⟩
theorem yearValid_no (y : Int) (w : World) (h : y < 1 ∨ 9999 < y) : Calls Try.prog 19 #[.int .i64 y] w fun e w' => e = .returned (.bool false) ∧ w = w' := by
  go_enter Try.func19, Try.ntmps19
  go_wp2_with (first | (go_at_call 30; refine (within_yes _ _ _ _ (by omega) (by omega)).mono ?_; rintro e w' ⟨rfl, rfl⟩) | (go_at_call 30; refine (within_no _ _ _ _ (by omega)).mono ?_; rintro e w' ⟨rfl, rfl⟩))
  go_ret
  exact ⟨rfl, rfl⟩
theorem LeapYear_i_yes (y : Int) (w : World) (h1 : 1 ≤ y) (h2 : y ≤ 9999) (h : Cal.Leap y) : Calls Try.prog 11 #[.int .i64 y] w fun e w' => e = .returned (.bool true) ∧ w = w' := by
  rcases leap_split h with ⟨a, b⟩ | ⟨a, b, c⟩
  · obtain ⟨q1, q2⟩ := bt_ a
    obtain ⟨q3, q4⟩ := bf_ b
    clear a b h
    go_enter Try.func11, Try.ntmps11
    go_wp2_with (first | (go_at_call 19; refine (yearValid_yes _ _ (by omega) (by omega)).mono ?_; rintro e w' ⟨rfl, rfl⟩) | (go_at_call 19; refine (yearValid_no _ _ (by omega)).mono ?_; rintro e w' ⟨rfl, rfl⟩))
    go_ret
    exact ⟨rfl, rfl⟩
  · obtain ⟨q1, q2⟩ := bt_ a
    obtain ⟨q3, q4⟩ := bt_ b
    obtain ⟨q5, q6⟩ := bt_ c
    clear a b c h
    go_enter Try.func11, Try.ntmps11
    go_wp2_with (first | (go_at_call 19; refine (yearValid_yes _ _ (by omega) (by omega)).mono ?_; rintro e w' ⟨rfl, rfl⟩) | (go_at_call 19; refine (yearValid_no _ _ (by omega)).mono ?_; rintro e w' ⟨rfl, rfl⟩))
    go_ret
    exact ⟨rfl, rfl⟩
theorem LeapYear_i_no (y : Int) (w : World) (h : ¬ (1 ≤ y ∧ y ≤ 9999 ∧ Cal.Leap y)) : Calls Try.prog 11 #[.int .i64 y] w fun e w' => e = .returned (.bool false) ∧ w = w' := by
  by_cases hr : y < 1 ∨ 9999 < y
  · clear h
    go_enter Try.func11, Try.ntmps11
    go_wp2_with (first | (go_at_call 19; refine (yearValid_yes _ _ (by omega) (by omega)).mono ?_; rintro e w' ⟨rfl, rfl⟩) | (go_at_call 19; refine (yearValid_no _ _ (by omega)).mono ?_; rintro e w' ⟨rfl, rfl⟩))
    go_ret
    exact ⟨rfl, rfl⟩
  · have h1 : 1 ≤ y := by omega
    have h2 : y ≤ 9999 := by omega
    have hl : ¬ Cal.Leap y := fun hl => h ⟨h1, h2, hl⟩
    clear h hr
    rcases noleap_split hl with a | ⟨a, b, c⟩
    · obtain ⟨q1, q2⟩ := bf_ a
      clear a hl
      go_enter Try.func11, Try.ntmps11
      go_wp2_with (first | (go_at_call 19; refine (yearValid_yes _ _ (by omega) (by omega)).mono ?_; rintro e w' ⟨rfl, rfl⟩) | (go_at_call 19; refine (yearValid_no _ _ (by omega)).mono ?_; rintro e w' ⟨rfl, rfl⟩))
      go_ret
      exact ⟨rfl, rfl⟩
    · obtain ⟨q1, q2⟩ := bt_ a
      obtain ⟨q3, q4⟩ := bt_ b
      obtain ⟨q5, q6⟩ := bf_ c
      clear a b c hl
      go_enter Try.func11, Try.ntmps11
      go_wp2_with (first | (go_at_call 19; refine (yearValid_yes _ _ (by omega) (by omega)).mono ?_; rintro e w' ⟨rfl, rfl⟩) | (go_at_call 19; refine (yearValid_no _ _ (by omega)).mono ?_; rintro e w' ⟨rfl, rfl⟩))
      go_ret
      exact ⟨rfl, rfl⟩
theorem LeapYear_s_yes (y : Int) (w : World) (h1 : 1 ≤ y) (h2 : y ≤ 9999) (h : Cal.Leap y) : Calls Try.prog 10 #[.int .i64 y] w fun e w' => e = .returned (.bool true) ∧ w = w' := by
  rcases leap_split h with ⟨a, b⟩ | ⟨a, b, c⟩
  · obtain ⟨q1, q2⟩ := bt_ a
    obtain ⟨q3, q4⟩ := bf_ b
    clear a b h
    go_enter Try.func10, Try.ntmps10
    go_wp2_with (first | (go_at_call 18; refine (l6In_yes _ _ _ _ (by omega) (by omega)).mono ?_; rintro e w' ⟨rfl, rfl⟩) | (go_at_call 18; refine (l6In_no _ _ _ _ (by omega)).mono ?_; rintro e w' ⟨rfl, rfl⟩))
    go_ret
    exact ⟨rfl, rfl⟩
  · obtain ⟨q1, q2⟩ := bt_ a
    obtain ⟨q3, q4⟩ := bt_ b
    obtain ⟨q5, q6⟩ := bt_ c
    clear a b c h
    go_enter Try.func10, Try.ntmps10
    go_wp2_with (first | (go_at_call 18; refine (l6In_yes _ _ _ _ (by omega) (by omega)).mono ?_; rintro e w' ⟨rfl, rfl⟩) | (go_at_call 18; refine (l6In_no _ _ _ _ (by omega)).mono ?_; rintro e w' ⟨rfl, rfl⟩))
    go_ret
    exact ⟨rfl, rfl⟩
theorem LeapYear_s_no (y : Int) (w : World) (h : ¬ (1 ≤ y ∧ y ≤ 9999 ∧ Cal.Leap y)) : Calls Try.prog 10 #[.int .i64 y] w fun e w' => e = .returned (.bool false) ∧ w = w' := by
  by_cases hr : y < 1 ∨ 9999 < y
  · clear h
    go_enter Try.func10, Try.ntmps10
    go_wp2_with (first | (go_at_call 18; refine (l6In_yes _ _ _ _ (by omega) (by omega)).mono ?_; rintro e w' ⟨rfl, rfl⟩) | (go_at_call 18; refine (l6In_no _ _ _ _ (by omega)).mono ?_; rintro e w' ⟨rfl, rfl⟩))
    go_ret
    exact ⟨rfl, rfl⟩
  · have h1 : 1 ≤ y := by omega
    have h2 : y ≤ 9999 := by omega
    have hl : ¬ Cal.Leap y := fun hl => h ⟨h1, h2, hl⟩
    clear h hr
    rcases noleap_split hl with a | ⟨a, b, c⟩
    · obtain ⟨q1, q2⟩ := bf_ a
      clear a hl
      go_enter Try.func10, Try.ntmps10
      go_wp2_with (first | (go_at_call 18; refine (l6In_yes _ _ _ _ (by omega) (by omega)).mono ?_; rintro e w' ⟨rfl, rfl⟩) | (go_at_call 18; refine (l6In_no _ _ _ _ (by omega)).mono ?_; rintro e w' ⟨rfl, rfl⟩))
      go_ret
      exact ⟨rfl, rfl⟩
    · obtain ⟨q1, q2⟩ := bt_ a
      obtain ⟨q3, q4⟩ := bt_ b
      obtain ⟨q5, q6⟩ := bf_ c
      clear a b c hl
      go_enter Try.func10, Try.ntmps10
      go_wp2_with (first | (go_at_call 18; refine (l6In_yes _ _ _ _ (by omega) (by omega)).mono ?_; rintro e w' ⟨rfl, rfl⟩) | (go_at_call 18; refine (l6In_no _ _ _ _ (by omega)).mono ?_; rintro e w' ⟨rfl, rfl⟩))
      go_ret
      exact ⟨rfl, rfl⟩
/-- There is such a month. -/
def MonOk (y m : Int) : Prop := 1 ≤ y ∧ y ≤ 9999 ∧ 1 ≤ m ∧ m ≤ 12
end Go.Proofs.Ytdbdfionanlogaa
