/-
  Contracts of the functions on years, months and dates. Conditions: as each states; those of the program that read the table of the months ask that it reads as listed.
-/
import Derived.Test.YtjgpfadoebnchaaCal
import Derived.Test.YtjgpfadoebnchaaDig
import Derived.Test.YtjgpfadoebnchaaKeep
namespace Go.Proofs.Ytjgpfadoebnchaa
open Go.RowKit Go.PlainAid
set_option linter.unusedVariables false

theorem leap_split {y : Int} (h : Cal.Leap y) : (y % 4 = 0 ∧ y % 100 ≠ 0) ∨ (y % 4 = 0 ∧ y % 100 = 0 ∧ y % 400 = 0) := by
  unfold Cal.Leap at h
  omega
theorem noleap_split {y : Int} (h : ¬ Cal.Leap y) : y % 4 ≠ 0 ∨ (y % 4 = 0 ∧ y % 100 = 0 ∧ y % 400 ≠ 0) := by
  unfold Cal.Leap at h
  omega
theorem bt_ {a b : Int} (h : a = b) : (a == b) = true ∧ (a != b) = false := ⟨beq_iff_eq.2 h, by simp [h]⟩
theorem bf_ {a b : Int} (h : a ≠ b) : (a == b) = false ∧ (a != b) = true := ⟨beq_eq_false_iff_ne.2 h, bne_iff_ne.2 h⟩
theorem yearValid_yes (y : Int) (w : World) (h1 : 1 ≤ y) (h2 : y ≤ 9999) : Calls Try.prog 10 #[.int .i64 y] w fun e w' => e = .returned (.bool true) ∧ w = w' := by
  go_enter Try.func10, Try.ntmps10
  go_wp2_with (first | (go_at_call 15; refine (within_yes _ _ _ _ (by omega) (by omega)).mono ?_; rintro e w' ⟨rfl, rfl⟩) | (go_at_call 15; refine (within_no _ _ _ _ (by omega)).mono ?_; rintro e w' ⟨rfl, rfl⟩))
  go_ret
  exact ⟨rfl, rfl⟩
theorem yearValid_no (y : Int) (w : World) (h : y < 1 ∨ 9999 < y) : Calls Try.prog 10 #[.int .i64 y] w fun e w' => e = .returned (.bool false) ∧ w = w' := by
  go_enter Try.func10, Try.ntmps10
  go_wp2_with (first | (go_at_call 15; refine (within_yes _ _ _ _ (by omega) (by omega)).mono ?_; rintro e w' ⟨rfl, rfl⟩) | (go_at_call 15; refine (within_no _ _ _ _ (by omega)).mono ?_; rintro e w' ⟨rfl, rfl⟩))
  go_ret
  exact ⟨rfl, rfl⟩
/-- There is such a month. -/
def MonOk (y m : Int) : Prop := 1 ≤ y ∧ y ≤ 9999 ∧ 1 ≤ m ∧ m ≤ 12
end Go.Proofs.Ytjgpfadoebnchaa
