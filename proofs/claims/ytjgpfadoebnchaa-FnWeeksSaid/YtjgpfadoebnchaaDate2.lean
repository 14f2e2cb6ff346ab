/-
  Contracts: which dates there are; the days ahead of a year. Conditions: as each states.
-/
import Derived.Test.YtjgpfadoebnchaaDate
import Derived.Deep.RegionHeld3
namespace Go.Proofs.Ytjgpfadoebnchaa
open Go.RowKit Go.PlainAid
set_option linter.unusedVariables false

theorem newYear_any (y : Int) (w : World) (h1 : 1 ≤ y) (h2 : y ≤ 10000) : Calls Try.prog 16 #[.int .i64 y] w fun e w' => e = .returned (.int .i64 (Cal.ny y)) ∧ w = w' := by
  go_enter Try.func16, Try.ntmps16
  go_wp2
  go_ret
  exact ⟨rfl, rfl⟩
theorem l2Years_any (y : Int) (w : World) (h1 : 1 ≤ y) (h2 : y ≤ 10000) : Calls Try.prog 14 #[.int .i64 y] w fun e w' => e = .returned (.int .i64 (Cal.ny y)) ∧ w = w' := by
  go_enter Try.func14, Try.ntmps14
  go_wp2
  go_ret
  exact ⟨rfl, rfl⟩
end Go.Proofs.Ytjgpfadoebnchaa
