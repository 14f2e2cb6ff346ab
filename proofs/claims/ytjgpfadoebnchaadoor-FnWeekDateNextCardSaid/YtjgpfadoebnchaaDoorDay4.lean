/-
  Contracts: days of a year; dates that are alike. Conditions: as each states.
-/
import Derived.Test.YtjgpfadoebnchaaDoorDay3
namespace Go.Proofs.YtjgpfadoebnchaaDoor
open Go.RowKit Go.PlainAid
set_option linter.unusedVariables false

theorem eqDate_same (y m d : Int) (w : World) : Calls Tryd.prog 24 #[.agg #[.int .i64 y, .int .i64 m, .int .i64 d], .agg #[.int .i64 y, .int .i64 m, .int .i64 d]] w fun e w' => e = .returned (.bool true) ∧ Below w.heap.size w w' := by
  go_enter Tryd.func24, Tryd.ntmps24
  go_wp2
  go_ret
  exact ⟨rfl, by go_grown⟩
/-- There is such a day of a year. -/
def OrdOk (y d : Int) : Prop := 1 ≤ y ∧ y ≤ 9999 ∧ 1 ≤ d ∧ d ≤ 365 + Cal.lp y
theorem OrdOk.num {y d : Int} (h : OrdOk y d) : 0 ≤ Cal.ny y + d - 1 ∧ Cal.ny y + d - 1 ≤ 3652058 ∧ Cal.yo (Cal.ny y + d - 1) = y := by
  obtain ⟨h1, h2, h3, h4⟩ := h
  have hb := Cal.ny_bd (y := y) h1 (by omega)
  have hb2 := Cal.ny_bd (y := y + 1) (by omega) (by omega)
  have hs := Cal.ny_succ h1
  have a : 0 ≤ Cal.ny y + d - 1 := by omega
  have b : Cal.ny y + d - 1 ≤ 3652058 := by omega
  exact ⟨a, b, Cal.yo_of a b h1 (by omega) (by omega)⟩
end Go.Proofs.YtjgpfadoebnchaaDoor
