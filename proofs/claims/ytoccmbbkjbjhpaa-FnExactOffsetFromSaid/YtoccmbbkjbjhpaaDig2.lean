/-
  Contracts of the functions that write digits. Conditions: as each states.
-/
import Derived.Test.YtoccmbbkjbjhpaaDig
import Derived.Laws.IdiomStrings
import Derived.Laws.Concat
namespace Go.Proofs.Ytoccmbbkjbjhpaa
open Go.RowKit Go.PlainAid
set_option linter.unusedVariables false

theorem cat_law {P : Program} (A B : List UInt8) (h : A.length + B.length ≤ 1000000) (w : World) : (Op.stringOp .add (bs A) (bs B)).run P w = .ok (.string (bs (A ++ B))) w := by
  rw [run_string_add_sum _ _ _ (by rw [bs_size, bs_size]; omega), bs_app]

end Go.Proofs.Ytoccmbbkjbjhpaa
