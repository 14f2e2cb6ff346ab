/-
  The walk of the law that a further zero of a fraction changes nothing. Conditions: the variable errors.errorType as listed.
-/
import Derived.Test.YtkdhlgfpnkdbmaaDoorConA
import Derived.Test.YtkdhlgfpnkdbmaaDoorLawT
namespace Go.Proofs.YtkdhlgfpnkdbmaaDoor
open Go.RowKit Go.PlainAid
set_option linter.unusedVariables false

theorem walk_ClockFromZero (a : Option Addr) (len cap : Nat) (z : List Int) (w : World) (h : IsRow .u8 w a len cap z) (hE : w.cell? ⟨0, 0, none⟩ = some (.iface 93 (.agg #[.pointer (some ⟨4, 46, none⟩)]))) : Calls Tryd.prog 3 #[.slice a len cap] w fun e w' => e = .returned (.bool true) ∧ Below w.heap.size w w' := core_ClockFromZero conI conS a len cap z w h hE
end Go.Proofs.YtkdhlgfpnkdbmaaDoor
