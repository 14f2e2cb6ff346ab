/-
  The walk of the law that both read the same time of a text. Conditions: the text's length; the variable errors.errorType as listed.
-/
import Derived.Test.YtkdhlgfpnkdbmaaDoorConA
namespace Go.Proofs.YtkdhlgfpnkdbmaaDoor
open Go.RowKit Go.PlainAid
set_option linter.unusedVariables false

theorem walk_ExactClockFrom (s : ByteArray) (w : World) (hs : s.size ≤ maxLen) (hE : w.cell? ⟨0, 0, none⟩ = some (.iface 93 (.agg #[.pointer (some ⟨4, 46, none⟩)]))) : Calls Tryd.prog 6 #[.string s] w fun e w' => e = .returned (.bool true) ∧ Below w.heap.size w w' := core_ExactClockFrom conI conS s w hs hE
end Go.Proofs.YtkdhlgfpnkdbmaaDoor
