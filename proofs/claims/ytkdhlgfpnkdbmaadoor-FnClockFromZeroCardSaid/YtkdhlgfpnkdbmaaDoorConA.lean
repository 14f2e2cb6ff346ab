/-
  Contracts: the time of a text, by the program and by the reference. Conditions: the text's length; the variable errors.errorType as listed.
-/
import Derived.Test.YtkdhlgfpnkdbmaaDoorClkSf
import Derived.Test.YtkdhlgfpnkdbmaaDoorClkSt
import Derived.Test.YtkdhlgfpnkdbmaaDoorClkN0
import Derived.Test.YtkdhlgfpnkdbmaaDoorClkN1
import Derived.Test.YtkdhlgfpnkdbmaaDoorLawO
namespace Go.Proofs.YtkdhlgfpnkdbmaaDoor
open Go.RowKit Go.PlainAid
set_option linter.unusedVariables false

theorem conI : ConI := fun s w hs hE => ClockFrom_i (fun g s w hs hr => clock_false g s w hs hr) (fun g s w hs hr => clock_true g s w hs hr) s w hs hE
theorem conS : ConS := fun s w hs => ClockFrom_s (fun s w hs => l5Read_0 s w hs) (fun s w hs => l5Read_1 s w hs) s w hs
end Go.Proofs.YtkdhlgfpnkdbmaaDoor
