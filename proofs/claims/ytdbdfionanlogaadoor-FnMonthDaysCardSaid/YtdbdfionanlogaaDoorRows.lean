/-
  NARROWER THAN 'FOR EVERY INPUT', by the rows' own cells (each row's printed sentence says how): FnExactMonthDays: laid · FnLeap: laid · FnYearDays: laid · FnMonthDays: laid · FnExactDateValid: laid.
  DERIVED. THE GIVEN ROWS OF THIS SEAT. 5 by the template 'for every input the law returns true; each argument reads behind the call as it read before'; 0 by the template 'total and deterministic' (their statements: YtdbdfionanlogaaDoorTotals.lean).
  GIVEN WITH THE SEED: the statements are not yours to turn. If you find one false, say at which input.
  Laid BY PROGRAM, IN A SANDBOX (cutbox-rows.mjs): the forced cells as the released guide's own fill.sh prints them over the translation 384e6960662a3fb3… (all of the seat's roots in one cut). By AI agents, Wed Nov 11 2026. No macro, syntax, notation, axiom, sorry.
-/
import Derived.Test.YtdbdfionanlogaaDoorChecked
import GoSem.Claim
import GoSem.ClaimJoined
import GoSem.ClaimMapViews
import Derived.JoinedTies
import Derived.KernelRfl
namespace Go.Proofs.YtdbdfionanlogaaDoor
/- THE CELL 'sum', in the pinned program and in every row, IS THE sha256 OF THE DUMP (.gsa) THAT YtdbdfionanlogaaDoorProg.lean LOADS. Nothing in Lean hashes anything: it is a label: what it is worth is what the hold of that sum in a sandbox is worth. -/
noncomputable def Tryd.pinned : Pinned := { name := "ytdbdfionanlogaadoor", sum := "384e6960662a3fb3adf69a2dfc00f81d9c967aebf0295caabf2163d6f6eeb9d6", checked := Tryd.checked }
namespace Rows
def none {H : Type} : Left H := { results := [], args := [] }

/- WHAT THE LISTED PACKAGE-LEVEL VARIABLES READ AS WHEN THE CALL BEGINS. Each datum BY PROGRAM (the guide's laid-datum.mjs) off the statement by which the dump's own 'gosem.cut.vars' lays the variable. In a bare row this is a premise. The card (YtdbdfionanlogaaDoorCards.lean) ties it to the program's text. -/
def laid_loop_example_datenotation_impl_monthDays {H : Type} : DataW H := .agg [.lit (.int .i64 31), .lit (.int .i64 28), .lit (.int .i64 31), .lit (.int .i64 30), .lit (.int .i64 31), .lit (.int .i64 30), .lit (.int .i64 31), .lit (.int .i64 31), .lit (.int .i64 30), .lit (.int .i64 31), .lit (.int .i64 30), .lit (.int .i64 31)]

/-- 'laws.FnExactMonthDays': WHATEVER THE INPUT: true; the input reads as it did. -/
def fnExactMonthDaysSpec : ChangeSpec := { name := "fnExactMonthDays", vars := ["loop.example/datenotation/impl.monthDays"], fn := fun _ => fun
  | [d1, d2, g1] => { results := [.lit (.bool true)], args := [d1, d2], vars := [g1] }
  | _ => none }
def fnExactMonthDaysRow : OpenClaim := { program := "ytdbdfionanlogaadoor", sum := "384e6960662a3fb3adf69a2dfc00f81d9c967aebf0295caabf2163d6f6eeb9d6", func := "loop.example/datenotation/laws.FnExactMonthDays", spec := "fnExactMonthDays", named := ["loop.example/datenotation/impl.monthDays"], apart := false, laid := [("loop.example/datenotation/impl.monthDays", laid_loop_example_datenotation_impl_monthDays)] }
def FnExactMonthDaysSaid : Prop := fnExactMonthDaysRow.holds Tryd.pinned (OpenSpec.ofChange fnExactMonthDaysSpec)

/-- ITS FALSE NEIGHBOUR: 'it returns false'. Refute it at one input. -/
def fnExactMonthDaysWrong : ChangeSpec := { name := "fnExactMonthDays", vars := ["loop.example/datenotation/impl.monthDays"], fn := fun _ => fun
  | [d1, d2, g1] => { results := [.lit (.bool false)], args := [d1, d2], vars := [g1] }
  | _ => none }
def FnExactMonthDaysWrongFalsely : Prop := fnExactMonthDaysRow.holds Tryd.pinned (OpenSpec.ofChange fnExactMonthDaysWrong)

/-- 'laws.FnLeap': WHATEVER THE INPUT: true; the input reads as it did. -/
def fnLeapSpec : ChangeSpec := { name := "fnLeap", vars := ["loop.example/datenotation/impl.monthDays"], fn := fun _ => fun
  | [d, g1] => { results := [.lit (.bool true)], args := [d], vars := [g1] }
  | _ => none }
def fnLeapRow : OpenClaim := { program := "ytdbdfionanlogaadoor", sum := "384e6960662a3fb3adf69a2dfc00f81d9c967aebf0295caabf2163d6f6eeb9d6", func := "loop.example/datenotation/laws.FnLeap", spec := "fnLeap", named := ["loop.example/datenotation/impl.monthDays"], apart := false, laid := [("loop.example/datenotation/impl.monthDays", laid_loop_example_datenotation_impl_monthDays)] }
def FnLeapSaid : Prop := fnLeapRow.holds Tryd.pinned (OpenSpec.ofChange fnLeapSpec)

/-- ITS FALSE NEIGHBOUR: 'it returns false'. Refute it at one input. -/
def fnLeapWrong : ChangeSpec := { name := "fnLeap", vars := ["loop.example/datenotation/impl.monthDays"], fn := fun _ => fun
  | [d, g1] => { results := [.lit (.bool false)], args := [d], vars := [g1] }
  | _ => none }
def FnLeapWrongFalsely : Prop := fnLeapRow.holds Tryd.pinned (OpenSpec.ofChange fnLeapWrong)

/-- 'laws.FnYearDays': WHATEVER THE INPUT: true; the input reads as it did. -/
def fnYearDaysSpec : ChangeSpec := { name := "fnYearDays", vars := ["loop.example/datenotation/impl.monthDays"], fn := fun _ => fun
  | [d, g1] => { results := [.lit (.bool true)], args := [d], vars := [g1] }
  | _ => none }
def fnYearDaysRow : OpenClaim := { program := "ytdbdfionanlogaadoor", sum := "384e6960662a3fb3adf69a2dfc00f81d9c967aebf0295caabf2163d6f6eeb9d6", func := "loop.example/datenotation/laws.FnYearDays", spec := "fnYearDays", named := ["loop.example/datenotation/impl.monthDays"], apart := false, laid := [("loop.example/datenotation/impl.monthDays", laid_loop_example_datenotation_impl_monthDays)] }
def FnYearDaysSaid : Prop := fnYearDaysRow.holds Tryd.pinned (OpenSpec.ofChange fnYearDaysSpec)

/-- ITS FALSE NEIGHBOUR: 'it returns false'. Refute it at one input. -/
def fnYearDaysWrong : ChangeSpec := { name := "fnYearDays", vars := ["loop.example/datenotation/impl.monthDays"], fn := fun _ => fun
  | [d, g1] => { results := [.lit (.bool false)], args := [d], vars := [g1] }
  | _ => none }
def FnYearDaysWrongFalsely : Prop := fnYearDaysRow.holds Tryd.pinned (OpenSpec.ofChange fnYearDaysWrong)

/-- 'laws.FnMonthDays': WHATEVER THE INPUT: true; the input reads as it did. -/
def fnMonthDaysSpec : ChangeSpec := { name := "fnMonthDays", vars := ["loop.example/datenotation/impl.monthDays"], fn := fun _ => fun
  | [d, g1] => { results := [.lit (.bool true)], args := [d], vars := [g1] }
  | _ => none }
def fnMonthDaysRow : OpenClaim := { program := "ytdbdfionanlogaadoor", sum := "384e6960662a3fb3adf69a2dfc00f81d9c967aebf0295caabf2163d6f6eeb9d6", func := "loop.example/datenotation/laws.FnMonthDays", spec := "fnMonthDays", named := ["loop.example/datenotation/impl.monthDays"], apart := false, laid := [("loop.example/datenotation/impl.monthDays", laid_loop_example_datenotation_impl_monthDays)] }
def FnMonthDaysSaid : Prop := fnMonthDaysRow.holds Tryd.pinned (OpenSpec.ofChange fnMonthDaysSpec)

/-- ITS FALSE NEIGHBOUR: 'it returns false'. Refute it at one input. -/
def fnMonthDaysWrong : ChangeSpec := { name := "fnMonthDays", vars := ["loop.example/datenotation/impl.monthDays"], fn := fun _ => fun
  | [d, g1] => { results := [.lit (.bool false)], args := [d], vars := [g1] }
  | _ => none }
def FnMonthDaysWrongFalsely : Prop := fnMonthDaysRow.holds Tryd.pinned (OpenSpec.ofChange fnMonthDaysWrong)

/-- 'laws.FnExactDateValid': WHATEVER THE INPUT: true; the input reads as it did. -/
def fnExactDateValidSpec : ChangeSpec := { name := "fnExactDateValid", vars := ["loop.example/datenotation/impl.monthDays"], fn := fun _ => fun
  | [d, g1] => { results := [.lit (.bool true)], args := [d], vars := [g1] }
  | _ => none }
def fnExactDateValidRow : OpenClaim := { program := "ytdbdfionanlogaadoor", sum := "384e6960662a3fb3adf69a2dfc00f81d9c967aebf0295caabf2163d6f6eeb9d6", func := "loop.example/datenotation/laws.FnExactDateValid", spec := "fnExactDateValid", named := ["loop.example/datenotation/impl.monthDays"], apart := false, laid := [("loop.example/datenotation/impl.monthDays", laid_loop_example_datenotation_impl_monthDays)] }
def FnExactDateValidSaid : Prop := fnExactDateValidRow.holds Tryd.pinned (OpenSpec.ofChange fnExactDateValidSpec)

/-- ITS FALSE NEIGHBOUR: 'it returns false'. Refute it at one input. -/
def fnExactDateValidWrong : ChangeSpec := { name := "fnExactDateValid", vars := ["loop.example/datenotation/impl.monthDays"], fn := fun _ => fun
  | [d, g1] => { results := [.lit (.bool false)], args := [d], vars := [g1] }
  | _ => none }
def FnExactDateValidWrongFalsely : Prop := fnExactDateValidRow.holds Tryd.pinned (OpenSpec.ofChange fnExactDateValidWrong)

/- THE SECOND FORM. 'bulk': how many values and letters a reading holds, each counted each time it is reached (what is shared counts as often as it is met; a slice's spare places count too). A statement '..UptoSaid' is the law's where the arguments, and the package variables that the reading takes, are together of bulk at most 1048576: NARROWER than '..Said'. Prove '..Said' where nothing that the law and all that it calls make is longer than what came in: it says more and counts as full. Else prove '..UptoSaid'. A law counts once. -/
mutual
def uptoBulk {H : Type} : DataW H → Nat
  | .lit (.string bytes) => bytes.length + 1
  | .lit _ => 1
  | .nil => 1
  | .ptr d => uptoBulk d + 1
  | .slice elems spare => uptoBulkAll elems + uptoBulkAll spare + 1
  | .agg parts => uptoBulkAll parts + 1
  | .iface _ d => uptoBulk d + 1
  | .map entries => uptoBulkEntries entries + 1
  | .held _ => 1
def uptoBulkAll {H : Type} : List (DataW H) → Nat
  | [] => 0
  | d :: r => uptoBulk d + uptoBulkAll r
def uptoBulkEntries {H : Type} : List (Lit × DataW H) → Nat
  | [] => 0
  | x :: r => uptoBulkEntry x + uptoBulkEntries r
def uptoBulkEntry {H : Type} : Lit × DataW H → Nat
  | (.string bytes, d) => bytes.length + uptoBulk d + 1
  | (_, d) => uptoBulk d + 1
 end
def uptoSmall : (H : Type) → List (DataW H) → Bool := fun _ ds => decide (uptoBulkAll ds ≤ 1048576)
def OpenSpec.upto (s : _root_.Go.ChangeSpec) : _root_.Go.OpenSpec := { _root_.Go.OpenSpec.ofChange s with cond := some uptoSmall }

/-- 'laws.FnExactMonthDays', WHERE WHAT IT READS IS OF BULK AT MOST 1048576: true; the input reads as it did. -/
def fnExactMonthDaysUptoRow : OpenClaim := { program := "ytdbdfionanlogaadoor", sum := "384e6960662a3fb3adf69a2dfc00f81d9c967aebf0295caabf2163d6f6eeb9d6", func := "loop.example/datenotation/laws.FnExactMonthDays", spec := "fnExactMonthDays", named := ["loop.example/datenotation/impl.monthDays"], apart := false, laid := [("loop.example/datenotation/impl.monthDays", laid_loop_example_datenotation_impl_monthDays)], narrowed := true }
def FnExactMonthDaysUptoSaid : Prop := fnExactMonthDaysUptoRow.holds Tryd.pinned (OpenSpec.upto fnExactMonthDaysSpec)

/-- 'laws.FnLeap', WHERE WHAT IT READS IS OF BULK AT MOST 1048576: true; the input reads as it did. -/
def fnLeapUptoRow : OpenClaim := { program := "ytdbdfionanlogaadoor", sum := "384e6960662a3fb3adf69a2dfc00f81d9c967aebf0295caabf2163d6f6eeb9d6", func := "loop.example/datenotation/laws.FnLeap", spec := "fnLeap", named := ["loop.example/datenotation/impl.monthDays"], apart := false, laid := [("loop.example/datenotation/impl.monthDays", laid_loop_example_datenotation_impl_monthDays)], narrowed := true }
def FnLeapUptoSaid : Prop := fnLeapUptoRow.holds Tryd.pinned (OpenSpec.upto fnLeapSpec)

/-- 'laws.FnYearDays', WHERE WHAT IT READS IS OF BULK AT MOST 1048576: true; the input reads as it did. -/
def fnYearDaysUptoRow : OpenClaim := { program := "ytdbdfionanlogaadoor", sum := "384e6960662a3fb3adf69a2dfc00f81d9c967aebf0295caabf2163d6f6eeb9d6", func := "loop.example/datenotation/laws.FnYearDays", spec := "fnYearDays", named := ["loop.example/datenotation/impl.monthDays"], apart := false, laid := [("loop.example/datenotation/impl.monthDays", laid_loop_example_datenotation_impl_monthDays)], narrowed := true }
def FnYearDaysUptoSaid : Prop := fnYearDaysUptoRow.holds Tryd.pinned (OpenSpec.upto fnYearDaysSpec)

/-- 'laws.FnMonthDays', WHERE WHAT IT READS IS OF BULK AT MOST 1048576: true; the input reads as it did. -/
def fnMonthDaysUptoRow : OpenClaim := { program := "ytdbdfionanlogaadoor", sum := "384e6960662a3fb3adf69a2dfc00f81d9c967aebf0295caabf2163d6f6eeb9d6", func := "loop.example/datenotation/laws.FnMonthDays", spec := "fnMonthDays", named := ["loop.example/datenotation/impl.monthDays"], apart := false, laid := [("loop.example/datenotation/impl.monthDays", laid_loop_example_datenotation_impl_monthDays)], narrowed := true }
def FnMonthDaysUptoSaid : Prop := fnMonthDaysUptoRow.holds Tryd.pinned (OpenSpec.upto fnMonthDaysSpec)

/-- 'laws.FnExactDateValid', WHERE WHAT IT READS IS OF BULK AT MOST 1048576: true; the input reads as it did. -/
def fnExactDateValidUptoRow : OpenClaim := { program := "ytdbdfionanlogaadoor", sum := "384e6960662a3fb3adf69a2dfc00f81d9c967aebf0295caabf2163d6f6eeb9d6", func := "loop.example/datenotation/laws.FnExactDateValid", spec := "fnExactDateValid", named := ["loop.example/datenotation/impl.monthDays"], apart := false, laid := [("loop.example/datenotation/impl.monthDays", laid_loop_example_datenotation_impl_monthDays)], narrowed := true }
def FnExactDateValidUptoSaid : Prop := fnExactDateValidUptoRow.holds Tryd.pinned (OpenSpec.upto fnExactDateValidSpec)

end Rows
end Go.Proofs.YtdbdfionanlogaaDoor
