/-
  NARROWER THAN 'FOR EVERY INPUT', by the rows' own cells (each row's printed sentence says how): FnExactDayNumber: laid · FnExactDateOf: laid · FnNumberLater: laid · FnNumber: laid · FnDateOf: laid · FnDateOfWhen: laid · FnDateNext: laid · FnExactOrdinalOf: laid · FnExactOrdinalDate: laid · FnOrdinalLast: laid · FnOrdinalFirst: laid · FnOrdinal: laid · FnOrdinalDate: laid.
  DERIVED. THE GIVEN ROWS OF THIS SEAT. 13 by the template 'for every input the law returns true; each argument reads behind the call as it read before'; 0 by the template 'total and deterministic' (their statements: YtdpjhgkiccmnoaaDoorTotals.lean).
  GIVEN WITH THE SEED: the statements are not yours to turn. If you find one false, say at which input.
  Laid BY PROGRAM, IN A SANDBOX (cutbox-rows.mjs): the forced cells as the released guide's own fill.sh prints them over the translation 5c0ccc1005c6d777… (all of the seat's roots in one cut). By AI agents, Wed Nov 11 2026. No macro, syntax, notation, axiom, sorry.
-/
import Derived.Test.YtdpjhgkiccmnoaaDoorChecked
import GoSem.Claim
import GoSem.ClaimJoined
import GoSem.ClaimMapViews
import Derived.JoinedTies
import Derived.KernelRfl
namespace Go.Proofs.YtdpjhgkiccmnoaaDoor
/- THE CELL 'sum', in the pinned program and in every row, IS THE sha256 OF THE DUMP (.gsa) THAT YtdpjhgkiccmnoaaDoorProg.lean LOADS. Nothing in Lean hashes anything: it is a label: what it is worth is what the hold of that sum in a sandbox is worth. -/
noncomputable def Tryd.pinned : Pinned := { name := "ytdpjhgkiccmnoaadoor", sum := "5c0ccc1005c6d7779fdba7d71ee9103994edd61e408417928bef3e0d1ed51525", checked := Tryd.checked }
namespace Rows
def none {H : Type} : Left H := { results := [], args := [] }

/- WHAT THE LISTED PACKAGE-LEVEL VARIABLES READ AS WHEN THE CALL BEGINS. Each datum BY PROGRAM (the guide's laid-datum.mjs) off the statement by which the dump's own 'gosem.cut.vars' lays the variable. In a bare row this is a premise. The card (YtdpjhgkiccmnoaaDoorCards.lean) ties it to the program's text. -/
def laid_loop_example_datenotation_impl_monthDays {H : Type} : DataW H := .agg [.lit (.int .i64 31), .lit (.int .i64 28), .lit (.int .i64 31), .lit (.int .i64 30), .lit (.int .i64 31), .lit (.int .i64 30), .lit (.int .i64 31), .lit (.int .i64 31), .lit (.int .i64 30), .lit (.int .i64 31), .lit (.int .i64 30), .lit (.int .i64 31)]

/-- 'laws.FnExactDayNumber': WHATEVER THE INPUT: true; the input reads as it did. -/
def fnExactDayNumberSpec : ChangeSpec := { name := "fnExactDayNumber", vars := ["loop.example/datenotation/impl.monthDays"], fn := fun _ => fun
  | [d, g1] => { results := [.lit (.bool true)], args := [d], vars := [g1] }
  | _ => none }
def fnExactDayNumberRow : OpenClaim := { program := "ytdpjhgkiccmnoaadoor", sum := "5c0ccc1005c6d7779fdba7d71ee9103994edd61e408417928bef3e0d1ed51525", func := "loop.example/datenotation/laws.FnExactDayNumber", spec := "fnExactDayNumber", named := ["loop.example/datenotation/impl.monthDays"], apart := false, laid := [("loop.example/datenotation/impl.monthDays", laid_loop_example_datenotation_impl_monthDays)] }
def FnExactDayNumberSaid : Prop := fnExactDayNumberRow.holds Tryd.pinned (OpenSpec.ofChange fnExactDayNumberSpec)

/-- ITS FALSE NEIGHBOUR: 'it returns false'. Refute it at one input. -/
def fnExactDayNumberWrong : ChangeSpec := { name := "fnExactDayNumber", vars := ["loop.example/datenotation/impl.monthDays"], fn := fun _ => fun
  | [d, g1] => { results := [.lit (.bool false)], args := [d], vars := [g1] }
  | _ => none }
def FnExactDayNumberWrongFalsely : Prop := fnExactDayNumberRow.holds Tryd.pinned (OpenSpec.ofChange fnExactDayNumberWrong)

/-- 'laws.FnExactDateOf': WHATEVER THE INPUT: true; the input reads as it did. -/
def fnExactDateOfSpec : ChangeSpec := { name := "fnExactDateOf", vars := ["loop.example/datenotation/impl.monthDays"], fn := fun _ => fun
  | [d, g1] => { results := [.lit (.bool true)], args := [d], vars := [g1] }
  | _ => none }
def fnExactDateOfRow : OpenClaim := { program := "ytdpjhgkiccmnoaadoor", sum := "5c0ccc1005c6d7779fdba7d71ee9103994edd61e408417928bef3e0d1ed51525", func := "loop.example/datenotation/laws.FnExactDateOf", spec := "fnExactDateOf", named := ["loop.example/datenotation/impl.monthDays"], apart := false, laid := [("loop.example/datenotation/impl.monthDays", laid_loop_example_datenotation_impl_monthDays)] }
def FnExactDateOfSaid : Prop := fnExactDateOfRow.holds Tryd.pinned (OpenSpec.ofChange fnExactDateOfSpec)

/-- ITS FALSE NEIGHBOUR: 'it returns false'. Refute it at one input. -/
def fnExactDateOfWrong : ChangeSpec := { name := "fnExactDateOf", vars := ["loop.example/datenotation/impl.monthDays"], fn := fun _ => fun
  | [d, g1] => { results := [.lit (.bool false)], args := [d], vars := [g1] }
  | _ => none }
def FnExactDateOfWrongFalsely : Prop := fnExactDateOfRow.holds Tryd.pinned (OpenSpec.ofChange fnExactDateOfWrong)

/-- 'laws.FnNumberLater': WHATEVER THE INPUT: true; the input reads as it did. -/
def fnNumberLaterSpec : ChangeSpec := { name := "fnNumberLater", vars := ["loop.example/datenotation/impl.monthDays"], fn := fun _ => fun
  | [d, g1] => { results := [.lit (.bool true)], args := [d], vars := [g1] }
  | _ => none }
def fnNumberLaterRow : OpenClaim := { program := "ytdpjhgkiccmnoaadoor", sum := "5c0ccc1005c6d7779fdba7d71ee9103994edd61e408417928bef3e0d1ed51525", func := "loop.example/datenotation/laws.FnNumberLater", spec := "fnNumberLater", named := ["loop.example/datenotation/impl.monthDays"], apart := false, laid := [("loop.example/datenotation/impl.monthDays", laid_loop_example_datenotation_impl_monthDays)] }
def FnNumberLaterSaid : Prop := fnNumberLaterRow.holds Tryd.pinned (OpenSpec.ofChange fnNumberLaterSpec)

/-- ITS FALSE NEIGHBOUR: 'it returns false'. Refute it at one input. -/
def fnNumberLaterWrong : ChangeSpec := { name := "fnNumberLater", vars := ["loop.example/datenotation/impl.monthDays"], fn := fun _ => fun
  | [d, g1] => { results := [.lit (.bool false)], args := [d], vars := [g1] }
  | _ => none }
def FnNumberLaterWrongFalsely : Prop := fnNumberLaterRow.holds Tryd.pinned (OpenSpec.ofChange fnNumberLaterWrong)

/-- 'laws.FnNumber': WHATEVER THE INPUT: true; the input reads as it did. -/
def fnNumberSpec : ChangeSpec := { name := "fnNumber", vars := ["loop.example/datenotation/impl.monthDays"], fn := fun _ => fun
  | [d, g1] => { results := [.lit (.bool true)], args := [d], vars := [g1] }
  | _ => none }
def fnNumberRow : OpenClaim := { program := "ytdpjhgkiccmnoaadoor", sum := "5c0ccc1005c6d7779fdba7d71ee9103994edd61e408417928bef3e0d1ed51525", func := "loop.example/datenotation/laws.FnNumber", spec := "fnNumber", named := ["loop.example/datenotation/impl.monthDays"], apart := false, laid := [("loop.example/datenotation/impl.monthDays", laid_loop_example_datenotation_impl_monthDays)] }
def FnNumberSaid : Prop := fnNumberRow.holds Tryd.pinned (OpenSpec.ofChange fnNumberSpec)

/-- ITS FALSE NEIGHBOUR: 'it returns false'. Refute it at one input. -/
def fnNumberWrong : ChangeSpec := { name := "fnNumber", vars := ["loop.example/datenotation/impl.monthDays"], fn := fun _ => fun
  | [d, g1] => { results := [.lit (.bool false)], args := [d], vars := [g1] }
  | _ => none }
def FnNumberWrongFalsely : Prop := fnNumberRow.holds Tryd.pinned (OpenSpec.ofChange fnNumberWrong)

/-- 'laws.FnDateOf': WHATEVER THE INPUT: true; the input reads as it did. -/
def fnDateOfSpec : ChangeSpec := { name := "fnDateOf", vars := ["loop.example/datenotation/impl.monthDays"], fn := fun _ => fun
  | [d, g1] => { results := [.lit (.bool true)], args := [d], vars := [g1] }
  | _ => none }
def fnDateOfRow : OpenClaim := { program := "ytdpjhgkiccmnoaadoor", sum := "5c0ccc1005c6d7779fdba7d71ee9103994edd61e408417928bef3e0d1ed51525", func := "loop.example/datenotation/laws.FnDateOf", spec := "fnDateOf", named := ["loop.example/datenotation/impl.monthDays"], apart := false, laid := [("loop.example/datenotation/impl.monthDays", laid_loop_example_datenotation_impl_monthDays)] }
def FnDateOfSaid : Prop := fnDateOfRow.holds Tryd.pinned (OpenSpec.ofChange fnDateOfSpec)

/-- ITS FALSE NEIGHBOUR: 'it returns false'. Refute it at one input. -/
def fnDateOfWrong : ChangeSpec := { name := "fnDateOf", vars := ["loop.example/datenotation/impl.monthDays"], fn := fun _ => fun
  | [d, g1] => { results := [.lit (.bool false)], args := [d], vars := [g1] }
  | _ => none }
def FnDateOfWrongFalsely : Prop := fnDateOfRow.holds Tryd.pinned (OpenSpec.ofChange fnDateOfWrong)

/-- 'laws.FnDateOfWhen': WHATEVER THE INPUT: true; the input reads as it did. -/
def fnDateOfWhenSpec : ChangeSpec := { name := "fnDateOfWhen", vars := ["loop.example/datenotation/impl.monthDays"], fn := fun _ => fun
  | [d, g1] => { results := [.lit (.bool true)], args := [d], vars := [g1] }
  | _ => none }
def fnDateOfWhenRow : OpenClaim := { program := "ytdpjhgkiccmnoaadoor", sum := "5c0ccc1005c6d7779fdba7d71ee9103994edd61e408417928bef3e0d1ed51525", func := "loop.example/datenotation/laws.FnDateOfWhen", spec := "fnDateOfWhen", named := ["loop.example/datenotation/impl.monthDays"], apart := false, laid := [("loop.example/datenotation/impl.monthDays", laid_loop_example_datenotation_impl_monthDays)] }
def FnDateOfWhenSaid : Prop := fnDateOfWhenRow.holds Tryd.pinned (OpenSpec.ofChange fnDateOfWhenSpec)

/-- ITS FALSE NEIGHBOUR: 'it returns false'. Refute it at one input. -/
def fnDateOfWhenWrong : ChangeSpec := { name := "fnDateOfWhen", vars := ["loop.example/datenotation/impl.monthDays"], fn := fun _ => fun
  | [d, g1] => { results := [.lit (.bool false)], args := [d], vars := [g1] }
  | _ => none }
def FnDateOfWhenWrongFalsely : Prop := fnDateOfWhenRow.holds Tryd.pinned (OpenSpec.ofChange fnDateOfWhenWrong)

/-- 'laws.FnDateNext': WHATEVER THE INPUT: true; the input reads as it did. -/
def fnDateNextSpec : ChangeSpec := { name := "fnDateNext", vars := ["loop.example/datenotation/impl.monthDays"], fn := fun _ => fun
  | [d, g1] => { results := [.lit (.bool true)], args := [d], vars := [g1] }
  | _ => none }
def fnDateNextRow : OpenClaim := { program := "ytdpjhgkiccmnoaadoor", sum := "5c0ccc1005c6d7779fdba7d71ee9103994edd61e408417928bef3e0d1ed51525", func := "loop.example/datenotation/laws.FnDateNext", spec := "fnDateNext", named := ["loop.example/datenotation/impl.monthDays"], apart := false, laid := [("loop.example/datenotation/impl.monthDays", laid_loop_example_datenotation_impl_monthDays)] }
def FnDateNextSaid : Prop := fnDateNextRow.holds Tryd.pinned (OpenSpec.ofChange fnDateNextSpec)

/-- ITS FALSE NEIGHBOUR: 'it returns false'. Refute it at one input. -/
def fnDateNextWrong : ChangeSpec := { name := "fnDateNext", vars := ["loop.example/datenotation/impl.monthDays"], fn := fun _ => fun
  | [d, g1] => { results := [.lit (.bool false)], args := [d], vars := [g1] }
  | _ => none }
def FnDateNextWrongFalsely : Prop := fnDateNextRow.holds Tryd.pinned (OpenSpec.ofChange fnDateNextWrong)

/-- 'laws.FnExactOrdinalOf': WHATEVER THE INPUT: true; the input reads as it did. -/
def fnExactOrdinalOfSpec : ChangeSpec := { name := "fnExactOrdinalOf", vars := ["loop.example/datenotation/impl.monthDays"], fn := fun _ => fun
  | [d, g1] => { results := [.lit (.bool true)], args := [d], vars := [g1] }
  | _ => none }
def fnExactOrdinalOfRow : OpenClaim := { program := "ytdpjhgkiccmnoaadoor", sum := "5c0ccc1005c6d7779fdba7d71ee9103994edd61e408417928bef3e0d1ed51525", func := "loop.example/datenotation/laws.FnExactOrdinalOf", spec := "fnExactOrdinalOf", named := ["loop.example/datenotation/impl.monthDays"], apart := false, laid := [("loop.example/datenotation/impl.monthDays", laid_loop_example_datenotation_impl_monthDays)] }
def FnExactOrdinalOfSaid : Prop := fnExactOrdinalOfRow.holds Tryd.pinned (OpenSpec.ofChange fnExactOrdinalOfSpec)

/-- ITS FALSE NEIGHBOUR: 'it returns false'. Refute it at one input. -/
def fnExactOrdinalOfWrong : ChangeSpec := { name := "fnExactOrdinalOf", vars := ["loop.example/datenotation/impl.monthDays"], fn := fun _ => fun
  | [d, g1] => { results := [.lit (.bool false)], args := [d], vars := [g1] }
  | _ => none }
def FnExactOrdinalOfWrongFalsely : Prop := fnExactOrdinalOfRow.holds Tryd.pinned (OpenSpec.ofChange fnExactOrdinalOfWrong)

/-- 'laws.FnExactOrdinalDate': WHATEVER THE INPUT: true; the input reads as it did. -/
def fnExactOrdinalDateSpec : ChangeSpec := { name := "fnExactOrdinalDate", vars := ["loop.example/datenotation/impl.monthDays"], fn := fun _ => fun
  | [d1, d2, g1] => { results := [.lit (.bool true)], args := [d1, d2], vars := [g1] }
  | _ => none }
def fnExactOrdinalDateRow : OpenClaim := { program := "ytdpjhgkiccmnoaadoor", sum := "5c0ccc1005c6d7779fdba7d71ee9103994edd61e408417928bef3e0d1ed51525", func := "loop.example/datenotation/laws.FnExactOrdinalDate", spec := "fnExactOrdinalDate", named := ["loop.example/datenotation/impl.monthDays"], apart := false, laid := [("loop.example/datenotation/impl.monthDays", laid_loop_example_datenotation_impl_monthDays)] }
def FnExactOrdinalDateSaid : Prop := fnExactOrdinalDateRow.holds Tryd.pinned (OpenSpec.ofChange fnExactOrdinalDateSpec)

/-- ITS FALSE NEIGHBOUR: 'it returns false'. Refute it at one input. -/
def fnExactOrdinalDateWrong : ChangeSpec := { name := "fnExactOrdinalDate", vars := ["loop.example/datenotation/impl.monthDays"], fn := fun _ => fun
  | [d1, d2, g1] => { results := [.lit (.bool false)], args := [d1, d2], vars := [g1] }
  | _ => none }
def FnExactOrdinalDateWrongFalsely : Prop := fnExactOrdinalDateRow.holds Tryd.pinned (OpenSpec.ofChange fnExactOrdinalDateWrong)

/-- 'laws.FnOrdinalLast': WHATEVER THE INPUT: true; the input reads as it did. -/
def fnOrdinalLastSpec : ChangeSpec := { name := "fnOrdinalLast", vars := ["loop.example/datenotation/impl.monthDays"], fn := fun _ => fun
  | [d, g1] => { results := [.lit (.bool true)], args := [d], vars := [g1] }
  | _ => none }
def fnOrdinalLastRow : OpenClaim := { program := "ytdpjhgkiccmnoaadoor", sum := "5c0ccc1005c6d7779fdba7d71ee9103994edd61e408417928bef3e0d1ed51525", func := "loop.example/datenotation/laws.FnOrdinalLast", spec := "fnOrdinalLast", named := ["loop.example/datenotation/impl.monthDays"], apart := false, laid := [("loop.example/datenotation/impl.monthDays", laid_loop_example_datenotation_impl_monthDays)] }
def FnOrdinalLastSaid : Prop := fnOrdinalLastRow.holds Tryd.pinned (OpenSpec.ofChange fnOrdinalLastSpec)

/-- ITS FALSE NEIGHBOUR: 'it returns false'. Refute it at one input. -/
def fnOrdinalLastWrong : ChangeSpec := { name := "fnOrdinalLast", vars := ["loop.example/datenotation/impl.monthDays"], fn := fun _ => fun
  | [d, g1] => { results := [.lit (.bool false)], args := [d], vars := [g1] }
  | _ => none }
def FnOrdinalLastWrongFalsely : Prop := fnOrdinalLastRow.holds Tryd.pinned (OpenSpec.ofChange fnOrdinalLastWrong)

/-- 'laws.FnOrdinalFirst': WHATEVER THE INPUT: true; the input reads as it did. -/
def fnOrdinalFirstSpec : ChangeSpec := { name := "fnOrdinalFirst", vars := ["loop.example/datenotation/impl.monthDays"], fn := fun _ => fun
  | [d, g1] => { results := [.lit (.bool true)], args := [d], vars := [g1] }
  | _ => none }
def fnOrdinalFirstRow : OpenClaim := { program := "ytdpjhgkiccmnoaadoor", sum := "5c0ccc1005c6d7779fdba7d71ee9103994edd61e408417928bef3e0d1ed51525", func := "loop.example/datenotation/laws.FnOrdinalFirst", spec := "fnOrdinalFirst", named := ["loop.example/datenotation/impl.monthDays"], apart := false, laid := [("loop.example/datenotation/impl.monthDays", laid_loop_example_datenotation_impl_monthDays)] }
def FnOrdinalFirstSaid : Prop := fnOrdinalFirstRow.holds Tryd.pinned (OpenSpec.ofChange fnOrdinalFirstSpec)

/-- ITS FALSE NEIGHBOUR: 'it returns false'. Refute it at one input. -/
def fnOrdinalFirstWrong : ChangeSpec := { name := "fnOrdinalFirst", vars := ["loop.example/datenotation/impl.monthDays"], fn := fun _ => fun
  | [d, g1] => { results := [.lit (.bool false)], args := [d], vars := [g1] }
  | _ => none }
def FnOrdinalFirstWrongFalsely : Prop := fnOrdinalFirstRow.holds Tryd.pinned (OpenSpec.ofChange fnOrdinalFirstWrong)

/-- 'laws.FnOrdinal': WHATEVER THE INPUT: true; the input reads as it did. -/
def fnOrdinalSpec : ChangeSpec := { name := "fnOrdinal", vars := ["loop.example/datenotation/impl.monthDays"], fn := fun _ => fun
  | [d, g1] => { results := [.lit (.bool true)], args := [d], vars := [g1] }
  | _ => none }
def fnOrdinalRow : OpenClaim := { program := "ytdpjhgkiccmnoaadoor", sum := "5c0ccc1005c6d7779fdba7d71ee9103994edd61e408417928bef3e0d1ed51525", func := "loop.example/datenotation/laws.FnOrdinal", spec := "fnOrdinal", named := ["loop.example/datenotation/impl.monthDays"], apart := false, laid := [("loop.example/datenotation/impl.monthDays", laid_loop_example_datenotation_impl_monthDays)] }
def FnOrdinalSaid : Prop := fnOrdinalRow.holds Tryd.pinned (OpenSpec.ofChange fnOrdinalSpec)

/-- ITS FALSE NEIGHBOUR: 'it returns false'. Refute it at one input. -/
def fnOrdinalWrong : ChangeSpec := { name := "fnOrdinal", vars := ["loop.example/datenotation/impl.monthDays"], fn := fun _ => fun
  | [d, g1] => { results := [.lit (.bool false)], args := [d], vars := [g1] }
  | _ => none }
def FnOrdinalWrongFalsely : Prop := fnOrdinalRow.holds Tryd.pinned (OpenSpec.ofChange fnOrdinalWrong)

/-- 'laws.FnOrdinalDate': WHATEVER THE INPUT: true; the input reads as it did. -/
def fnOrdinalDateSpec : ChangeSpec := { name := "fnOrdinalDate", vars := ["loop.example/datenotation/impl.monthDays"], fn := fun _ => fun
  | [d, g1] => { results := [.lit (.bool true)], args := [d], vars := [g1] }
  | _ => none }
def fnOrdinalDateRow : OpenClaim := { program := "ytdpjhgkiccmnoaadoor", sum := "5c0ccc1005c6d7779fdba7d71ee9103994edd61e408417928bef3e0d1ed51525", func := "loop.example/datenotation/laws.FnOrdinalDate", spec := "fnOrdinalDate", named := ["loop.example/datenotation/impl.monthDays"], apart := false, laid := [("loop.example/datenotation/impl.monthDays", laid_loop_example_datenotation_impl_monthDays)] }
def FnOrdinalDateSaid : Prop := fnOrdinalDateRow.holds Tryd.pinned (OpenSpec.ofChange fnOrdinalDateSpec)

/-- ITS FALSE NEIGHBOUR: 'it returns false'. Refute it at one input. -/
def fnOrdinalDateWrong : ChangeSpec := { name := "fnOrdinalDate", vars := ["loop.example/datenotation/impl.monthDays"], fn := fun _ => fun
  | [d, g1] => { results := [.lit (.bool false)], args := [d], vars := [g1] }
  | _ => none }
def FnOrdinalDateWrongFalsely : Prop := fnOrdinalDateRow.holds Tryd.pinned (OpenSpec.ofChange fnOrdinalDateWrong)

/- THE SECOND FORM. 'bulk': how many values and letters a reading holds, each counted each time it is reached (what is shared counts as often as it is met; a slice's spare places count too). A statement '..UptoSaid' is the law's where the arguments, and the package variables that the reading takes, are together of bulk at most 1048576: NARROWER than '..Said'. Prove '..Said' where nothing that the law and all that it calls make is longer than what came in: it says more and counts as full. Else prove '..UptoSaid'. A law counts once. -/
mutual
def uptoBulk {H : Type} : DataW H → Nat
  | .lit (.string bytes) => bytes.length + 1
  | .lit _ => 1
  | .nil => 1
  | .ptr d => uptoBulk d + 1
  | .slice elems spare => uptoBulkAll elems + uptoBulkAll spare + 1
  | .agg parts => uptoBulkAll parts + 1
  | .iface _ d => uptoBulk d + 1
  | .map entries => uptoBulkEntries entries + 1
  | .held _ => 1
def uptoBulkAll {H : Type} : List (DataW H) → Nat
  | [] => 0
  | d :: r => uptoBulk d + uptoBulkAll r
def uptoBulkEntries {H : Type} : List (Lit × DataW H) → Nat
  | [] => 0
  | x :: r => uptoBulkEntry x + uptoBulkEntries r
def uptoBulkEntry {H : Type} : Lit × DataW H → Nat
  | (.string bytes, d) => bytes.length + uptoBulk d + 1
  | (_, d) => uptoBulk d + 1
 end
def uptoSmall : (H : Type) → List (DataW H) → Bool := fun _ ds => decide (uptoBulkAll ds ≤ 1048576)
def OpenSpec.upto (s : _root_.Go.ChangeSpec) : _root_.Go.OpenSpec := { _root_.Go.OpenSpec.ofChange s with cond := some uptoSmall }

/-- 'laws.FnExactDayNumber', WHERE WHAT IT READS IS OF BULK AT MOST 1048576: true; the input reads as it did. -/
def fnExactDayNumberUptoRow : OpenClaim := { program := "ytdpjhgkiccmnoaadoor", sum := "5c0ccc1005c6d7779fdba7d71ee9103994edd61e408417928bef3e0d1ed51525", func := "loop.example/datenotation/laws.FnExactDayNumber", spec := "fnExactDayNumber", named := ["loop.example/datenotation/impl.monthDays"], apart := false, laid := [("loop.example/datenotation/impl.monthDays", laid_loop_example_datenotation_impl_monthDays)], narrowed := true }
def FnExactDayNumberUptoSaid : Prop := fnExactDayNumberUptoRow.holds Tryd.pinned (OpenSpec.upto fnExactDayNumberSpec)

/-- 'laws.FnExactDateOf', WHERE WHAT IT READS IS OF BULK AT MOST 1048576: true; the input reads as it did. -/
def fnExactDateOfUptoRow : OpenClaim := { program := "ytdpjhgkiccmnoaadoor", sum := "5c0ccc1005c6d7779fdba7d71ee9103994edd61e408417928bef3e0d1ed51525", func := "loop.example/datenotation/laws.FnExactDateOf", spec := "fnExactDateOf", named := ["loop.example/datenotation/impl.monthDays"], apart := false, laid := [("loop.example/datenotation/impl.monthDays", laid_loop_example_datenotation_impl_monthDays)], narrowed := true }
def FnExactDateOfUptoSaid : Prop := fnExactDateOfUptoRow.holds Tryd.pinned (OpenSpec.upto fnExactDateOfSpec)

/-- 'laws.FnNumberLater', WHERE WHAT IT READS IS OF BULK AT MOST 1048576: true; the input reads as it did. -/
def fnNumberLaterUptoRow : OpenClaim := { program := "ytdpjhgkiccmnoaadoor", sum := "5c0ccc1005c6d7779fdba7d71ee9103994edd61e408417928bef3e0d1ed51525", func := "loop.example/datenotation/laws.FnNumberLater", spec := "fnNumberLater", named := ["loop.example/datenotation/impl.monthDays"], apart := false, laid := [("loop.example/datenotation/impl.monthDays", laid_loop_example_datenotation_impl_monthDays)], narrowed := true }
def FnNumberLaterUptoSaid : Prop := fnNumberLaterUptoRow.holds Tryd.pinned (OpenSpec.upto fnNumberLaterSpec)

/-- 'laws.FnNumber', WHERE WHAT IT READS IS OF BULK AT MOST 1048576: true; the input reads as it did. -/
def fnNumberUptoRow : OpenClaim := { program := "ytdpjhgkiccmnoaadoor", sum := "5c0ccc1005c6d7779fdba7d71ee9103994edd61e408417928bef3e0d1ed51525", func := "loop.example/datenotation/laws.FnNumber", spec := "fnNumber", named := ["loop.example/datenotation/impl.monthDays"], apart := false, laid := [("loop.example/datenotation/impl.monthDays", laid_loop_example_datenotation_impl_monthDays)], narrowed := true }
def FnNumberUptoSaid : Prop := fnNumberUptoRow.holds Tryd.pinned (OpenSpec.upto fnNumberSpec)

/-- 'laws.FnDateOf', WHERE WHAT IT READS IS OF BULK AT MOST 1048576: true; the input reads as it did. -/
def fnDateOfUptoRow : OpenClaim := { program := "ytdpjhgkiccmnoaadoor", sum := "5c0ccc1005c6d7779fdba7d71ee9103994edd61e408417928bef3e0d1ed51525", func := "loop.example/datenotation/laws.FnDateOf", spec := "fnDateOf", named := ["loop.example/datenotation/impl.monthDays"], apart := false, laid := [("loop.example/datenotation/impl.monthDays", laid_loop_example_datenotation_impl_monthDays)], narrowed := true }
def FnDateOfUptoSaid : Prop := fnDateOfUptoRow.holds Tryd.pinned (OpenSpec.upto fnDateOfSpec)

/-- 'laws.FnDateOfWhen', WHERE WHAT IT READS IS OF BULK AT MOST 1048576: true; the input reads as it did. -/
def fnDateOfWhenUptoRow : OpenClaim := { program := "ytdpjhgkiccmnoaadoor", sum := "5c0ccc1005c6d7779fdba7d71ee9103994edd61e408417928bef3e0d1ed51525", func := "loop.example/datenotation/laws.FnDateOfWhen", spec := "fnDateOfWhen", named := ["loop.example/datenotation/impl.monthDays"], apart := false, laid := [("loop.example/datenotation/impl.monthDays", laid_loop_example_datenotation_impl_monthDays)], narrowed := true }
def FnDateOfWhenUptoSaid : Prop := fnDateOfWhenUptoRow.holds Tryd.pinned (OpenSpec.upto fnDateOfWhenSpec)

/-- 'laws.FnDateNext', WHERE WHAT IT READS IS OF BULK AT MOST 1048576: true; the input reads as it did. -/
def fnDateNextUptoRow : OpenClaim := { program := "ytdpjhgkiccmnoaadoor", sum := "5c0ccc1005c6d7779fdba7d71ee9103994edd61e408417928bef3e0d1ed51525", func := "loop.example/datenotation/laws.FnDateNext", spec := "fnDateNext", named := ["loop.example/datenotation/impl.monthDays"], apart := false, laid := [("loop.example/datenotation/impl.monthDays", laid_loop_example_datenotation_impl_monthDays)], narrowed := true }
def FnDateNextUptoSaid : Prop := fnDateNextUptoRow.holds Tryd.pinned (OpenSpec.upto fnDateNextSpec)

/-- 'laws.FnExactOrdinalOf', WHERE WHAT IT READS IS OF BULK AT MOST 1048576: true; the input reads as it did. -/
def fnExactOrdinalOfUptoRow : OpenClaim := { program := "ytdpjhgkiccmnoaadoor", sum := "5c0ccc1005c6d7779fdba7d71ee9103994edd61e408417928bef3e0d1ed51525", func := "loop.example/datenotation/laws.FnExactOrdinalOf", spec := "fnExactOrdinalOf", named := ["loop.example/datenotation/impl.monthDays"], apart := false, laid := [("loop.example/datenotation/impl.monthDays", laid_loop_example_datenotation_impl_monthDays)], narrowed := true }
def FnExactOrdinalOfUptoSaid : Prop := fnExactOrdinalOfUptoRow.holds Tryd.pinned (OpenSpec.upto fnExactOrdinalOfSpec)

/-- 'laws.FnExactOrdinalDate', WHERE WHAT IT READS IS OF BULK AT MOST 1048576: true; the input reads as it did. -/
def fnExactOrdinalDateUptoRow : OpenClaim := { program := "ytdpjhgkiccmnoaadoor", sum := "5c0ccc1005c6d7779fdba7d71ee9103994edd61e408417928bef3e0d1ed51525", func := "loop.example/datenotation/laws.FnExactOrdinalDate", spec := "fnExactOrdinalDate", named := ["loop.example/datenotation/impl.monthDays"], apart := false, laid := [("loop.example/datenotation/impl.monthDays", laid_loop_example_datenotation_impl_monthDays)], narrowed := true }
def FnExactOrdinalDateUptoSaid : Prop := fnExactOrdinalDateUptoRow.holds Tryd.pinned (OpenSpec.upto fnExactOrdinalDateSpec)

/-- 'laws.FnOrdinalLast', WHERE WHAT IT READS IS OF BULK AT MOST 1048576: true; the input reads as it did. -/
def fnOrdinalLastUptoRow : OpenClaim := { program := "ytdpjhgkiccmnoaadoor", sum := "5c0ccc1005c6d7779fdba7d71ee9103994edd61e408417928bef3e0d1ed51525", func := "loop.example/datenotation/laws.FnOrdinalLast", spec := "fnOrdinalLast", named := ["loop.example/datenotation/impl.monthDays"], apart := false, laid := [("loop.example/datenotation/impl.monthDays", laid_loop_example_datenotation_impl_monthDays)], narrowed := true }
def FnOrdinalLastUptoSaid : Prop := fnOrdinalLastUptoRow.holds Tryd.pinned (OpenSpec.upto fnOrdinalLastSpec)

/-- 'laws.FnOrdinalFirst', WHERE WHAT IT READS IS OF BULK AT MOST 1048576: true; the input reads as it did. -/
def fnOrdinalFirstUptoRow : OpenClaim := { program := "ytdpjhgkiccmnoaadoor", sum := "5c0ccc1005c6d7779fdba7d71ee9103994edd61e408417928bef3e0d1ed51525", func := "loop.example/datenotation/laws.FnOrdinalFirst", spec := "fnOrdinalFirst", named := ["loop.example/datenotation/impl.monthDays"], apart := false, laid := [("loop.example/datenotation/impl.monthDays", laid_loop_example_datenotation_impl_monthDays)], narrowed := true }
def FnOrdinalFirstUptoSaid : Prop := fnOrdinalFirstUptoRow.holds Tryd.pinned (OpenSpec.upto fnOrdinalFirstSpec)

/-- 'laws.FnOrdinal', WHERE WHAT IT READS IS OF BULK AT MOST 1048576: true; the input reads as it did. -/
def fnOrdinalUptoRow : OpenClaim := { program := "ytdpjhgkiccmnoaadoor", sum := "5c0ccc1005c6d7779fdba7d71ee9103994edd61e408417928bef3e0d1ed51525", func := "loop.example/datenotation/laws.FnOrdinal", spec := "fnOrdinal", named := ["loop.example/datenotation/impl.monthDays"], apart := false, laid := [("loop.example/datenotation/impl.monthDays", laid_loop_example_datenotation_impl_monthDays)], narrowed := true }
def FnOrdinalUptoSaid : Prop := fnOrdinalUptoRow.holds Tryd.pinned (OpenSpec.upto fnOrdinalSpec)

/-- 'laws.FnOrdinalDate', WHERE WHAT IT READS IS OF BULK AT MOST 1048576: true; the input reads as it did. -/
def fnOrdinalDateUptoRow : OpenClaim := { program := "ytdpjhgkiccmnoaadoor", sum := "5c0ccc1005c6d7779fdba7d71ee9103994edd61e408417928bef3e0d1ed51525", func := "loop.example/datenotation/laws.FnOrdinalDate", spec := "fnOrdinalDate", named := ["loop.example/datenotation/impl.monthDays"], apart := false, laid := [("loop.example/datenotation/impl.monthDays", laid_loop_example_datenotation_impl_monthDays)], narrowed := true }
def FnOrdinalDateUptoSaid : Prop := fnOrdinalDateUptoRow.holds Tryd.pinned (OpenSpec.upto fnOrdinalDateSpec)

end Rows
end Go.Proofs.YtdpjhgkiccmnoaaDoor
