/-
  NARROWER THAN 'FOR EVERY INPUT', by the rows' own cells (each row's printed sentence says how): FnExactWeekday: laid · FnExactWeekOf: laid · FnExactWeekDate: laid · FnWeeksLong: laid · FnWeekdayFirst: laid · FnWeekday: laid · FnWeekOfAll: laid · FnWeekDateNext: laid · FnWeekMonday: laid · FnWeekDate: laid · FnWeekOfNear: laid · FnWeekOf: laid.
  DERIVED. THE GIVEN ROWS OF THIS SEAT. 12 by the template 'for every input the law returns true; each argument reads behind the call as it read before'; 0 by the template 'total and deterministic' (their statements: YtjgpfadoebnchaaDoorTotals.lean).
  GIVEN WITH THE SEED: the statements are not yours to turn. If you find one false, say at which input.
  Laid BY PROGRAM, IN A SANDBOX (cutbox-rows.mjs): the forced cells as the released guide's own fill.sh prints them over the translation 6921d61082bcb4a0… (all of the seat's roots in one cut). By AI agents, Wed Nov 11 2026. No macro, syntax, notation, axiom, sorry.
-/
import Derived.Test.YtjgpfadoebnchaaDoorChecked
import GoSem.Claim
import GoSem.ClaimJoined
import GoSem.ClaimMapViews
import Derived.JoinedTies
import Derived.KernelRfl
namespace Go.Proofs.YtjgpfadoebnchaaDoor
/- THE CELL 'sum', in the pinned program and in every row, IS THE sha256 OF THE DUMP (.gsa) THAT YtjgpfadoebnchaaDoorProg.lean LOADS. Nothing in Lean hashes anything: it is a label: what it is worth is what the hold of that sum in a sandbox is worth. -/
noncomputable def Tryd.pinned : Pinned := { name := "ytjgpfadoebnchaadoor", sum := "6921d61082bcb4a00133193083b409cda306399e54f407bf3827b7149c58dcdf", checked := Tryd.checked }
namespace Rows
def none {H : Type} : Left H := { results := [], args := [] }

/- WHAT THE LISTED PACKAGE-LEVEL VARIABLES READ AS WHEN THE CALL BEGINS. Each datum BY PROGRAM (the guide's laid-datum.mjs) off the statement by which the dump's own 'gosem.cut.vars' lays the variable. In a bare row this is a premise. The card (YtjgpfadoebnchaaDoorCards.lean) ties it to the program's text. -/
def laid_loop_example_datenotation_impl_monthDays {H : Type} : DataW H := .agg [.lit (.int .i64 31), .lit (.int .i64 28), .lit (.int .i64 31), .lit (.int .i64 30), .lit (.int .i64 31), .lit (.int .i64 30), .lit (.int .i64 31), .lit (.int .i64 31), .lit (.int .i64 30), .lit (.int .i64 31), .lit (.int .i64 30), .lit (.int .i64 31)]

/-- 'laws.FnExactWeekday': WHATEVER THE INPUT: true; the input reads as it did. -/
def fnExactWeekdaySpec : ChangeSpec := { name := "fnExactWeekday", vars := ["loop.example/datenotation/impl.monthDays"], fn := fun _ => fun
  | [d, g1] => { results := [.lit (.bool true)], args := [d], vars := [g1] }
  | _ => none }
def fnExactWeekdayRow : OpenClaim := { program := "ytjgpfadoebnchaadoor", sum := "6921d61082bcb4a00133193083b409cda306399e54f407bf3827b7149c58dcdf", func := "loop.example/datenotation/laws.FnExactWeekday", spec := "fnExactWeekday", named := ["loop.example/datenotation/impl.monthDays"], apart := false, laid := [("loop.example/datenotation/impl.monthDays", laid_loop_example_datenotation_impl_monthDays)] }
def FnExactWeekdaySaid : Prop := fnExactWeekdayRow.holds Tryd.pinned (OpenSpec.ofChange fnExactWeekdaySpec)

/-- ITS FALSE NEIGHBOUR: 'it returns false'. Refute it at one input. -/
def fnExactWeekdayWrong : ChangeSpec := { name := "fnExactWeekday", vars := ["loop.example/datenotation/impl.monthDays"], fn := fun _ => fun
  | [d, g1] => { results := [.lit (.bool false)], args := [d], vars := [g1] }
  | _ => none }
def FnExactWeekdayWrongFalsely : Prop := fnExactWeekdayRow.holds Tryd.pinned (OpenSpec.ofChange fnExactWeekdayWrong)

/-- 'laws.FnExactWeekOf': WHATEVER THE INPUT: true; the input reads as it did. -/
def fnExactWeekOfSpec : ChangeSpec := { name := "fnExactWeekOf", vars := ["loop.example/datenotation/impl.monthDays"], fn := fun _ => fun
  | [d, g1] => { results := [.lit (.bool true)], args := [d], vars := [g1] }
  | _ => none }
def fnExactWeekOfRow : OpenClaim := { program := "ytjgpfadoebnchaadoor", sum := "6921d61082bcb4a00133193083b409cda306399e54f407bf3827b7149c58dcdf", func := "loop.example/datenotation/laws.FnExactWeekOf", spec := "fnExactWeekOf", named := ["loop.example/datenotation/impl.monthDays"], apart := false, laid := [("loop.example/datenotation/impl.monthDays", laid_loop_example_datenotation_impl_monthDays)] }
def FnExactWeekOfSaid : Prop := fnExactWeekOfRow.holds Tryd.pinned (OpenSpec.ofChange fnExactWeekOfSpec)

/-- ITS FALSE NEIGHBOUR: 'it returns false'. Refute it at one input. -/
def fnExactWeekOfWrong : ChangeSpec := { name := "fnExactWeekOf", vars := ["loop.example/datenotation/impl.monthDays"], fn := fun _ => fun
  | [d, g1] => { results := [.lit (.bool false)], args := [d], vars := [g1] }
  | _ => none }
def FnExactWeekOfWrongFalsely : Prop := fnExactWeekOfRow.holds Tryd.pinned (OpenSpec.ofChange fnExactWeekOfWrong)

/-- 'laws.FnExactWeekDate': WHATEVER THE INPUT: true; the input reads as it did. -/
def fnExactWeekDateSpec : ChangeSpec := { name := "fnExactWeekDate", vars := ["loop.example/datenotation/impl.monthDays"], fn := fun _ => fun
  | [d, g1] => { results := [.lit (.bool true)], args := [d], vars := [g1] }
  | _ => none }
def fnExactWeekDateRow : OpenClaim := { program := "ytjgpfadoebnchaadoor", sum := "6921d61082bcb4a00133193083b409cda306399e54f407bf3827b7149c58dcdf", func := "loop.example/datenotation/laws.FnExactWeekDate", spec := "fnExactWeekDate", named := ["loop.example/datenotation/impl.monthDays"], apart := false, laid := [("loop.example/datenotation/impl.monthDays", laid_loop_example_datenotation_impl_monthDays)] }
def FnExactWeekDateSaid : Prop := fnExactWeekDateRow.holds Tryd.pinned (OpenSpec.ofChange fnExactWeekDateSpec)

/-- ITS FALSE NEIGHBOUR: 'it returns false'. Refute it at one input. -/
def fnExactWeekDateWrong : ChangeSpec := { name := "fnExactWeekDate", vars := ["loop.example/datenotation/impl.monthDays"], fn := fun _ => fun
  | [d, g1] => { results := [.lit (.bool false)], args := [d], vars := [g1] }
  | _ => none }
def FnExactWeekDateWrongFalsely : Prop := fnExactWeekDateRow.holds Tryd.pinned (OpenSpec.ofChange fnExactWeekDateWrong)

/-- 'laws.FnWeeksLong': WHATEVER THE INPUT: true; the input reads as it did. -/
def fnWeeksLongSpec : ChangeSpec := { name := "fnWeeksLong", vars := ["loop.example/datenotation/impl.monthDays"], fn := fun _ => fun
  | [d, g1] => { results := [.lit (.bool true)], args := [d], vars := [g1] }
  | _ => none }
def fnWeeksLongRow : OpenClaim := { program := "ytjgpfadoebnchaadoor", sum := "6921d61082bcb4a00133193083b409cda306399e54f407bf3827b7149c58dcdf", func := "loop.example/datenotation/laws.FnWeeksLong", spec := "fnWeeksLong", named := ["loop.example/datenotation/impl.monthDays"], apart := false, laid := [("loop.example/datenotation/impl.monthDays", laid_loop_example_datenotation_impl_monthDays)] }
def FnWeeksLongSaid : Prop := fnWeeksLongRow.holds Tryd.pinned (OpenSpec.ofChange fnWeeksLongSpec)

/-- ITS FALSE NEIGHBOUR: 'it returns false'. Refute it at one input. -/
def fnWeeksLongWrong : ChangeSpec := { name := "fnWeeksLong", vars := ["loop.example/datenotation/impl.monthDays"], fn := fun _ => fun
  | [d, g1] => { results := [.lit (.bool false)], args := [d], vars := [g1] }
  | _ => none }
def FnWeeksLongWrongFalsely : Prop := fnWeeksLongRow.holds Tryd.pinned (OpenSpec.ofChange fnWeeksLongWrong)

/-- 'laws.FnWeekdayFirst': WHATEVER THE INPUT: true; the input reads as it did. -/
def fnWeekdayFirstSpec : ChangeSpec := { name := "fnWeekdayFirst", vars := ["loop.example/datenotation/impl.monthDays"], fn := fun _ => fun
  | [d, g1] => { results := [.lit (.bool true)], args := [d], vars := [g1] }
  | _ => none }
def fnWeekdayFirstRow : OpenClaim := { program := "ytjgpfadoebnchaadoor", sum := "6921d61082bcb4a00133193083b409cda306399e54f407bf3827b7149c58dcdf", func := "loop.example/datenotation/laws.FnWeekdayFirst", spec := "fnWeekdayFirst", named := ["loop.example/datenotation/impl.monthDays"], apart := false, laid := [("loop.example/datenotation/impl.monthDays", laid_loop_example_datenotation_impl_monthDays)] }
def FnWeekdayFirstSaid : Prop := fnWeekdayFirstRow.holds Tryd.pinned (OpenSpec.ofChange fnWeekdayFirstSpec)

/-- ITS FALSE NEIGHBOUR: 'it returns false'. Refute it at one input. -/
def fnWeekdayFirstWrong : ChangeSpec := { name := "fnWeekdayFirst", vars := ["loop.example/datenotation/impl.monthDays"], fn := fun _ => fun
  | [d, g1] => { results := [.lit (.bool false)], args := [d], vars := [g1] }
  | _ => none }
def FnWeekdayFirstWrongFalsely : Prop := fnWeekdayFirstRow.holds Tryd.pinned (OpenSpec.ofChange fnWeekdayFirstWrong)

/-- 'laws.FnWeekday': WHATEVER THE INPUT: true; the input reads as it did. -/
def fnWeekdaySpec : ChangeSpec := { name := "fnWeekday", vars := ["loop.example/datenotation/impl.monthDays"], fn := fun _ => fun
  | [d, g1] => { results := [.lit (.bool true)], args := [d], vars := [g1] }
  | _ => none }
def fnWeekdayRow : OpenClaim := { program := "ytjgpfadoebnchaadoor", sum := "6921d61082bcb4a00133193083b409cda306399e54f407bf3827b7149c58dcdf", func := "loop.example/datenotation/laws.FnWeekday", spec := "fnWeekday", named := ["loop.example/datenotation/impl.monthDays"], apart := false, laid := [("loop.example/datenotation/impl.monthDays", laid_loop_example_datenotation_impl_monthDays)] }
def FnWeekdaySaid : Prop := fnWeekdayRow.holds Tryd.pinned (OpenSpec.ofChange fnWeekdaySpec)

/-- ITS FALSE NEIGHBOUR: 'it returns false'. Refute it at one input. -/
def fnWeekdayWrong : ChangeSpec := { name := "fnWeekday", vars := ["loop.example/datenotation/impl.monthDays"], fn := fun _ => fun
  | [d, g1] => { results := [.lit (.bool false)], args := [d], vars := [g1] }
  | _ => none }
def FnWeekdayWrongFalsely : Prop := fnWeekdayRow.holds Tryd.pinned (OpenSpec.ofChange fnWeekdayWrong)

/-- 'laws.FnWeekOfAll': WHATEVER THE INPUT: true; the input reads as it did. -/
def fnWeekOfAllSpec : ChangeSpec := { name := "fnWeekOfAll", vars := ["loop.example/datenotation/impl.monthDays"], fn := fun _ => fun
  | [d, g1] => { results := [.lit (.bool true)], args := [d], vars := [g1] }
  | _ => none }
def fnWeekOfAllRow : OpenClaim := { program := "ytjgpfadoebnchaadoor", sum := "6921d61082bcb4a00133193083b409cda306399e54f407bf3827b7149c58dcdf", func := "loop.example/datenotation/laws.FnWeekOfAll", spec := "fnWeekOfAll", named := ["loop.example/datenotation/impl.monthDays"], apart := false, laid := [("loop.example/datenotation/impl.monthDays", laid_loop_example_datenotation_impl_monthDays)] }
def FnWeekOfAllSaid : Prop := fnWeekOfAllRow.holds Tryd.pinned (OpenSpec.ofChange fnWeekOfAllSpec)

/-- ITS FALSE NEIGHBOUR: 'it returns false'. Refute it at one input. -/
def fnWeekOfAllWrong : ChangeSpec := { name := "fnWeekOfAll", vars := ["loop.example/datenotation/impl.monthDays"], fn := fun _ => fun
  | [d, g1] => { results := [.lit (.bool false)], args := [d], vars := [g1] }
  | _ => none }
def FnWeekOfAllWrongFalsely : Prop := fnWeekOfAllRow.holds Tryd.pinned (OpenSpec.ofChange fnWeekOfAllWrong)

/-- 'laws.FnWeekDateNext': WHATEVER THE INPUT: true; the input reads as it did. -/
def fnWeekDateNextSpec : ChangeSpec := { name := "fnWeekDateNext", vars := ["loop.example/datenotation/impl.monthDays"], fn := fun _ => fun
  | [d, g1] => { results := [.lit (.bool true)], args := [d], vars := [g1] }
  | _ => none }
def fnWeekDateNextRow : OpenClaim := { program := "ytjgpfadoebnchaadoor", sum := "6921d61082bcb4a00133193083b409cda306399e54f407bf3827b7149c58dcdf", func := "loop.example/datenotation/laws.FnWeekDateNext", spec := "fnWeekDateNext", named := ["loop.example/datenotation/impl.monthDays"], apart := false, laid := [("loop.example/datenotation/impl.monthDays", laid_loop_example_datenotation_impl_monthDays)] }
def FnWeekDateNextSaid : Prop := fnWeekDateNextRow.holds Tryd.pinned (OpenSpec.ofChange fnWeekDateNextSpec)

/-- ITS FALSE NEIGHBOUR: 'it returns false'. Refute it at one input. -/
def fnWeekDateNextWrong : ChangeSpec := { name := "fnWeekDateNext", vars := ["loop.example/datenotation/impl.monthDays"], fn := fun _ => fun
  | [d, g1] => { results := [.lit (.bool false)], args := [d], vars := [g1] }
  | _ => none }
def FnWeekDateNextWrongFalsely : Prop := fnWeekDateNextRow.holds Tryd.pinned (OpenSpec.ofChange fnWeekDateNextWrong)

/-- 'laws.FnWeekMonday': WHATEVER THE INPUT: true; the input reads as it did. -/
def fnWeekMondaySpec : ChangeSpec := { name := "fnWeekMonday", vars := ["loop.example/datenotation/impl.monthDays"], fn := fun _ => fun
  | [d, g1] => { results := [.lit (.bool true)], args := [d], vars := [g1] }
  | _ => none }
def fnWeekMondayRow : OpenClaim := { program := "ytjgpfadoebnchaadoor", sum := "6921d61082bcb4a00133193083b409cda306399e54f407bf3827b7149c58dcdf", func := "loop.example/datenotation/laws.FnWeekMonday", spec := "fnWeekMonday", named := ["loop.example/datenotation/impl.monthDays"], apart := false, laid := [("loop.example/datenotation/impl.monthDays", laid_loop_example_datenotation_impl_monthDays)] }
def FnWeekMondaySaid : Prop := fnWeekMondayRow.holds Tryd.pinned (OpenSpec.ofChange fnWeekMondaySpec)

/-- ITS FALSE NEIGHBOUR: 'it returns false'. Refute it at one input. -/
def fnWeekMondayWrong : ChangeSpec := { name := "fnWeekMonday", vars := ["loop.example/datenotation/impl.monthDays"], fn := fun _ => fun
  | [d, g1] => { results := [.lit (.bool false)], args := [d], vars := [g1] }
  | _ => none }
def FnWeekMondayWrongFalsely : Prop := fnWeekMondayRow.holds Tryd.pinned (OpenSpec.ofChange fnWeekMondayWrong)

/-- 'laws.FnWeekDate': WHATEVER THE INPUT: true; the input reads as it did. -/
def fnWeekDateSpec : ChangeSpec := { name := "fnWeekDate", vars := ["loop.example/datenotation/impl.monthDays"], fn := fun _ => fun
  | [d, g1] => { results := [.lit (.bool true)], args := [d], vars := [g1] }
  | _ => none }
def fnWeekDateRow : OpenClaim := { program := "ytjgpfadoebnchaadoor", sum := "6921d61082bcb4a00133193083b409cda306399e54f407bf3827b7149c58dcdf", func := "loop.example/datenotation/laws.FnWeekDate", spec := "fnWeekDate", named := ["loop.example/datenotation/impl.monthDays"], apart := false, laid := [("loop.example/datenotation/impl.monthDays", laid_loop_example_datenotation_impl_monthDays)] }
def FnWeekDateSaid : Prop := fnWeekDateRow.holds Tryd.pinned (OpenSpec.ofChange fnWeekDateSpec)

/-- ITS FALSE NEIGHBOUR: 'it returns false'. Refute it at one input. -/
def fnWeekDateWrong : ChangeSpec := { name := "fnWeekDate", vars := ["loop.example/datenotation/impl.monthDays"], fn := fun _ => fun
  | [d, g1] => { results := [.lit (.bool false)], args := [d], vars := [g1] }
  | _ => none }
def FnWeekDateWrongFalsely : Prop := fnWeekDateRow.holds Tryd.pinned (OpenSpec.ofChange fnWeekDateWrong)

/-- 'laws.FnWeekOfNear': WHATEVER THE INPUT: true; the input reads as it did. -/
def fnWeekOfNearSpec : ChangeSpec := { name := "fnWeekOfNear", vars := ["loop.example/datenotation/impl.monthDays"], fn := fun _ => fun
  | [d, g1] => { results := [.lit (.bool true)], args := [d], vars := [g1] }
  | _ => none }
def fnWeekOfNearRow : OpenClaim := { program := "ytjgpfadoebnchaadoor", sum := "6921d61082bcb4a00133193083b409cda306399e54f407bf3827b7149c58dcdf", func := "loop.example/datenotation/laws.FnWeekOfNear", spec := "fnWeekOfNear", named := ["loop.example/datenotation/impl.monthDays"], apart := false, laid := [("loop.example/datenotation/impl.monthDays", laid_loop_example_datenotation_impl_monthDays)] }
def FnWeekOfNearSaid : Prop := fnWeekOfNearRow.holds Tryd.pinned (OpenSpec.ofChange fnWeekOfNearSpec)

/-- ITS FALSE NEIGHBOUR: 'it returns false'. Refute it at one input. -/
def fnWeekOfNearWrong : ChangeSpec := { name := "fnWeekOfNear", vars := ["loop.example/datenotation/impl.monthDays"], fn := fun _ => fun
  | [d, g1] => { results := [.lit (.bool false)], args := [d], vars := [g1] }
  | _ => none }
def FnWeekOfNearWrongFalsely : Prop := fnWeekOfNearRow.holds Tryd.pinned (OpenSpec.ofChange fnWeekOfNearWrong)

/-- 'laws.FnWeekOf': WHATEVER THE INPUT: true; the input reads as it did. -/
def fnWeekOfSpec : ChangeSpec := { name := "fnWeekOf", vars := ["loop.example/datenotation/impl.monthDays"], fn := fun _ => fun
  | [d, g1] => { results := [.lit (.bool true)], args := [d], vars := [g1] }
  | _ => none }
def fnWeekOfRow : OpenClaim := { program := "ytjgpfadoebnchaadoor", sum := "6921d61082bcb4a00133193083b409cda306399e54f407bf3827b7149c58dcdf", func := "loop.example/datenotation/laws.FnWeekOf", spec := "fnWeekOf", named := ["loop.example/datenotation/impl.monthDays"], apart := false, laid := [("loop.example/datenotation/impl.monthDays", laid_loop_example_datenotation_impl_monthDays)] }
def FnWeekOfSaid : Prop := fnWeekOfRow.holds Tryd.pinned (OpenSpec.ofChange fnWeekOfSpec)

/-- ITS FALSE NEIGHBOUR: 'it returns false'. Refute it at one input. -/
def fnWeekOfWrong : ChangeSpec := { name := "fnWeekOf", vars := ["loop.example/datenotation/impl.monthDays"], fn := fun _ => fun
  | [d, g1] => { results := [.lit (.bool false)], args := [d], vars := [g1] }
  | _ => none }
def FnWeekOfWrongFalsely : Prop := fnWeekOfRow.holds Tryd.pinned (OpenSpec.ofChange fnWeekOfWrong)

/- THE SECOND FORM. 'bulk': how many values and letters a reading holds, each counted each time it is reached (what is shared counts as often as it is met; a slice's spare places count too). A statement '..UptoSaid' is the law's where the arguments, and the package variables that the reading takes, are together of bulk at most 1048576: NARROWER than '..Said'. Prove '..Said' where nothing that the law and all that it calls make is longer than what came in: it says more and counts as full. Else prove '..UptoSaid'. A law counts once. -/
mutual
def uptoBulk {H : Type} : DataW H → Nat
  | .lit (.string bytes) => bytes.length + 1
  | .lit _ => 1
  | .nil => 1
  | .ptr d => uptoBulk d + 1
  | .slice elems spare => uptoBulkAll elems + uptoBulkAll spare + 1
  | .agg parts => uptoBulkAll parts + 1
  | .iface _ d => uptoBulk d + 1
  | .map entries => uptoBulkEntries entries + 1
  | .held _ => 1
def uptoBulkAll {H : Type} : List (DataW H) → Nat
  | [] => 0
  | d :: r => uptoBulk d + uptoBulkAll r
def uptoBulkEntries {H : Type} : List (Lit × DataW H) → Nat
  | [] => 0
  | x :: r => uptoBulkEntry x + uptoBulkEntries r
def uptoBulkEntry {H : Type} : Lit × DataW H → Nat
  | (.string bytes, d) => bytes.length + uptoBulk d + 1
  | (_, d) => uptoBulk d + 1
 end
def uptoSmall : (H : Type) → List (DataW H) → Bool := fun _ ds => decide (uptoBulkAll ds ≤ 1048576)
def OpenSpec.upto (s : _root_.Go.ChangeSpec) : _root_.Go.OpenSpec := { _root_.Go.OpenSpec.ofChange s with cond := some uptoSmall }

/-- 'laws.FnExactWeekday', WHERE WHAT IT READS IS OF BULK AT MOST 1048576: true; the input reads as it did. -/
def fnExactWeekdayUptoRow : OpenClaim := { program := "ytjgpfadoebnchaadoor", sum := "6921d61082bcb4a00133193083b409cda306399e54f407bf3827b7149c58dcdf", func := "loop.example/datenotation/laws.FnExactWeekday", spec := "fnExactWeekday", named := ["loop.example/datenotation/impl.monthDays"], apart := false, laid := [("loop.example/datenotation/impl.monthDays", laid_loop_example_datenotation_impl_monthDays)], narrowed := true }
def FnExactWeekdayUptoSaid : Prop := fnExactWeekdayUptoRow.holds Tryd.pinned (OpenSpec.upto fnExactWeekdaySpec)

/-- 'laws.FnExactWeekOf', WHERE WHAT IT READS IS OF BULK AT MOST 1048576: true; the input reads as it did. -/
def fnExactWeekOfUptoRow : OpenClaim := { program := "ytjgpfadoebnchaadoor", sum := "6921d61082bcb4a00133193083b409cda306399e54f407bf3827b7149c58dcdf", func := "loop.example/datenotation/laws.FnExactWeekOf", spec := "fnExactWeekOf", named := ["loop.example/datenotation/impl.monthDays"], apart := false, laid := [("loop.example/datenotation/impl.monthDays", laid_loop_example_datenotation_impl_monthDays)], narrowed := true }
def FnExactWeekOfUptoSaid : Prop := fnExactWeekOfUptoRow.holds Tryd.pinned (OpenSpec.upto fnExactWeekOfSpec)

/-- 'laws.FnExactWeekDate', WHERE WHAT IT READS IS OF BULK AT MOST 1048576: true; the input reads as it did. -/
def fnExactWeekDateUptoRow : OpenClaim := { program := "ytjgpfadoebnchaadoor", sum := "6921d61082bcb4a00133193083b409cda306399e54f407bf3827b7149c58dcdf", func := "loop.example/datenotation/laws.FnExactWeekDate", spec := "fnExactWeekDate", named := ["loop.example/datenotation/impl.monthDays"], apart := false, laid := [("loop.example/datenotation/impl.monthDays", laid_loop_example_datenotation_impl_monthDays)], narrowed := true }
def FnExactWeekDateUptoSaid : Prop := fnExactWeekDateUptoRow.holds Tryd.pinned (OpenSpec.upto fnExactWeekDateSpec)

/-- 'laws.FnWeeksLong', WHERE WHAT IT READS IS OF BULK AT MOST 1048576: true; the input reads as it did. -/
def fnWeeksLongUptoRow : OpenClaim := { program := "ytjgpfadoebnchaadoor", sum := "6921d61082bcb4a00133193083b409cda306399e54f407bf3827b7149c58dcdf", func := "loop.example/datenotation/laws.FnWeeksLong", spec := "fnWeeksLong", named := ["loop.example/datenotation/impl.monthDays"], apart := false, laid := [("loop.example/datenotation/impl.monthDays", laid_loop_example_datenotation_impl_monthDays)], narrowed := true }
def FnWeeksLongUptoSaid : Prop := fnWeeksLongUptoRow.holds Tryd.pinned (OpenSpec.upto fnWeeksLongSpec)

/-- 'laws.FnWeekdayFirst', WHERE WHAT IT READS IS OF BULK AT MOST 1048576: true; the input reads as it did. -/
def fnWeekdayFirstUptoRow : OpenClaim := { program := "ytjgpfadoebnchaadoor", sum := "6921d61082bcb4a00133193083b409cda306399e54f407bf3827b7149c58dcdf", func := "loop.example/datenotation/laws.FnWeekdayFirst", spec := "fnWeekdayFirst", named := ["loop.example/datenotation/impl.monthDays"], apart := false, laid := [("loop.example/datenotation/impl.monthDays", laid_loop_example_datenotation_impl_monthDays)], narrowed := true }
def FnWeekdayFirstUptoSaid : Prop := fnWeekdayFirstUptoRow.holds Tryd.pinned (OpenSpec.upto fnWeekdayFirstSpec)

/-- 'laws.FnWeekday', WHERE WHAT IT READS IS OF BULK AT MOST 1048576: true; the input reads as it did. -/
def fnWeekdayUptoRow : OpenClaim := { program := "ytjgpfadoebnchaadoor", sum := "6921d61082bcb4a00133193083b409cda306399e54f407bf3827b7149c58dcdf", func := "loop.example/datenotation/laws.FnWeekday", spec := "fnWeekday", named := ["loop.example/datenotation/impl.monthDays"], apart := false, laid := [("loop.example/datenotation/impl.monthDays", laid_loop_example_datenotation_impl_monthDays)], narrowed := true }
def FnWeekdayUptoSaid : Prop := fnWeekdayUptoRow.holds Tryd.pinned (OpenSpec.upto fnWeekdaySpec)

/-- 'laws.FnWeekOfAll', WHERE WHAT IT READS IS OF BULK AT MOST 1048576: true; the input reads as it did. -/
def fnWeekOfAllUptoRow : OpenClaim := { program := "ytjgpfadoebnchaadoor", sum := "6921d61082bcb4a00133193083b409cda306399e54f407bf3827b7149c58dcdf", func := "loop.example/datenotation/laws.FnWeekOfAll", spec := "fnWeekOfAll", named := ["loop.example/datenotation/impl.monthDays"], apart := false, laid := [("loop.example/datenotation/impl.monthDays", laid_loop_example_datenotation_impl_monthDays)], narrowed := true }
def FnWeekOfAllUptoSaid : Prop := fnWeekOfAllUptoRow.holds Tryd.pinned (OpenSpec.upto fnWeekOfAllSpec)

/-- 'laws.FnWeekDateNext', WHERE WHAT IT READS IS OF BULK AT MOST 1048576: true; the input reads as it did. -/
def fnWeekDateNextUptoRow : OpenClaim := { program := "ytjgpfadoebnchaadoor", sum := "6921d61082bcb4a00133193083b409cda306399e54f407bf3827b7149c58dcdf", func := "loop.example/datenotation/laws.FnWeekDateNext", spec := "fnWeekDateNext", named := ["loop.example/datenotation/impl.monthDays"], apart := false, laid := [("loop.example/datenotation/impl.monthDays", laid_loop_example_datenotation_impl_monthDays)], narrowed := true }
def FnWeekDateNextUptoSaid : Prop := fnWeekDateNextUptoRow.holds Tryd.pinned (OpenSpec.upto fnWeekDateNextSpec)

/-- 'laws.FnWeekMonday', WHERE WHAT IT READS IS OF BULK AT MOST 1048576: true; the input reads as it did. -/
def fnWeekMondayUptoRow : OpenClaim := { program := "ytjgpfadoebnchaadoor", sum := "6921d61082bcb4a00133193083b409cda306399e54f407bf3827b7149c58dcdf", func := "loop.example/datenotation/laws.FnWeekMonday", spec := "fnWeekMonday", named := ["loop.example/datenotation/impl.monthDays"], apart := false, laid := [("loop.example/datenotation/impl.monthDays", laid_loop_example_datenotation_impl_monthDays)], narrowed := true }
def FnWeekMondayUptoSaid : Prop := fnWeekMondayUptoRow.holds Tryd.pinned (OpenSpec.upto fnWeekMondaySpec)

/-- 'laws.FnWeekDate', WHERE WHAT IT READS IS OF BULK AT MOST 1048576: true; the input reads as it did. -/
def fnWeekDateUptoRow : OpenClaim := { program := "ytjgpfadoebnchaadoor", sum := "6921d61082bcb4a00133193083b409cda306399e54f407bf3827b7149c58dcdf", func := "loop.example/datenotation/laws.FnWeekDate", spec := "fnWeekDate", named := ["loop.example/datenotation/impl.monthDays"], apart := false, laid := [("loop.example/datenotation/impl.monthDays", laid_loop_example_datenotation_impl_monthDays)], narrowed := true }
def FnWeekDateUptoSaid : Prop := fnWeekDateUptoRow.holds Tryd.pinned (OpenSpec.upto fnWeekDateSpec)

/-- 'laws.FnWeekOfNear', WHERE WHAT IT READS IS OF BULK AT MOST 1048576: true; the input reads as it did. -/
def fnWeekOfNearUptoRow : OpenClaim := { program := "ytjgpfadoebnchaadoor", sum := "6921d61082bcb4a00133193083b409cda306399e54f407bf3827b7149c58dcdf", func := "loop.example/datenotation/laws.FnWeekOfNear", spec := "fnWeekOfNear", named := ["loop.example/datenotation/impl.monthDays"], apart := false, laid := [("loop.example/datenotation/impl.monthDays", laid_loop_example_datenotation_impl_monthDays)], narrowed := true }
def FnWeekOfNearUptoSaid : Prop := fnWeekOfNearUptoRow.holds Tryd.pinned (OpenSpec.upto fnWeekOfNearSpec)

/-- 'laws.FnWeekOf', WHERE WHAT IT READS IS OF BULK AT MOST 1048576: true; the input reads as it did. -/
def fnWeekOfUptoRow : OpenClaim := { program := "ytjgpfadoebnchaadoor", sum := "6921d61082bcb4a00133193083b409cda306399e54f407bf3827b7149c58dcdf", func := "loop.example/datenotation/laws.FnWeekOf", spec := "fnWeekOf", named := ["loop.example/datenotation/impl.monthDays"], apart := false, laid := [("loop.example/datenotation/impl.monthDays", laid_loop_example_datenotation_impl_monthDays)], narrowed := true }
def FnWeekOfUptoSaid : Prop := fnWeekOfUptoRow.holds Tryd.pinned (OpenSpec.upto fnWeekOfSpec)

end Rows
end Go.Proofs.YtjgpfadoebnchaaDoor
