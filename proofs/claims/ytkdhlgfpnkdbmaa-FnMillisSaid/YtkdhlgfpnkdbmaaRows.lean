/-
  No cell of these rows narrows 'for every input' (looked for: loops, veiled, ifaces, maps, wideKeys, modest, calm, conditions, laid).
  DERIVED. THE GIVEN ROWS OF THIS SEAT. 6 by the template 'for every input the law returns true; each argument reads behind the call as it read before'; 0 by the template 'total and deterministic' (their statements: YtkdhlgfpnkdbmaaTotals.lean).
  GIVEN WITH THE SEED: the statements are not yours to turn. If you find one false, say at which input.
  Laid BY PROGRAM, IN A SANDBOX (cutbox-rows.mjs): the forced cells as the released guide's own fill.sh prints them over the translation 49a5a18587d1de2b… (all of the seat's roots in one cut). By AI agents, Wed Nov 11 2026. No macro, syntax, notation, axiom, sorry.
-/
import Derived.Test.YtkdhlgfpnkdbmaaChecked
import GoSem.Claim
import GoSem.ClaimJoined
import GoSem.ClaimMapViews
import Derived.JoinedTies
import Derived.KernelRfl
namespace Go.Proofs.Ytkdhlgfpnkdbmaa
/- THE CELL 'sum', in the pinned program and in every row, IS THE sha256 OF THE DUMP (.gsa) THAT YtkdhlgfpnkdbmaaProg.lean LOADS. Nothing in Lean hashes anything: it is a label: what it is worth is what the hold of that sum in a sandbox is worth. -/
noncomputable def Try.pinned : Pinned := { name := "ytkdhlgfpnkdbmaa", sum := "49a5a18587d1de2b9c55765601d0c73ee38f302390442e16b92e275b7147b2f3", checked := Try.checked }
namespace Rows
def none {H : Type} : Left H := { results := [], args := [] }

/-- 'laws.FnExactClockOf': WHATEVER THE INPUT: true; the input reads as it did. -/
def fnExactClockOfSpec : ChangeSpec := { name := "fnExactClockOf", fn := fun _ => fun
  | [d] => { results := [.lit (.bool true)], args := [d] }
  | _ => none }
def fnExactClockOfRow : OpenClaim := { program := "ytkdhlgfpnkdbmaa", sum := "49a5a18587d1de2b9c55765601d0c73ee38f302390442e16b92e275b7147b2f3", func := "loop.example/datenotation/laws.FnExactClockOf", spec := "fnExactClockOf", apart := false }
def FnExactClockOfSaid : Prop := fnExactClockOfRow.holds Try.pinned (OpenSpec.ofChange fnExactClockOfSpec)

/-- ITS FALSE NEIGHBOUR: 'it returns false'. Refute it at one input. -/
def fnExactClockOfWrong : ChangeSpec := { name := "fnExactClockOf", fn := fun _ => fun
  | [d] => { results := [.lit (.bool false)], args := [d] }
  | _ => none }
def FnExactClockOfWrongFalsely : Prop := fnExactClockOfRow.holds Try.pinned (OpenSpec.ofChange fnExactClockOfWrong)

/-- 'laws.FnExactClockMillis': WHATEVER THE INPUT: true; the input reads as it did. -/
def fnExactClockMillisSpec : ChangeSpec := { name := "fnExactClockMillis", fn := fun _ => fun
  | [d] => { results := [.lit (.bool true)], args := [d] }
  | _ => none }
def fnExactClockMillisRow : OpenClaim := { program := "ytkdhlgfpnkdbmaa", sum := "49a5a18587d1de2b9c55765601d0c73ee38f302390442e16b92e275b7147b2f3", func := "loop.example/datenotation/laws.FnExactClockMillis", spec := "fnExactClockMillis", apart := false }
def FnExactClockMillisSaid : Prop := fnExactClockMillisRow.holds Try.pinned (OpenSpec.ofChange fnExactClockMillisSpec)

/-- ITS FALSE NEIGHBOUR: 'it returns false'. Refute it at one input. -/
def fnExactClockMillisWrong : ChangeSpec := { name := "fnExactClockMillis", fn := fun _ => fun
  | [d] => { results := [.lit (.bool false)], args := [d] }
  | _ => none }
def FnExactClockMillisWrongFalsely : Prop := fnExactClockMillisRow.holds Try.pinned (OpenSpec.ofChange fnExactClockMillisWrong)

/-- 'laws.FnClockOfWhen': WHATEVER THE INPUT: true; the input reads as it did. -/
def fnClockOfWhenSpec : ChangeSpec := { name := "fnClockOfWhen", fn := fun _ => fun
  | [d] => { results := [.lit (.bool true)], args := [d] }
  | _ => none }
def fnClockOfWhenRow : OpenClaim := { program := "ytkdhlgfpnkdbmaa", sum := "49a5a18587d1de2b9c55765601d0c73ee38f302390442e16b92e275b7147b2f3", func := "loop.example/datenotation/laws.FnClockOfWhen", spec := "fnClockOfWhen", apart := false }
def FnClockOfWhenSaid : Prop := fnClockOfWhenRow.holds Try.pinned (OpenSpec.ofChange fnClockOfWhenSpec)

/-- ITS FALSE NEIGHBOUR: 'it returns false'. Refute it at one input. -/
def fnClockOfWhenWrong : ChangeSpec := { name := "fnClockOfWhen", fn := fun _ => fun
  | [d] => { results := [.lit (.bool false)], args := [d] }
  | _ => none }
def FnClockOfWhenWrongFalsely : Prop := fnClockOfWhenRow.holds Try.pinned (OpenSpec.ofChange fnClockOfWhenWrong)

/-- 'laws.FnClockPart': WHATEVER THE INPUT: true; the input reads as it did. -/
def fnClockPartSpec : ChangeSpec := { name := "fnClockPart", fn := fun _ => fun
  | [d] => { results := [.lit (.bool true)], args := [d] }
  | _ => none }
def fnClockPartRow : OpenClaim := { program := "ytkdhlgfpnkdbmaa", sum := "49a5a18587d1de2b9c55765601d0c73ee38f302390442e16b92e275b7147b2f3", func := "loop.example/datenotation/laws.FnClockPart", spec := "fnClockPart", apart := false }
def FnClockPartSaid : Prop := fnClockPartRow.holds Try.pinned (OpenSpec.ofChange fnClockPartSpec)

/-- ITS FALSE NEIGHBOUR: 'it returns false'. Refute it at one input. -/
def fnClockPartWrong : ChangeSpec := { name := "fnClockPart", fn := fun _ => fun
  | [d] => { results := [.lit (.bool false)], args := [d] }
  | _ => none }
def FnClockPartWrongFalsely : Prop := fnClockPartRow.holds Try.pinned (OpenSpec.ofChange fnClockPartWrong)

/-- 'laws.FnClockOf': WHATEVER THE INPUT: true; the input reads as it did. -/
def fnClockOfSpec : ChangeSpec := { name := "fnClockOf", fn := fun _ => fun
  | [d] => { results := [.lit (.bool true)], args := [d] }
  | _ => none }
def fnClockOfRow : OpenClaim := { program := "ytkdhlgfpnkdbmaa", sum := "49a5a18587d1de2b9c55765601d0c73ee38f302390442e16b92e275b7147b2f3", func := "loop.example/datenotation/laws.FnClockOf", spec := "fnClockOf", apart := false }
def FnClockOfSaid : Prop := fnClockOfRow.holds Try.pinned (OpenSpec.ofChange fnClockOfSpec)

/-- ITS FALSE NEIGHBOUR: 'it returns false'. Refute it at one input. -/
def fnClockOfWrong : ChangeSpec := { name := "fnClockOf", fn := fun _ => fun
  | [d] => { results := [.lit (.bool false)], args := [d] }
  | _ => none }
def FnClockOfWrongFalsely : Prop := fnClockOfRow.holds Try.pinned (OpenSpec.ofChange fnClockOfWrong)

/-- 'laws.FnMillis': WHATEVER THE INPUT: true; the input reads as it did. -/
def fnMillisSpec : ChangeSpec := { name := "fnMillis", fn := fun _ => fun
  | [d] => { results := [.lit (.bool true)], args := [d] }
  | _ => none }
def fnMillisRow : OpenClaim := { program := "ytkdhlgfpnkdbmaa", sum := "49a5a18587d1de2b9c55765601d0c73ee38f302390442e16b92e275b7147b2f3", func := "loop.example/datenotation/laws.FnMillis", spec := "fnMillis", apart := false }
def FnMillisSaid : Prop := fnMillisRow.holds Try.pinned (OpenSpec.ofChange fnMillisSpec)

/-- ITS FALSE NEIGHBOUR: 'it returns false'. Refute it at one input. -/
def fnMillisWrong : ChangeSpec := { name := "fnMillis", fn := fun _ => fun
  | [d] => { results := [.lit (.bool false)], args := [d] }
  | _ => none }
def FnMillisWrongFalsely : Prop := fnMillisRow.holds Try.pinned (OpenSpec.ofChange fnMillisWrong)

/- THE SECOND FORM. 'bulk': how many values and letters a reading holds, each counted each time it is reached (what is shared counts as often as it is met; a slice's spare places count too). A statement '..UptoSaid' is the law's where the arguments, and the package variables that the reading takes, are together of bulk at most 1048576: NARROWER than '..Said'. Prove '..Said' where nothing that the law and all that it calls make is longer than what came in: it says more and counts as full. Else prove '..UptoSaid'. A law counts once. -/
mutual
def uptoBulk {H : Type} : DataW H → Nat
  | .lit (.string bytes) => bytes.length + 1
  | .lit _ => 1
  | .nil => 1
  | .ptr d => uptoBulk d + 1
  | .slice elems spare => uptoBulkAll elems + uptoBulkAll spare + 1
  | .agg parts => uptoBulkAll parts + 1
  | .iface _ d => uptoBulk d + 1
  | .map entries => uptoBulkEntries entries + 1
  | .held _ => 1
def uptoBulkAll {H : Type} : List (DataW H) → Nat
  | [] => 0
  | d :: r => uptoBulk d + uptoBulkAll r
def uptoBulkEntries {H : Type} : List (Lit × DataW H) → Nat
  | [] => 0
  | x :: r => uptoBulkEntry x + uptoBulkEntries r
def uptoBulkEntry {H : Type} : Lit × DataW H → Nat
  | (.string bytes, d) => bytes.length + uptoBulk d + 1
  | (_, d) => uptoBulk d + 1
 end
def uptoSmall : (H : Type) → List (DataW H) → Bool := fun _ ds => decide (uptoBulkAll ds ≤ 1048576)
def OpenSpec.upto (s : _root_.Go.ChangeSpec) : _root_.Go.OpenSpec := { _root_.Go.OpenSpec.ofChange s with cond := some uptoSmall }

/-- 'laws.FnExactClockOf', WHERE WHAT IT READS IS OF BULK AT MOST 1048576: true; the input reads as it did. -/
def fnExactClockOfUptoRow : OpenClaim := { program := "ytkdhlgfpnkdbmaa", sum := "49a5a18587d1de2b9c55765601d0c73ee38f302390442e16b92e275b7147b2f3", func := "loop.example/datenotation/laws.FnExactClockOf", spec := "fnExactClockOf", apart := false, narrowed := true }
def FnExactClockOfUptoSaid : Prop := fnExactClockOfUptoRow.holds Try.pinned (OpenSpec.upto fnExactClockOfSpec)

/-- 'laws.FnExactClockMillis', WHERE WHAT IT READS IS OF BULK AT MOST 1048576: true; the input reads as it did. -/
def fnExactClockMillisUptoRow : OpenClaim := { program := "ytkdhlgfpnkdbmaa", sum := "49a5a18587d1de2b9c55765601d0c73ee38f302390442e16b92e275b7147b2f3", func := "loop.example/datenotation/laws.FnExactClockMillis", spec := "fnExactClockMillis", apart := false, narrowed := true }
def FnExactClockMillisUptoSaid : Prop := fnExactClockMillisUptoRow.holds Try.pinned (OpenSpec.upto fnExactClockMillisSpec)

/-- 'laws.FnClockOfWhen', WHERE WHAT IT READS IS OF BULK AT MOST 1048576: true; the input reads as it did. -/
def fnClockOfWhenUptoRow : OpenClaim := { program := "ytkdhlgfpnkdbmaa", sum := "49a5a18587d1de2b9c55765601d0c73ee38f302390442e16b92e275b7147b2f3", func := "loop.example/datenotation/laws.FnClockOfWhen", spec := "fnClockOfWhen", apart := false, narrowed := true }
def FnClockOfWhenUptoSaid : Prop := fnClockOfWhenUptoRow.holds Try.pinned (OpenSpec.upto fnClockOfWhenSpec)

/-- 'laws.FnClockPart', WHERE WHAT IT READS IS OF BULK AT MOST 1048576: true; the input reads as it did. -/
def fnClockPartUptoRow : OpenClaim := { program := "ytkdhlgfpnkdbmaa", sum := "49a5a18587d1de2b9c55765601d0c73ee38f302390442e16b92e275b7147b2f3", func := "loop.example/datenotation/laws.FnClockPart", spec := "fnClockPart", apart := false, narrowed := true }
def FnClockPartUptoSaid : Prop := fnClockPartUptoRow.holds Try.pinned (OpenSpec.upto fnClockPartSpec)

/-- 'laws.FnClockOf', WHERE WHAT IT READS IS OF BULK AT MOST 1048576: true; the input reads as it did. -/
def fnClockOfUptoRow : OpenClaim := { program := "ytkdhlgfpnkdbmaa", sum := "49a5a18587d1de2b9c55765601d0c73ee38f302390442e16b92e275b7147b2f3", func := "loop.example/datenotation/laws.FnClockOf", spec := "fnClockOf", apart := false, narrowed := true }
def FnClockOfUptoSaid : Prop := fnClockOfUptoRow.holds Try.pinned (OpenSpec.upto fnClockOfSpec)

/-- 'laws.FnMillis', WHERE WHAT IT READS IS OF BULK AT MOST 1048576: true; the input reads as it did. -/
def fnMillisUptoRow : OpenClaim := { program := "ytkdhlgfpnkdbmaa", sum := "49a5a18587d1de2b9c55765601d0c73ee38f302390442e16b92e275b7147b2f3", func := "loop.example/datenotation/laws.FnMillis", spec := "fnMillis", apart := false, narrowed := true }
def FnMillisUptoSaid : Prop := fnMillisUptoRow.holds Try.pinned (OpenSpec.upto fnMillisSpec)

end Rows
end Go.Proofs.Ytkdhlgfpnkdbmaa
