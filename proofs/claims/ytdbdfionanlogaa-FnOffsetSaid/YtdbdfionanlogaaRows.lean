/-
  No cell of these rows narrows 'for every input' (looked for: loops, veiled, ifaces, maps, wideKeys, modest, calm, conditions, laid).
  DERIVED. THE GIVEN ROWS OF THIS SEAT. 7 by the template 'for every input the law returns true; each argument reads behind the call as it read before'; 0 by the template 'total and deterministic' (their statements: YtdbdfionanlogaaTotals.lean).
  GIVEN WITH THE SEED: the statements are not yours to turn. If you find one false, say at which input.
  Laid BY PROGRAM, IN A SANDBOX (cutbox-rows.mjs): the forced cells as the released guide's own fill.sh prints them over the translation 91585a833dbfc8fb… (all of the seat's roots in one cut). By AI agents, Wed Nov 11 2026. No macro, syntax, notation, axiom, sorry.
-/
import Derived.Test.YtdbdfionanlogaaChecked
import GoSem.Claim
import GoSem.ClaimJoined
import GoSem.ClaimMapViews
import Derived.JoinedTies
import Derived.KernelRfl
namespace Go.Proofs.Ytdbdfionanlogaa
/- THE CELL 'sum', in the pinned program and in every row, IS THE sha256 OF THE DUMP (.gsa) THAT YtdbdfionanlogaaProg.lean LOADS. Nothing in Lean hashes anything: it is a label: what it is worth is what the hold of that sum in a sandbox is worth. -/
noncomputable def Try.pinned : Pinned := { name := "ytdbdfionanlogaa", sum := "91585a833dbfc8fb6bd33837afa283d1b40c873274eb0690cf83c445bfb8ba52", checked := Try.checked }
namespace Rows
def none {H : Type} : Left H := { results := [], args := [] }

/-- 'laws.FnExactLeapYear': WHATEVER THE INPUT: true; the input reads as it did. -/
def fnExactLeapYearSpec : ChangeSpec := { name := "fnExactLeapYear", fn := fun _ => fun
  | [d] => { results := [.lit (.bool true)], args := [d] }
  | _ => none }
def fnExactLeapYearRow : OpenClaim := { program := "ytdbdfionanlogaa", sum := "91585a833dbfc8fb6bd33837afa283d1b40c873274eb0690cf83c445bfb8ba52", func := "loop.example/datenotation/laws.FnExactLeapYear", spec := "fnExactLeapYear", apart := false }
def FnExactLeapYearSaid : Prop := fnExactLeapYearRow.holds Try.pinned (OpenSpec.ofChange fnExactLeapYearSpec)

/-- ITS FALSE NEIGHBOUR: 'it returns false'. Refute it at one input. -/
def fnExactLeapYearWrong : ChangeSpec := { name := "fnExactLeapYear", fn := fun _ => fun
  | [d] => { results := [.lit (.bool false)], args := [d] }
  | _ => none }
def FnExactLeapYearWrongFalsely : Prop := fnExactLeapYearRow.holds Try.pinned (OpenSpec.ofChange fnExactLeapYearWrong)

/-- 'laws.FnLeapEver': WHATEVER THE INPUT: true; the input reads as it did. -/
def fnLeapEverSpec : ChangeSpec := { name := "fnLeapEver", fn := fun _ => fun
  | [d] => { results := [.lit (.bool true)], args := [d] }
  | _ => none }
def fnLeapEverRow : OpenClaim := { program := "ytdbdfionanlogaa", sum := "91585a833dbfc8fb6bd33837afa283d1b40c873274eb0690cf83c445bfb8ba52", func := "loop.example/datenotation/laws.FnLeapEver", spec := "fnLeapEver", apart := false }
def FnLeapEverSaid : Prop := fnLeapEverRow.holds Try.pinned (OpenSpec.ofChange fnLeapEverSpec)

/-- ITS FALSE NEIGHBOUR: 'it returns false'. Refute it at one input. -/
def fnLeapEverWrong : ChangeSpec := { name := "fnLeapEver", fn := fun _ => fun
  | [d] => { results := [.lit (.bool false)], args := [d] }
  | _ => none }
def FnLeapEverWrongFalsely : Prop := fnLeapEverRow.holds Try.pinned (OpenSpec.ofChange fnLeapEverWrong)

/-- 'laws.FnExactOffsetText': WHATEVER THE INPUT: true; the input reads as it did. -/
def fnExactOffsetTextSpec : ChangeSpec := { name := "fnExactOffsetText", fn := fun _ => fun
  | [d] => { results := [.lit (.bool true)], args := [d] }
  | _ => none }
def fnExactOffsetTextRow : OpenClaim := { program := "ytdbdfionanlogaa", sum := "91585a833dbfc8fb6bd33837afa283d1b40c873274eb0690cf83c445bfb8ba52", func := "loop.example/datenotation/laws.FnExactOffsetText", spec := "fnExactOffsetText", recurses := true, apart := false }
def FnExactOffsetTextSaid : Prop := fnExactOffsetTextRow.holds Try.pinned (OpenSpec.ofChange fnExactOffsetTextSpec)

/-- ITS FALSE NEIGHBOUR: 'it returns false'. Refute it at one input. -/
def fnExactOffsetTextWrong : ChangeSpec := { name := "fnExactOffsetText", fn := fun _ => fun
  | [d] => { results := [.lit (.bool false)], args := [d] }
  | _ => none }
def FnExactOffsetTextWrongFalsely : Prop := fnExactOffsetTextRow.holds Try.pinned (OpenSpec.ofChange fnExactOffsetTextWrong)

/-- 'laws.FnExactOffsetFrom': WHATEVER THE INPUT: true; the input reads as it did. -/
def fnExactOffsetFromSpec : ChangeSpec := { name := "fnExactOffsetFrom", fn := fun _ => fun
  | [d] => { results := [.lit (.bool true)], args := [d] }
  | _ => none }
def fnExactOffsetFromRow : OpenClaim := { program := "ytdbdfionanlogaa", sum := "91585a833dbfc8fb6bd33837afa283d1b40c873274eb0690cf83c445bfb8ba52", func := "loop.example/datenotation/laws.FnExactOffsetFrom", spec := "fnExactOffsetFrom", apart := false }
def FnExactOffsetFromSaid : Prop := fnExactOffsetFromRow.holds Try.pinned (OpenSpec.ofChange fnExactOffsetFromSpec)

/-- ITS FALSE NEIGHBOUR: 'it returns false'. Refute it at one input. -/
def fnExactOffsetFromWrong : ChangeSpec := { name := "fnExactOffsetFrom", fn := fun _ => fun
  | [d] => { results := [.lit (.bool false)], args := [d] }
  | _ => none }
def FnExactOffsetFromWrongFalsely : Prop := fnExactOffsetFromRow.holds Try.pinned (OpenSpec.ofChange fnExactOffsetFromWrong)

/-- 'laws.FnOffsetSign': WHATEVER THE INPUT: true; the input reads as it did. -/
def fnOffsetSignSpec : ChangeSpec := { name := "fnOffsetSign", fn := fun _ => fun
  | [d] => { results := [.lit (.bool true)], args := [d] }
  | _ => none }
def fnOffsetSignRow : OpenClaim := { program := "ytdbdfionanlogaa", sum := "91585a833dbfc8fb6bd33837afa283d1b40c873274eb0690cf83c445bfb8ba52", func := "loop.example/datenotation/laws.FnOffsetSign", spec := "fnOffsetSign", recurses := true, apart := false }
def FnOffsetSignSaid : Prop := fnOffsetSignRow.holds Try.pinned (OpenSpec.ofChange fnOffsetSignSpec)

/-- ITS FALSE NEIGHBOUR: 'it returns false'. Refute it at one input. -/
def fnOffsetSignWrong : ChangeSpec := { name := "fnOffsetSign", fn := fun _ => fun
  | [d] => { results := [.lit (.bool false)], args := [d] }
  | _ => none }
def FnOffsetSignWrongFalsely : Prop := fnOffsetSignRow.holds Try.pinned (OpenSpec.ofChange fnOffsetSignWrong)

/-- 'laws.FnOffsetWhen': WHATEVER THE INPUT: true; the input reads as it did. -/
def fnOffsetWhenSpec : ChangeSpec := { name := "fnOffsetWhen", fn := fun _ => fun
  | [d] => { results := [.lit (.bool true)], args := [d] }
  | _ => none }
def fnOffsetWhenRow : OpenClaim := { program := "ytdbdfionanlogaa", sum := "91585a833dbfc8fb6bd33837afa283d1b40c873274eb0690cf83c445bfb8ba52", func := "loop.example/datenotation/laws.FnOffsetWhen", spec := "fnOffsetWhen", recurses := true, apart := false }
def FnOffsetWhenSaid : Prop := fnOffsetWhenRow.holds Try.pinned (OpenSpec.ofChange fnOffsetWhenSpec)

/-- ITS FALSE NEIGHBOUR: 'it returns false'. Refute it at one input. -/
def fnOffsetWhenWrong : ChangeSpec := { name := "fnOffsetWhen", fn := fun _ => fun
  | [d] => { results := [.lit (.bool false)], args := [d] }
  | _ => none }
def FnOffsetWhenWrongFalsely : Prop := fnOffsetWhenRow.holds Try.pinned (OpenSpec.ofChange fnOffsetWhenWrong)

/-- 'laws.FnOffset': WHATEVER THE INPUT: true; the input reads as it did. -/
def fnOffsetSpec : ChangeSpec := { name := "fnOffset", fn := fun _ => fun
  | [d] => { results := [.lit (.bool true)], args := [d] }
  | _ => none }
def fnOffsetRow : OpenClaim := { program := "ytdbdfionanlogaa", sum := "91585a833dbfc8fb6bd33837afa283d1b40c873274eb0690cf83c445bfb8ba52", func := "loop.example/datenotation/laws.FnOffset", spec := "fnOffset", recurses := true, apart := false }
def FnOffsetSaid : Prop := fnOffsetRow.holds Try.pinned (OpenSpec.ofChange fnOffsetSpec)

/-- ITS FALSE NEIGHBOUR: 'it returns false'. Refute it at one input. -/
def fnOffsetWrong : ChangeSpec := { name := "fnOffset", fn := fun _ => fun
  | [d] => { results := [.lit (.bool false)], args := [d] }
  | _ => none }
def FnOffsetWrongFalsely : Prop := fnOffsetRow.holds Try.pinned (OpenSpec.ofChange fnOffsetWrong)

/- THE SECOND FORM. 'bulk': how many values and letters a reading holds, each counted each time it is reached (what is shared counts as often as it is met; a slice's spare places count too). A statement '..UptoSaid' is the law's where the arguments, and the package variables that the reading takes, are together of bulk at most 1048576: NARROWER than '..Said'. Prove '..Said' where nothing that the law and all that it calls make is longer than what came in: it says more and counts as full. Else prove '..UptoSaid'. A law counts once. -/
mutual
def uptoBulk {H : Type} : DataW H → Nat
  | .lit (.string bytes) => bytes.length + 1
  | .lit _ => 1
  | .nil => 1
  | .ptr d => uptoBulk d + 1
  | .slice elems spare => uptoBulkAll elems + uptoBulkAll spare + 1
  | .agg parts => uptoBulkAll parts + 1
  | .iface _ d => uptoBulk d + 1
  | .map entries => uptoBulkEntries entries + 1
  | .held _ => 1
def uptoBulkAll {H : Type} : List (DataW H) → Nat
  | [] => 0
  | d :: r => uptoBulk d + uptoBulkAll r
def uptoBulkEntries {H : Type} : List (Lit × DataW H) → Nat
  | [] => 0
  | x :: r => uptoBulkEntry x + uptoBulkEntries r
def uptoBulkEntry {H : Type} : Lit × DataW H → Nat
  | (.string bytes, d) => bytes.length + uptoBulk d + 1
  | (_, d) => uptoBulk d + 1
 end
def uptoSmall : (H : Type) → List (DataW H) → Bool := fun _ ds => decide (uptoBulkAll ds ≤ 1048576)
def OpenSpec.upto (s : _root_.Go.ChangeSpec) : _root_.Go.OpenSpec := { _root_.Go.OpenSpec.ofChange s with cond := some uptoSmall }

/-- 'laws.FnExactLeapYear', WHERE WHAT IT READS IS OF BULK AT MOST 1048576: true; the input reads as it did. -/
def fnExactLeapYearUptoRow : OpenClaim := { program := "ytdbdfionanlogaa", sum := "91585a833dbfc8fb6bd33837afa283d1b40c873274eb0690cf83c445bfb8ba52", func := "loop.example/datenotation/laws.FnExactLeapYear", spec := "fnExactLeapYear", apart := false, narrowed := true }
def FnExactLeapYearUptoSaid : Prop := fnExactLeapYearUptoRow.holds Try.pinned (OpenSpec.upto fnExactLeapYearSpec)

/-- 'laws.FnLeapEver', WHERE WHAT IT READS IS OF BULK AT MOST 1048576: true; the input reads as it did. -/
def fnLeapEverUptoRow : OpenClaim := { program := "ytdbdfionanlogaa", sum := "91585a833dbfc8fb6bd33837afa283d1b40c873274eb0690cf83c445bfb8ba52", func := "loop.example/datenotation/laws.FnLeapEver", spec := "fnLeapEver", apart := false, narrowed := true }
def FnLeapEverUptoSaid : Prop := fnLeapEverUptoRow.holds Try.pinned (OpenSpec.upto fnLeapEverSpec)

/-- 'laws.FnExactOffsetText', WHERE WHAT IT READS IS OF BULK AT MOST 1048576: true; the input reads as it did. -/
def fnExactOffsetTextUptoRow : OpenClaim := { program := "ytdbdfionanlogaa", sum := "91585a833dbfc8fb6bd33837afa283d1b40c873274eb0690cf83c445bfb8ba52", func := "loop.example/datenotation/laws.FnExactOffsetText", spec := "fnExactOffsetText", recurses := true, apart := false, narrowed := true }
def FnExactOffsetTextUptoSaid : Prop := fnExactOffsetTextUptoRow.holds Try.pinned (OpenSpec.upto fnExactOffsetTextSpec)

/-- 'laws.FnExactOffsetFrom', WHERE WHAT IT READS IS OF BULK AT MOST 1048576: true; the input reads as it did. -/
def fnExactOffsetFromUptoRow : OpenClaim := { program := "ytdbdfionanlogaa", sum := "91585a833dbfc8fb6bd33837afa283d1b40c873274eb0690cf83c445bfb8ba52", func := "loop.example/datenotation/laws.FnExactOffsetFrom", spec := "fnExactOffsetFrom", apart := false, narrowed := true }
def FnExactOffsetFromUptoSaid : Prop := fnExactOffsetFromUptoRow.holds Try.pinned (OpenSpec.upto fnExactOffsetFromSpec)

/-- 'laws.FnOffsetSign', WHERE WHAT IT READS IS OF BULK AT MOST 1048576: true; the input reads as it did. -/
def fnOffsetSignUptoRow : OpenClaim := { program := "ytdbdfionanlogaa", sum := "91585a833dbfc8fb6bd33837afa283d1b40c873274eb0690cf83c445bfb8ba52", func := "loop.example/datenotation/laws.FnOffsetSign", spec := "fnOffsetSign", recurses := true, apart := false, narrowed := true }
def FnOffsetSignUptoSaid : Prop := fnOffsetSignUptoRow.holds Try.pinned (OpenSpec.upto fnOffsetSignSpec)

/-- 'laws.FnOffsetWhen', WHERE WHAT IT READS IS OF BULK AT MOST 1048576: true; the input reads as it did. -/
def fnOffsetWhenUptoRow : OpenClaim := { program := "ytdbdfionanlogaa", sum := "91585a833dbfc8fb6bd33837afa283d1b40c873274eb0690cf83c445bfb8ba52", func := "loop.example/datenotation/laws.FnOffsetWhen", spec := "fnOffsetWhen", recurses := true, apart := false, narrowed := true }
def FnOffsetWhenUptoSaid : Prop := fnOffsetWhenUptoRow.holds Try.pinned (OpenSpec.upto fnOffsetWhenSpec)

/-- 'laws.FnOffset', WHERE WHAT IT READS IS OF BULK AT MOST 1048576: true; the input reads as it did. -/
def fnOffsetUptoRow : OpenClaim := { program := "ytdbdfionanlogaa", sum := "91585a833dbfc8fb6bd33837afa283d1b40c873274eb0690cf83c445bfb8ba52", func := "loop.example/datenotation/laws.FnOffset", spec := "fnOffset", recurses := true, apart := false, narrowed := true }
def FnOffsetUptoSaid : Prop := fnOffsetUptoRow.holds Try.pinned (OpenSpec.upto fnOffsetSpec)

end Rows
end Go.Proofs.Ytdbdfionanlogaa
