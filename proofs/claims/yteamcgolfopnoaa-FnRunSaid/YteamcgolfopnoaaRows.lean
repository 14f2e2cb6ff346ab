/-
  No cell of these rows narrows 'for every input' (looked for: loops, veiled, ifaces, maps, wideKeys, modest, calm, conditions, laid).
  DERIVED. THE GIVEN ROWS OF THIS SEAT. 12 by the template 'for every input the law returns true; each argument reads behind the call as it read before'; 0 by the template 'total and deterministic' (their statements: YteamcgolfopnoaaTotals.lean).
  GIVEN WITH THE SEED: the statements are not yours to turn. If you find one false, say at which input.
  Laid BY PROGRAM, IN A SANDBOX (cutbox-rows.mjs): the forced cells as the released guide's own fill.sh prints them over the translation 873e762df0d28e0a… (all of the seat's roots in one cut). By AI agents, Wed Nov 11 2026. No macro, syntax, notation, axiom, sorry.
-/
import Derived.Test.YteamcgolfopnoaaChecked
import GoSem.Claim
import GoSem.ClaimJoined
import GoSem.ClaimMapViews
import Derived.JoinedTies
import Derived.KernelRfl
namespace Go.Proofs.Yteamcgolfopnoaa
/- THE CELL 'sum', in the pinned program and in every row, IS THE sha256 OF THE DUMP (.gsa) THAT YteamcgolfopnoaaProg.lean LOADS. Nothing in Lean hashes anything: it is a label: what it is worth is what the hold of that sum in a sandbox is worth. -/
noncomputable def Try.pinned : Pinned := { name := "yteamcgolfopnoaa", sum := "873e762df0d28e0abc1276c6a143350a8e9a38e658cdff2fdc14b700f3afa503", checked := Try.checked }
namespace Rows
def none {H : Type} : Left H := { results := [], args := [] }

/-- 'laws.FnExactConstants': WHATEVER THE INPUT: true; the input reads as it did. -/
def fnExactConstantsSpec : ChangeSpec := { name := "fnExactConstants", fn := fun _ => fun
  | [] => { results := [.lit (.bool true)], args := [] }
  | _ => none }
def fnExactConstantsRow : OpenClaim := { program := "yteamcgolfopnoaa", sum := "873e762df0d28e0abc1276c6a143350a8e9a38e658cdff2fdc14b700f3afa503", func := "loop.example/datenotation/laws.FnExactConstants", spec := "fnExactConstants", apart := false }
def FnExactConstantsSaid : Prop := fnExactConstantsRow.holds Try.pinned (OpenSpec.ofChange fnExactConstantsSpec)

/-- ITS FALSE NEIGHBOUR: 'it returns false'. Refute it at one input. -/
def fnExactConstantsWrong : ChangeSpec := { name := "fnExactConstants", fn := fun _ => fun
  | [] => { results := [.lit (.bool false)], args := [] }
  | _ => none }
def FnExactConstantsWrongFalsely : Prop := fnExactConstantsRow.holds Try.pinned (OpenSpec.ofChange fnExactConstantsWrong)

/-- 'laws.FnExactClockValid': WHATEVER THE INPUT: true; the input reads as it did. -/
def fnExactClockValidSpec : ChangeSpec := { name := "fnExactClockValid", fn := fun _ => fun
  | [d] => { results := [.lit (.bool true)], args := [d] }
  | _ => none }
def fnExactClockValidRow : OpenClaim := { program := "yteamcgolfopnoaa", sum := "873e762df0d28e0abc1276c6a143350a8e9a38e658cdff2fdc14b700f3afa503", func := "loop.example/datenotation/laws.FnExactClockValid", spec := "fnExactClockValid", apart := false }
def FnExactClockValidSaid : Prop := fnExactClockValidRow.holds Try.pinned (OpenSpec.ofChange fnExactClockValidSpec)

/-- ITS FALSE NEIGHBOUR: 'it returns false'. Refute it at one input. -/
def fnExactClockValidWrong : ChangeSpec := { name := "fnExactClockValid", fn := fun _ => fun
  | [d] => { results := [.lit (.bool false)], args := [d] }
  | _ => none }
def FnExactClockValidWrongFalsely : Prop := fnExactClockValidRow.holds Try.pinned (OpenSpec.ofChange fnExactClockValidWrong)

/-- 'laws.FnExactDigitsRun': WHATEVER THE INPUT: true; the input reads as it did. -/
def fnExactDigitsRunSpec : ChangeSpec := { name := "fnExactDigitsRun", fn := fun _ => fun
  | [d1, d2] => { results := [.lit (.bool true)], args := [d1, d2] }
  | _ => none }
def fnExactDigitsRunRow : OpenClaim := { program := "yteamcgolfopnoaa", sum := "873e762df0d28e0abc1276c6a143350a8e9a38e658cdff2fdc14b700f3afa503", func := "loop.example/datenotation/laws.FnExactDigitsRun", spec := "fnExactDigitsRun", apart := false }
def FnExactDigitsRunSaid : Prop := fnExactDigitsRunRow.holds Try.pinned (OpenSpec.ofChange fnExactDigitsRunSpec)

/-- ITS FALSE NEIGHBOUR: 'it returns false'. Refute it at one input. -/
def fnExactDigitsRunWrong : ChangeSpec := { name := "fnExactDigitsRun", fn := fun _ => fun
  | [d1, d2] => { results := [.lit (.bool false)], args := [d1, d2] }
  | _ => none }
def FnExactDigitsRunWrongFalsely : Prop := fnExactDigitsRunRow.holds Try.pinned (OpenSpec.ofChange fnExactDigitsRunWrong)

/-- 'laws.FnExactDigitsGet': WHATEVER THE INPUT: true; the input reads as it did. -/
def fnExactDigitsGetSpec : ChangeSpec := { name := "fnExactDigitsGet", fn := fun _ => fun
  | [d1, d2, d3] => { results := [.lit (.bool true)], args := [d1, d2, d3] }
  | _ => none }
def fnExactDigitsGetRow : OpenClaim := { program := "yteamcgolfopnoaa", sum := "873e762df0d28e0abc1276c6a143350a8e9a38e658cdff2fdc14b700f3afa503", func := "loop.example/datenotation/laws.FnExactDigitsGet", spec := "fnExactDigitsGet", apart := false }
def FnExactDigitsGetSaid : Prop := fnExactDigitsGetRow.holds Try.pinned (OpenSpec.ofChange fnExactDigitsGetSpec)

/-- ITS FALSE NEIGHBOUR: 'it returns false'. Refute it at one input. -/
def fnExactDigitsGetWrong : ChangeSpec := { name := "fnExactDigitsGet", fn := fun _ => fun
  | [d1, d2, d3] => { results := [.lit (.bool false)], args := [d1, d2, d3] }
  | _ => none }
def FnExactDigitsGetWrongFalsely : Prop := fnExactDigitsGetRow.holds Try.pinned (OpenSpec.ofChange fnExactDigitsGetWrong)

/-- 'laws.FnExactDigitsPut': WHATEVER THE INPUT: true; the input reads as it did. -/
def fnExactDigitsPutSpec : ChangeSpec := { name := "fnExactDigitsPut", fn := fun _ => fun
  | [d1, d2] => { results := [.lit (.bool true)], args := [d1, d2] }
  | _ => none }
def fnExactDigitsPutRow : OpenClaim := { program := "yteamcgolfopnoaa", sum := "873e762df0d28e0abc1276c6a143350a8e9a38e658cdff2fdc14b700f3afa503", func := "loop.example/datenotation/laws.FnExactDigitsPut", spec := "fnExactDigitsPut", recurses := true, apart := false }
def FnExactDigitsPutSaid : Prop := fnExactDigitsPutRow.holds Try.pinned (OpenSpec.ofChange fnExactDigitsPutSpec)

/-- ITS FALSE NEIGHBOUR: 'it returns false'. Refute it at one input. -/
def fnExactDigitsPutWrong : ChangeSpec := { name := "fnExactDigitsPut", fn := fun _ => fun
  | [d1, d2] => { results := [.lit (.bool false)], args := [d1, d2] }
  | _ => none }
def FnExactDigitsPutWrongFalsely : Prop := fnExactDigitsPutRow.holds Try.pinned (OpenSpec.ofChange fnExactDigitsPutWrong)

/-- 'laws.FnRun': WHATEVER THE INPUT: true; the input reads as it did. -/
def fnRunSpec : ChangeSpec := { name := "fnRun", fn := fun _ => fun
  | [d] => { results := [.lit (.bool true)], args := [d] }
  | _ => none }
def fnRunRow : OpenClaim := { program := "yteamcgolfopnoaa", sum := "873e762df0d28e0abc1276c6a143350a8e9a38e658cdff2fdc14b700f3afa503", func := "loop.example/datenotation/laws.FnRun", spec := "fnRun", recurses := true, apart := false }
def FnRunSaid : Prop := fnRunRow.holds Try.pinned (OpenSpec.ofChange fnRunSpec)

/-- ITS FALSE NEIGHBOUR: 'it returns false'. Refute it at one input. -/
def fnRunWrong : ChangeSpec := { name := "fnRun", fn := fun _ => fun
  | [d] => { results := [.lit (.bool false)], args := [d] }
  | _ => none }
def FnRunWrongFalsely : Prop := fnRunRow.holds Try.pinned (OpenSpec.ofChange fnRunWrong)

/-- 'laws.FnPutMore': WHATEVER THE INPUT: true; the input reads as it did. -/
def fnPutMoreSpec : ChangeSpec := { name := "fnPutMore", fn := fun _ => fun
  | [d] => { results := [.lit (.bool true)], args := [d] }
  | _ => none }
def fnPutMoreRow : OpenClaim := { program := "yteamcgolfopnoaa", sum := "873e762df0d28e0abc1276c6a143350a8e9a38e658cdff2fdc14b700f3afa503", func := "loop.example/datenotation/laws.FnPutMore", spec := "fnPutMore", recurses := true, apart := false }
def FnPutMoreSaid : Prop := fnPutMoreRow.holds Try.pinned (OpenSpec.ofChange fnPutMoreSpec)

/-- ITS FALSE NEIGHBOUR: 'it returns false'. Refute it at one input. -/
def fnPutMoreWrong : ChangeSpec := { name := "fnPutMore", fn := fun _ => fun
  | [d] => { results := [.lit (.bool false)], args := [d] }
  | _ => none }
def FnPutMoreWrongFalsely : Prop := fnPutMoreRow.holds Try.pinned (OpenSpec.ofChange fnPutMoreWrong)

/-- 'laws.FnPutOrder': WHATEVER THE INPUT: true; the input reads as it did. -/
def fnPutOrderSpec : ChangeSpec := { name := "fnPutOrder", fn := fun _ => fun
  | [d] => { results := [.lit (.bool true)], args := [d] }
  | _ => none }
def fnPutOrderRow : OpenClaim := { program := "yteamcgolfopnoaa", sum := "873e762df0d28e0abc1276c6a143350a8e9a38e658cdff2fdc14b700f3afa503", func := "loop.example/datenotation/laws.FnPutOrder", spec := "fnPutOrder", recurses := true, apart := false }
def FnPutOrderSaid : Prop := fnPutOrderRow.holds Try.pinned (OpenSpec.ofChange fnPutOrderSpec)

/-- ITS FALSE NEIGHBOUR: 'it returns false'. Refute it at one input. -/
def fnPutOrderWrong : ChangeSpec := { name := "fnPutOrder", fn := fun _ => fun
  | [d] => { results := [.lit (.bool false)], args := [d] }
  | _ => none }
def FnPutOrderWrongFalsely : Prop := fnPutOrderRow.holds Try.pinned (OpenSpec.ofChange fnPutOrderWrong)

/-- 'laws.FnGetFewer': WHATEVER THE INPUT: true; the input reads as it did. -/
def fnGetFewerSpec : ChangeSpec := { name := "fnGetFewer", fn := fun _ => fun
  | [d] => { results := [.lit (.bool true)], args := [d] }
  | _ => none }
def fnGetFewerRow : OpenClaim := { program := "yteamcgolfopnoaa", sum := "873e762df0d28e0abc1276c6a143350a8e9a38e658cdff2fdc14b700f3afa503", func := "loop.example/datenotation/laws.FnGetFewer", spec := "fnGetFewer", recurses := true, apart := false }
def FnGetFewerSaid : Prop := fnGetFewerRow.holds Try.pinned (OpenSpec.ofChange fnGetFewerSpec)

/-- ITS FALSE NEIGHBOUR: 'it returns false'. Refute it at one input. -/
def fnGetFewerWrong : ChangeSpec := { name := "fnGetFewer", fn := fun _ => fun
  | [d] => { results := [.lit (.bool false)], args := [d] }
  | _ => none }
def FnGetFewerWrongFalsely : Prop := fnGetFewerRow.holds Try.pinned (OpenSpec.ofChange fnGetFewerWrong)

/-- 'laws.FnGetRun': WHATEVER THE INPUT: true; the input reads as it did. -/
def fnGetRunSpec : ChangeSpec := { name := "fnGetRun", fn := fun _ => fun
  | [d] => { results := [.lit (.bool true)], args := [d] }
  | _ => none }
def fnGetRunRow : OpenClaim := { program := "yteamcgolfopnoaa", sum := "873e762df0d28e0abc1276c6a143350a8e9a38e658cdff2fdc14b700f3afa503", func := "loop.example/datenotation/laws.FnGetRun", spec := "fnGetRun", recurses := true, apart := false }
def FnGetRunSaid : Prop := fnGetRunRow.holds Try.pinned (OpenSpec.ofChange fnGetRunSpec)

/-- ITS FALSE NEIGHBOUR: 'it returns false'. Refute it at one input. -/
def fnGetRunWrong : ChangeSpec := { name := "fnGetRun", fn := fun _ => fun
  | [d] => { results := [.lit (.bool false)], args := [d] }
  | _ => none }
def FnGetRunWrongFalsely : Prop := fnGetRunRow.holds Try.pinned (OpenSpec.ofChange fnGetRunWrong)

/-- 'laws.FnPut': WHATEVER THE INPUT: true; the input reads as it did. -/
def fnPutSpec : ChangeSpec := { name := "fnPut", fn := fun _ => fun
  | [d] => { results := [.lit (.bool true)], args := [d] }
  | _ => none }
def fnPutRow : OpenClaim := { program := "yteamcgolfopnoaa", sum := "873e762df0d28e0abc1276c6a143350a8e9a38e658cdff2fdc14b700f3afa503", func := "loop.example/datenotation/laws.FnPut", spec := "fnPut", recurses := true, apart := false }
def FnPutSaid : Prop := fnPutRow.holds Try.pinned (OpenSpec.ofChange fnPutSpec)

/-- ITS FALSE NEIGHBOUR: 'it returns false'. Refute it at one input. -/
def fnPutWrong : ChangeSpec := { name := "fnPut", fn := fun _ => fun
  | [d] => { results := [.lit (.bool false)], args := [d] }
  | _ => none }
def FnPutWrongFalsely : Prop := fnPutRow.holds Try.pinned (OpenSpec.ofChange fnPutWrong)

/-- 'laws.FnGet': WHATEVER THE INPUT: true; the input reads as it did. -/
def fnGetSpec : ChangeSpec := { name := "fnGet", fn := fun _ => fun
  | [d] => { results := [.lit (.bool true)], args := [d] }
  | _ => none }
def fnGetRow : OpenClaim := { program := "yteamcgolfopnoaa", sum := "873e762df0d28e0abc1276c6a143350a8e9a38e658cdff2fdc14b700f3afa503", func := "loop.example/datenotation/laws.FnGet", spec := "fnGet", recurses := true, apart := false }
def FnGetSaid : Prop := fnGetRow.holds Try.pinned (OpenSpec.ofChange fnGetSpec)

/-- ITS FALSE NEIGHBOUR: 'it returns false'. Refute it at one input. -/
def fnGetWrong : ChangeSpec := { name := "fnGet", fn := fun _ => fun
  | [d] => { results := [.lit (.bool false)], args := [d] }
  | _ => none }
def FnGetWrongFalsely : Prop := fnGetRow.holds Try.pinned (OpenSpec.ofChange fnGetWrong)

/- THE SECOND FORM. 'bulk': how many values and letters a reading holds, each counted each time it is reached (what is shared counts as often as it is met; a slice's spare places count too). A statement '..UptoSaid' is the law's where the arguments, and the package variables that the reading takes, are together of bulk at most 1048576: NARROWER than '..Said'. Prove '..Said' where nothing that the law and all that it calls make is longer than what came in: it says more and counts as full. Else prove '..UptoSaid'. A law counts once. -/
mutual
def uptoBulk {H : Type} : DataW H → Nat
  | .lit (.string bytes) => bytes.length + 1
  | .lit _ => 1
  | .nil => 1
  | .ptr d => uptoBulk d + 1
  | .slice elems spare => uptoBulkAll elems + uptoBulkAll spare + 1
  | .agg parts => uptoBulkAll parts + 1
  | .iface _ d => uptoBulk d + 1
  | .map entries => uptoBulkEntries entries + 1
  | .held _ => 1
def uptoBulkAll {H : Type} : List (DataW H) → Nat
  | [] => 0
  | d :: r => uptoBulk d + uptoBulkAll r
def uptoBulkEntries {H : Type} : List (Lit × DataW H) → Nat
  | [] => 0
  | x :: r => uptoBulkEntry x + uptoBulkEntries r
def uptoBulkEntry {H : Type} : Lit × DataW H → Nat
  | (.string bytes, d) => bytes.length + uptoBulk d + 1
  | (_, d) => uptoBulk d + 1
 end
def uptoSmall : (H : Type) → List (DataW H) → Bool := fun _ ds => decide (uptoBulkAll ds ≤ 1048576)
def OpenSpec.upto (s : _root_.Go.ChangeSpec) : _root_.Go.OpenSpec := { _root_.Go.OpenSpec.ofChange s with cond := some uptoSmall }

/-- 'laws.FnExactConstants', WHERE WHAT IT READS IS OF BULK AT MOST 1048576: true; the input reads as it did. -/
def fnExactConstantsUptoRow : OpenClaim := { program := "yteamcgolfopnoaa", sum := "873e762df0d28e0abc1276c6a143350a8e9a38e658cdff2fdc14b700f3afa503", func := "loop.example/datenotation/laws.FnExactConstants", spec := "fnExactConstants", apart := false, narrowed := true }
def FnExactConstantsUptoSaid : Prop := fnExactConstantsUptoRow.holds Try.pinned (OpenSpec.upto fnExactConstantsSpec)

/-- 'laws.FnExactClockValid', WHERE WHAT IT READS IS OF BULK AT MOST 1048576: true; the input reads as it did. -/
def fnExactClockValidUptoRow : OpenClaim := { program := "yteamcgolfopnoaa", sum := "873e762df0d28e0abc1276c6a143350a8e9a38e658cdff2fdc14b700f3afa503", func := "loop.example/datenotation/laws.FnExactClockValid", spec := "fnExactClockValid", apart := false, narrowed := true }
def FnExactClockValidUptoSaid : Prop := fnExactClockValidUptoRow.holds Try.pinned (OpenSpec.upto fnExactClockValidSpec)

/-- 'laws.FnExactDigitsRun', WHERE WHAT IT READS IS OF BULK AT MOST 1048576: true; the input reads as it did. -/
def fnExactDigitsRunUptoRow : OpenClaim := { program := "yteamcgolfopnoaa", sum := "873e762df0d28e0abc1276c6a143350a8e9a38e658cdff2fdc14b700f3afa503", func := "loop.example/datenotation/laws.FnExactDigitsRun", spec := "fnExactDigitsRun", apart := false, narrowed := true }
def FnExactDigitsRunUptoSaid : Prop := fnExactDigitsRunUptoRow.holds Try.pinned (OpenSpec.upto fnExactDigitsRunSpec)

/-- 'laws.FnExactDigitsGet', WHERE WHAT IT READS IS OF BULK AT MOST 1048576: true; the input reads as it did. -/
def fnExactDigitsGetUptoRow : OpenClaim := { program := "yteamcgolfopnoaa", sum := "873e762df0d28e0abc1276c6a143350a8e9a38e658cdff2fdc14b700f3afa503", func := "loop.example/datenotation/laws.FnExactDigitsGet", spec := "fnExactDigitsGet", apart := false, narrowed := true }
def FnExactDigitsGetUptoSaid : Prop := fnExactDigitsGetUptoRow.holds Try.pinned (OpenSpec.upto fnExactDigitsGetSpec)

/-- 'laws.FnExactDigitsPut', WHERE WHAT IT READS IS OF BULK AT MOST 1048576: true; the input reads as it did. -/
def fnExactDigitsPutUptoRow : OpenClaim := { program := "yteamcgolfopnoaa", sum := "873e762df0d28e0abc1276c6a143350a8e9a38e658cdff2fdc14b700f3afa503", func := "loop.example/datenotation/laws.FnExactDigitsPut", spec := "fnExactDigitsPut", recurses := true, apart := false, narrowed := true }
def FnExactDigitsPutUptoSaid : Prop := fnExactDigitsPutUptoRow.holds Try.pinned (OpenSpec.upto fnExactDigitsPutSpec)

/-- 'laws.FnRun', WHERE WHAT IT READS IS OF BULK AT MOST 1048576: true; the input reads as it did. -/
def fnRunUptoRow : OpenClaim := { program := "yteamcgolfopnoaa", sum := "873e762df0d28e0abc1276c6a143350a8e9a38e658cdff2fdc14b700f3afa503", func := "loop.example/datenotation/laws.FnRun", spec := "fnRun", recurses := true, apart := false, narrowed := true }
def FnRunUptoSaid : Prop := fnRunUptoRow.holds Try.pinned (OpenSpec.upto fnRunSpec)

/-- 'laws.FnPutMore', WHERE WHAT IT READS IS OF BULK AT MOST 1048576: true; the input reads as it did. -/
def fnPutMoreUptoRow : OpenClaim := { program := "yteamcgolfopnoaa", sum := "873e762df0d28e0abc1276c6a143350a8e9a38e658cdff2fdc14b700f3afa503", func := "loop.example/datenotation/laws.FnPutMore", spec := "fnPutMore", recurses := true, apart := false, narrowed := true }
def FnPutMoreUptoSaid : Prop := fnPutMoreUptoRow.holds Try.pinned (OpenSpec.upto fnPutMoreSpec)

/-- 'laws.FnPutOrder', WHERE WHAT IT READS IS OF BULK AT MOST 1048576: true; the input reads as it did. -/
def fnPutOrderUptoRow : OpenClaim := { program := "yteamcgolfopnoaa", sum := "873e762df0d28e0abc1276c6a143350a8e9a38e658cdff2fdc14b700f3afa503", func := "loop.example/datenotation/laws.FnPutOrder", spec := "fnPutOrder", recurses := true, apart := false, narrowed := true }
def FnPutOrderUptoSaid : Prop := fnPutOrderUptoRow.holds Try.pinned (OpenSpec.upto fnPutOrderSpec)

/-- 'laws.FnGetFewer', WHERE WHAT IT READS IS OF BULK AT MOST 1048576: true; the input reads as it did. -/
def fnGetFewerUptoRow : OpenClaim := { program := "yteamcgolfopnoaa", sum := "873e762df0d28e0abc1276c6a143350a8e9a38e658cdff2fdc14b700f3afa503", func := "loop.example/datenotation/laws.FnGetFewer", spec := "fnGetFewer", recurses := true, apart := false, narrowed := true }
def FnGetFewerUptoSaid : Prop := fnGetFewerUptoRow.holds Try.pinned (OpenSpec.upto fnGetFewerSpec)

/-- 'laws.FnGetRun', WHERE WHAT IT READS IS OF BULK AT MOST 1048576: true; the input reads as it did. -/
def fnGetRunUptoRow : OpenClaim := { program := "yteamcgolfopnoaa", sum := "873e762df0d28e0abc1276c6a143350a8e9a38e658cdff2fdc14b700f3afa503", func := "loop.example/datenotation/laws.FnGetRun", spec := "fnGetRun", recurses := true, apart := false, narrowed := true }
def FnGetRunUptoSaid : Prop := fnGetRunUptoRow.holds Try.pinned (OpenSpec.upto fnGetRunSpec)

/-- 'laws.FnPut', WHERE WHAT IT READS IS OF BULK AT MOST 1048576: true; the input reads as it did. -/
def fnPutUptoRow : OpenClaim := { program := "yteamcgolfopnoaa", sum := "873e762df0d28e0abc1276c6a143350a8e9a38e658cdff2fdc14b700f3afa503", func := "loop.example/datenotation/laws.FnPut", spec := "fnPut", recurses := true, apart := false, narrowed := true }
def FnPutUptoSaid : Prop := fnPutUptoRow.holds Try.pinned (OpenSpec.upto fnPutSpec)

/-- 'laws.FnGet', WHERE WHAT IT READS IS OF BULK AT MOST 1048576: true; the input reads as it did. -/
def fnGetUptoRow : OpenClaim := { program := "yteamcgolfopnoaa", sum := "873e762df0d28e0abc1276c6a143350a8e9a38e658cdff2fdc14b700f3afa503", func := "loop.example/datenotation/laws.FnGet", spec := "fnGet", recurses := true, apart := false, narrowed := true }
def FnGetUptoSaid : Prop := fnGetUptoRow.holds Try.pinned (OpenSpec.upto fnGetSpec)

end Rows
end Go.Proofs.Yteamcgolfopnoaa
