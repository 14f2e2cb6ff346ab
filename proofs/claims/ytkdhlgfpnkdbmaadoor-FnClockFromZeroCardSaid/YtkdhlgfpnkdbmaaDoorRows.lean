/-
  NARROWER THAN 'FOR EVERY INPUT', by the rows' own cells (each row's printed sentence says how): FnClockFromZero: laid · FnClockText: laid · FnClockFrom: laid · FnExactClockFrom: laid · FnExactClockText: laid · FnClockTextShort: laid.
  DERIVED. THE GIVEN ROWS OF THIS SEAT. 6 by the template 'for every input the law returns true; each argument reads behind the call as it read before'; 0 by the template 'total and deterministic' (their statements: YtkdhlgfpnkdbmaaDoorTotals.lean).
  GIVEN WITH THE SEED: the statements are not yours to turn. If you find one false, say at which input.
  Laid BY PROGRAM, IN A SANDBOX (cutbox-rows.mjs): the forced cells as the released guide's own fill.sh prints them over the translation 80c5b71e0483ef4a… (all of the seat's roots in one cut). By AI agents, Wed Nov 11 2026. No macro, syntax, notation, axiom, sorry.
-/
import Derived.Test.YtkdhlgfpnkdbmaaDoorChecked
import GoSem.PinnedTables
import GoSem.Claim
import GoSem.ClaimJoined
import GoSem.ClaimMapViews
import Derived.JoinedTies
import Derived.KernelRfl
namespace Go.Proofs.YtkdhlgfpnkdbmaaDoor
/- THE CELL 'sum', in the pinned program and in every row, IS THE sha256 OF THE DUMP (.gsa) THAT YtkdhlgfpnkdbmaaDoorProg.lean LOADS. Nothing in Lean hashes anything: it is a label: what it is worth is what the hold of that sum in a sandbox is worth. -/
noncomputable def Tryd.pinned : Pinned := { name := "ytkdhlgfpnkdbmaadoor", sum := "80c5b71e0483ef4a15998ad675557002d981cece5dedc81d201a2855a91741fe", checked := Tryd.checked }
namespace Rows
def none {H : Type} : Left H := { results := [], args := [] }

/- WHAT THE LISTED PACKAGE-LEVEL VARIABLES READ AS WHEN THE CALL BEGINS. Each datum BY PROGRAM (the guide's laid-datum.mjs) off the statement by which the dump's own 'gosem.cut.vars' lays the variable. In a bare row this is a premise. The card (YtkdhlgfpnkdbmaaDoorCards.lean) ties it to the program's text. -/
def laid_errors_errorType {H : Type} : DataW H := .iface "internal/reflectlite.rtype" (.agg [.ptr (.lit (.string [101, 114, 114, 111, 114]))])
def laid_unicode_utf8_acceptRanges {H : Type} : DataW H := .agg [.agg [.lit (.int .u8 128), .lit (.int .u8 191)], .agg [.lit (.int .u8 160), .lit (.int .u8 191)], .agg [.lit (.int .u8 128), .lit (.int .u8 159)], .agg [.lit (.int .u8 144), .lit (.int .u8 191)], .agg [.lit (.int .u8 128), .lit (.int .u8 143)], .agg [.lit (.int .u8 0), .lit (.int .u8 0)], .agg [.lit (.int .u8 0), .lit (.int .u8 0)], .agg [.lit (.int .u8 0), .lit (.int .u8 0)], .agg [.lit (.int .u8 0), .lit (.int .u8 0)], .agg [.lit (.int .u8 0), .lit (.int .u8 0)], .agg [.lit (.int .u8 0), .lit (.int .u8 0)], .agg [.lit (.int .u8 0), .lit (.int .u8 0)], .agg [.lit (.int .u8 0), .lit (.int .u8 0)], .agg [.lit (.int .u8 0), .lit (.int .u8 0)], .agg [.lit (.int .u8 0), .lit (.int .u8 0)], .agg [.lit (.int .u8 0), .lit (.int .u8 0)]]
/-- One of Go's own tables, pinned by name: the form's constant. -/
def laid_unicode_utf8_first : DataW Unit := Go.Pinned.utf8First

/-- 'laws.FnClockFromZero': WHATEVER THE INPUT: true; the input reads as it did. -/
def fnClockFromZeroSpec : ChangeSpec := { name := "fnClockFromZero", fn := fun _ => fun
  | [d] => { results := [.lit (.bool true)], args := [d] }
  | _ => none }
def fnClockFromZeroRow : OpenClaim := { program := "ytkdhlgfpnkdbmaadoor", sum := "80c5b71e0483ef4a15998ad675557002d981cece5dedc81d201a2855a91741fe", func := "loop.example/datenotation/laws.FnClockFromZero", spec := "fnClockFromZero", inPlace := ["internal/reflectlite.ValueOf", "(internal/reflectlite.Value).Type", "(internal/reflectlite.Value).IsNil", "internal/reflectlite.TypeOf", "(internal/reflectlite.Value).Elem", "(internal/reflectlite.Value).Set"], unfollowed := true, recurses := true, named := ["errors.errorType"], apart := false, laid := [("errors.errorType", laid_errors_errorType)] }
def FnClockFromZeroSaid : Prop := fnClockFromZeroRow.holds Tryd.pinned (OpenSpec.ofChange fnClockFromZeroSpec)

/-- ITS FALSE NEIGHBOUR: 'it returns false'. Refute it at one input. -/
def fnClockFromZeroWrong : ChangeSpec := { name := "fnClockFromZero", fn := fun _ => fun
  | [d] => { results := [.lit (.bool false)], args := [d] }
  | _ => none }
def FnClockFromZeroWrongFalsely : Prop := fnClockFromZeroRow.holds Tryd.pinned (OpenSpec.ofChange fnClockFromZeroWrong)

/-- 'laws.FnClockText': WHATEVER THE INPUT: true; the input reads as it did. -/
def fnClockTextSpec : ChangeSpec := { name := "fnClockText", fn := fun _ => fun
  | [d] => { results := [.lit (.bool true)], args := [d] }
  | _ => none }
def fnClockTextRow : OpenClaim := { program := "ytkdhlgfpnkdbmaadoor", sum := "80c5b71e0483ef4a15998ad675557002d981cece5dedc81d201a2855a91741fe", func := "loop.example/datenotation/laws.FnClockText", spec := "fnClockText", inPlace := ["internal/bytealg.IndexByteString", "internal/bytealg.IndexString", "internal/reflectlite.ValueOf", "(internal/reflectlite.Value).Type", "(internal/reflectlite.Value).IsNil", "internal/reflectlite.TypeOf", "(internal/reflectlite.Value).Elem", "(internal/reflectlite.Value).Set"], unfollowed := true, recurses := true, named := ["unicode/utf8.first", "unicode/utf8.acceptRanges", "errors.errorType", "internal/bytealg.MaxLen"], apart := false, laid := [("unicode/utf8.acceptRanges", laid_unicode_utf8_acceptRanges), ("errors.errorType", laid_errors_errorType), ("unicode/utf8.first", laid_unicode_utf8_first)] }
def FnClockTextSaid : Prop := fnClockTextRow.holds Tryd.pinned (OpenSpec.ofChange fnClockTextSpec)

/-- ITS FALSE NEIGHBOUR: 'it returns false'. Refute it at one input. -/
def fnClockTextWrong : ChangeSpec := { name := "fnClockText", fn := fun _ => fun
  | [d] => { results := [.lit (.bool false)], args := [d] }
  | _ => none }
def FnClockTextWrongFalsely : Prop := fnClockTextRow.holds Tryd.pinned (OpenSpec.ofChange fnClockTextWrong)

/-- 'laws.FnClockFrom': WHATEVER THE INPUT: true; the input reads as it did. -/
def fnClockFromSpec : ChangeSpec := { name := "fnClockFrom", fn := fun _ => fun
  | [d] => { results := [.lit (.bool true)], args := [d] }
  | _ => none }
def fnClockFromRow : OpenClaim := { program := "ytkdhlgfpnkdbmaadoor", sum := "80c5b71e0483ef4a15998ad675557002d981cece5dedc81d201a2855a91741fe", func := "loop.example/datenotation/laws.FnClockFrom", spec := "fnClockFrom", inPlace := ["internal/reflectlite.ValueOf", "(internal/reflectlite.Value).Type", "(internal/reflectlite.Value).IsNil", "internal/reflectlite.TypeOf", "(internal/reflectlite.Value).Elem", "(internal/reflectlite.Value).Set", "internal/bytealg.IndexByteString", "internal/bytealg.IndexString"], unfollowed := true, recurses := true, named := ["errors.errorType", "unicode/utf8.first", "unicode/utf8.acceptRanges", "internal/bytealg.MaxLen"], apart := false, laid := [("unicode/utf8.acceptRanges", laid_unicode_utf8_acceptRanges), ("errors.errorType", laid_errors_errorType), ("unicode/utf8.first", laid_unicode_utf8_first)] }
def FnClockFromSaid : Prop := fnClockFromRow.holds Tryd.pinned (OpenSpec.ofChange fnClockFromSpec)

/-- ITS FALSE NEIGHBOUR: 'it returns false'. Refute it at one input. -/
def fnClockFromWrong : ChangeSpec := { name := "fnClockFrom", fn := fun _ => fun
  | [d] => { results := [.lit (.bool false)], args := [d] }
  | _ => none }
def FnClockFromWrongFalsely : Prop := fnClockFromRow.holds Tryd.pinned (OpenSpec.ofChange fnClockFromWrong)

/-- 'laws.FnExactClockFrom': WHATEVER THE INPUT: true; the input reads as it did. -/
def fnExactClockFromSpec : ChangeSpec := { name := "fnExactClockFrom", fn := fun _ => fun
  | [d] => { results := [.lit (.bool true)], args := [d] }
  | _ => none }
def fnExactClockFromRow : OpenClaim := { program := "ytkdhlgfpnkdbmaadoor", sum := "80c5b71e0483ef4a15998ad675557002d981cece5dedc81d201a2855a91741fe", func := "loop.example/datenotation/laws.FnExactClockFrom", spec := "fnExactClockFrom", inPlace := ["internal/reflectlite.ValueOf", "(internal/reflectlite.Value).Type", "(internal/reflectlite.Value).IsNil", "internal/reflectlite.TypeOf", "(internal/reflectlite.Value).Elem", "(internal/reflectlite.Value).Set"], unfollowed := true, recurses := true, named := ["errors.errorType"], apart := false, laid := [("errors.errorType", laid_errors_errorType)] }
def FnExactClockFromSaid : Prop := fnExactClockFromRow.holds Tryd.pinned (OpenSpec.ofChange fnExactClockFromSpec)

/-- ITS FALSE NEIGHBOUR: 'it returns false'. Refute it at one input. -/
def fnExactClockFromWrong : ChangeSpec := { name := "fnExactClockFrom", fn := fun _ => fun
  | [d] => { results := [.lit (.bool false)], args := [d] }
  | _ => none }
def FnExactClockFromWrongFalsely : Prop := fnExactClockFromRow.holds Tryd.pinned (OpenSpec.ofChange fnExactClockFromWrong)

/-- 'laws.FnExactClockText': WHATEVER THE INPUT: true; the input reads as it did. -/
def fnExactClockTextSpec : ChangeSpec := { name := "fnExactClockText", fn := fun _ => fun
  | [d1, d2] => { results := [.lit (.bool true)], args := [d1, d2] }
  | _ => none }
def fnExactClockTextRow : OpenClaim := { program := "ytkdhlgfpnkdbmaadoor", sum := "80c5b71e0483ef4a15998ad675557002d981cece5dedc81d201a2855a91741fe", func := "loop.example/datenotation/laws.FnExactClockText", spec := "fnExactClockText", inPlace := ["internal/bytealg.IndexByteString", "internal/bytealg.IndexString"], recurses := true, named := ["unicode/utf8.first", "unicode/utf8.acceptRanges", "internal/bytealg.MaxLen"], apart := false, laid := [("unicode/utf8.acceptRanges", laid_unicode_utf8_acceptRanges), ("unicode/utf8.first", laid_unicode_utf8_first)] }
def FnExactClockTextSaid : Prop := fnExactClockTextRow.holds Tryd.pinned (OpenSpec.ofChange fnExactClockTextSpec)

/-- ITS FALSE NEIGHBOUR: 'it returns false'. Refute it at one input. -/
def fnExactClockTextWrong : ChangeSpec := { name := "fnExactClockText", fn := fun _ => fun
  | [d1, d2] => { results := [.lit (.bool false)], args := [d1, d2] }
  | _ => none }
def FnExactClockTextWrongFalsely : Prop := fnExactClockTextRow.holds Tryd.pinned (OpenSpec.ofChange fnExactClockTextWrong)

/-- 'laws.FnClockTextShort': WHATEVER THE INPUT: true; the input reads as it did. -/
def fnClockTextShortSpec : ChangeSpec := { name := "fnClockTextShort", fn := fun _ => fun
  | [d] => { results := [.lit (.bool true)], args := [d] }
  | _ => none }
def fnClockTextShortRow : OpenClaim := { program := "ytkdhlgfpnkdbmaadoor", sum := "80c5b71e0483ef4a15998ad675557002d981cece5dedc81d201a2855a91741fe", func := "loop.example/datenotation/laws.FnClockTextShort", spec := "fnClockTextShort", inPlace := ["internal/bytealg.IndexByteString", "internal/bytealg.IndexString"], recurses := true, named := ["unicode/utf8.first", "unicode/utf8.acceptRanges", "internal/bytealg.MaxLen"], apart := false, laid := [("unicode/utf8.acceptRanges", laid_unicode_utf8_acceptRanges), ("unicode/utf8.first", laid_unicode_utf8_first)] }
def FnClockTextShortSaid : Prop := fnClockTextShortRow.holds Tryd.pinned (OpenSpec.ofChange fnClockTextShortSpec)

/-- ITS FALSE NEIGHBOUR: 'it returns false'. Refute it at one input. -/
def fnClockTextShortWrong : ChangeSpec := { name := "fnClockTextShort", fn := fun _ => fun
  | [d] => { results := [.lit (.bool false)], args := [d] }
  | _ => none }
def FnClockTextShortWrongFalsely : Prop := fnClockTextShortRow.holds Tryd.pinned (OpenSpec.ofChange fnClockTextShortWrong)

/- THE SECOND FORM. 'bulk': how many values and letters a reading holds, each counted each time it is reached (what is shared counts as often as it is met; a slice's spare places count too). A statement '..UptoSaid' is the law's where the arguments, and the package variables that the reading takes, are together of bulk at most 1048576: NARROWER than '..Said'. Prove '..Said' where nothing that the law and all that it calls make is longer than what came in: it says more and counts as full. Else prove '..UptoSaid'. A law counts once. -/
mutual
def uptoBulk {H : Type} : DataW H → Nat
  | .lit (.string bytes) => bytes.length + 1
  | .lit _ => 1
  | .nil => 1
  | .ptr d => uptoBulk d + 1
  | .slice elems spare => uptoBulkAll elems + uptoBulkAll spare + 1
  | .agg parts => uptoBulkAll parts + 1
  | .iface _ d => uptoBulk d + 1
  | .map entries => uptoBulkEntries entries + 1
  | .held _ => 1
def uptoBulkAll {H : Type} : List (DataW H) → Nat
  | [] => 0
  | d :: r => uptoBulk d + uptoBulkAll r
def uptoBulkEntries {H : Type} : List (Lit × DataW H) → Nat
  | [] => 0
  | x :: r => uptoBulkEntry x + uptoBulkEntries r
def uptoBulkEntry {H : Type} : Lit × DataW H → Nat
  | (.string bytes, d) => bytes.length + uptoBulk d + 1
  | (_, d) => uptoBulk d + 1
 end
def uptoSmall : (H : Type) → List (DataW H) → Bool := fun _ ds => decide (uptoBulkAll ds ≤ 1048576)
def OpenSpec.upto (s : _root_.Go.ChangeSpec) : _root_.Go.OpenSpec := { _root_.Go.OpenSpec.ofChange s with cond := some uptoSmall }

/-- 'laws.FnClockFromZero', WHERE WHAT IT READS IS OF BULK AT MOST 1048576: true; the input reads as it did. -/
def fnClockFromZeroUptoRow : OpenClaim := { program := "ytkdhlgfpnkdbmaadoor", sum := "80c5b71e0483ef4a15998ad675557002d981cece5dedc81d201a2855a91741fe", func := "loop.example/datenotation/laws.FnClockFromZero", spec := "fnClockFromZero", inPlace := ["internal/reflectlite.ValueOf", "(internal/reflectlite.Value).Type", "(internal/reflectlite.Value).IsNil", "internal/reflectlite.TypeOf", "(internal/reflectlite.Value).Elem", "(internal/reflectlite.Value).Set"], unfollowed := true, recurses := true, named := ["errors.errorType"], apart := false, laid := [("errors.errorType", laid_errors_errorType)], narrowed := true }
def FnClockFromZeroUptoSaid : Prop := fnClockFromZeroUptoRow.holds Tryd.pinned (OpenSpec.upto fnClockFromZeroSpec)

/-- 'laws.FnClockText', WHERE WHAT IT READS IS OF BULK AT MOST 1048576: true; the input reads as it did. -/
def fnClockTextUptoRow : OpenClaim := { program := "ytkdhlgfpnkdbmaadoor", sum := "80c5b71e0483ef4a15998ad675557002d981cece5dedc81d201a2855a91741fe", func := "loop.example/datenotation/laws.FnClockText", spec := "fnClockText", inPlace := ["internal/bytealg.IndexByteString", "internal/bytealg.IndexString", "internal/reflectlite.ValueOf", "(internal/reflectlite.Value).Type", "(internal/reflectlite.Value).IsNil", "internal/reflectlite.TypeOf", "(internal/reflectlite.Value).Elem", "(internal/reflectlite.Value).Set"], unfollowed := true, recurses := true, named := ["unicode/utf8.first", "unicode/utf8.acceptRanges", "errors.errorType", "internal/bytealg.MaxLen"], apart := false, laid := [("unicode/utf8.acceptRanges", laid_unicode_utf8_acceptRanges), ("errors.errorType", laid_errors_errorType), ("unicode/utf8.first", laid_unicode_utf8_first)], narrowed := true }
def FnClockTextUptoSaid : Prop := fnClockTextUptoRow.holds Tryd.pinned (OpenSpec.upto fnClockTextSpec)

/-- 'laws.FnClockFrom', WHERE WHAT IT READS IS OF BULK AT MOST 1048576: true; the input reads as it did. -/
def fnClockFromUptoRow : OpenClaim := { program := "ytkdhlgfpnkdbmaadoor", sum := "80c5b71e0483ef4a15998ad675557002d981cece5dedc81d201a2855a91741fe", func := "loop.example/datenotation/laws.FnClockFrom", spec := "fnClockFrom", inPlace := ["internal/reflectlite.ValueOf", "(internal/reflectlite.Value).Type", "(internal/reflectlite.Value).IsNil", "internal/reflectlite.TypeOf", "(internal/reflectlite.Value).Elem", "(internal/reflectlite.Value).Set", "internal/bytealg.IndexByteString", "internal/bytealg.IndexString"], unfollowed := true, recurses := true, named := ["errors.errorType", "unicode/utf8.first", "unicode/utf8.acceptRanges", "internal/bytealg.MaxLen"], apart := false, laid := [("unicode/utf8.acceptRanges", laid_unicode_utf8_acceptRanges), ("errors.errorType", laid_errors_errorType), ("unicode/utf8.first", laid_unicode_utf8_first)], narrowed := true }
def FnClockFromUptoSaid : Prop := fnClockFromUptoRow.holds Tryd.pinned (OpenSpec.upto fnClockFromSpec)

/-- 'laws.FnExactClockFrom', WHERE WHAT IT READS IS OF BULK AT MOST 1048576: true; the input reads as it did. -/
def fnExactClockFromUptoRow : OpenClaim := { program := "ytkdhlgfpnkdbmaadoor", sum := "80c5b71e0483ef4a15998ad675557002d981cece5dedc81d201a2855a91741fe", func := "loop.example/datenotation/laws.FnExactClockFrom", spec := "fnExactClockFrom", inPlace := ["internal/reflectlite.ValueOf", "(internal/reflectlite.Value).Type", "(internal/reflectlite.Value).IsNil", "internal/reflectlite.TypeOf", "(internal/reflectlite.Value).Elem", "(internal/reflectlite.Value).Set"], unfollowed := true, recurses := true, named := ["errors.errorType"], apart := false, laid := [("errors.errorType", laid_errors_errorType)], narrowed := true }
def FnExactClockFromUptoSaid : Prop := fnExactClockFromUptoRow.holds Tryd.pinned (OpenSpec.upto fnExactClockFromSpec)

/-- 'laws.FnExactClockText', WHERE WHAT IT READS IS OF BULK AT MOST 1048576: true; the input reads as it did. -/
def fnExactClockTextUptoRow : OpenClaim := { program := "ytkdhlgfpnkdbmaadoor", sum := "80c5b71e0483ef4a15998ad675557002d981cece5dedc81d201a2855a91741fe", func := "loop.example/datenotation/laws.FnExactClockText", spec := "fnExactClockText", inPlace := ["internal/bytealg.IndexByteString", "internal/bytealg.IndexString"], recurses := true, named := ["unicode/utf8.first", "unicode/utf8.acceptRanges", "internal/bytealg.MaxLen"], apart := false, laid := [("unicode/utf8.acceptRanges", laid_unicode_utf8_acceptRanges), ("unicode/utf8.first", laid_unicode_utf8_first)], narrowed := true }
def FnExactClockTextUptoSaid : Prop := fnExactClockTextUptoRow.holds Tryd.pinned (OpenSpec.upto fnExactClockTextSpec)

/-- 'laws.FnClockTextShort', WHERE WHAT IT READS IS OF BULK AT MOST 1048576: true; the input reads as it did. -/
def fnClockTextShortUptoRow : OpenClaim := { program := "ytkdhlgfpnkdbmaadoor", sum := "80c5b71e0483ef4a15998ad675557002d981cece5dedc81d201a2855a91741fe", func := "loop.example/datenotation/laws.FnClockTextShort", spec := "fnClockTextShort", inPlace := ["internal/bytealg.IndexByteString", "internal/bytealg.IndexString"], recurses := true, named := ["unicode/utf8.first", "unicode/utf8.acceptRanges", "internal/bytealg.MaxLen"], apart := false, laid := [("unicode/utf8.acceptRanges", laid_unicode_utf8_acceptRanges), ("unicode/utf8.first", laid_unicode_utf8_first)], narrowed := true }
def FnClockTextShortUptoSaid : Prop := fnClockTextShortUptoRow.holds Tryd.pinned (OpenSpec.upto fnClockTextShortSpec)

end Rows
end Go.Proofs.YtkdhlgfpnkdbmaaDoor
