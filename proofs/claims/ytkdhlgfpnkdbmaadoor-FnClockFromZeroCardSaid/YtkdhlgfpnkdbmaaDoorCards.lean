/-
  DERIVED. GIVEN WITH THE SEED: THE CARDS: each row of YtkdhlgfpnkdbmaaDoorRows.lean that lists a variable, with what it lists TIED to the program's text (the seventh form; the later family's looks); each row that meets fmt, with fmt's text TOLD by the authors' own Lean function (tested against real Go, not proved from fmt's source: count such statements apart). THE CARD IS WHAT COUNTS. Prove the row's statement (the work); the ties are given (YtkdhlgfpnkdbmaaDoorTie.lean); close each card by the builder's one call (the guide's Derived/Test/ToyasCard.lean, 'card_holds'). Laid BY PROGRAM, IN A SANDBOX (cutbox-door.mjs). By AI agents, Wed Nov 11 2026. No macro, syntax, notation, axiom, sorry.
-/
import Derived.Test.YtkdhlgfpnkdbmaaDoorRows
import GoSem.ClaimSeven
namespace Go.Proofs.YtkdhlgfpnkdbmaaDoor
namespace Rows

/-- THE TIED CARD OF 'laws.FnClockFromZero'. -/
def fnClockFromZeroCard : Claim7 := { stood := { row := fnClockFromZeroRow, standIns := [], harness := (true, "4bfdbd9a649ab179677830dee5916c62ece9f63331dfedc91d6710e9467c3be8"), looks := true }, kinds := [], alts := [], laidByText := true, laidKinds := [.handle], laidTests := true, laidLooks := .later }
def FnClockFromZeroCardSaid : Prop := Claim7.holds Tryd.pinned (.plain (OpenSpec.ofChange fnClockFromZeroSpec)) fnClockFromZeroCard

/-- THE TIED CARD OF 'laws.FnClockText'. -/
def fnClockTextCard : Claim7 := { stood := { row := fnClockTextRow, standIns := [], harness := (true, "4bfdbd9a649ab179677830dee5916c62ece9f63331dfedc91d6710e9467c3be8"), looks := true }, kinds := [], alts := [], laidByText := true, laidKinds := [.data, .handle, .pinned], laidTests := true, laidLooks := .later }
def FnClockTextCardSaid : Prop := Claim7.holds Tryd.pinned (.plain (OpenSpec.ofChange fnClockTextSpec)) fnClockTextCard

/-- THE TIED CARD OF 'laws.FnClockFrom'. -/
def fnClockFromCard : Claim7 := { stood := { row := fnClockFromRow, standIns := [], harness := (true, "4bfdbd9a649ab179677830dee5916c62ece9f63331dfedc91d6710e9467c3be8"), looks := true }, kinds := [], alts := [], laidByText := true, laidKinds := [.data, .handle, .pinned], laidTests := true, laidLooks := .later }
def FnClockFromCardSaid : Prop := Claim7.holds Tryd.pinned (.plain (OpenSpec.ofChange fnClockFromSpec)) fnClockFromCard

/-- THE TIED CARD OF 'laws.FnExactClockFrom'. -/
def fnExactClockFromCard : Claim7 := { stood := { row := fnExactClockFromRow, standIns := [], harness := (true, "4bfdbd9a649ab179677830dee5916c62ece9f63331dfedc91d6710e9467c3be8"), looks := true }, kinds := [], alts := [], laidByText := true, laidKinds := [.handle], laidTests := true, laidLooks := .later }
def FnExactClockFromCardSaid : Prop := Claim7.holds Tryd.pinned (.plain (OpenSpec.ofChange fnExactClockFromSpec)) fnExactClockFromCard

/-- THE TIED CARD OF 'laws.FnExactClockText'. -/
def fnExactClockTextCard : Claim7 := { stood := { row := fnExactClockTextRow, standIns := [], harness := (true, "4bfdbd9a649ab179677830dee5916c62ece9f63331dfedc91d6710e9467c3be8"), looks := true }, kinds := [], alts := [], laidByText := true, laidKinds := [.data, .pinned], laidTests := true, laidLooks := .later }
def FnExactClockTextCardSaid : Prop := Claim7.holds Tryd.pinned (.plain (OpenSpec.ofChange fnExactClockTextSpec)) fnExactClockTextCard

/-- THE TIED CARD OF 'laws.FnClockTextShort'. -/
def fnClockTextShortCard : Claim7 := { stood := { row := fnClockTextShortRow, standIns := [], harness := (true, "4bfdbd9a649ab179677830dee5916c62ece9f63331dfedc91d6710e9467c3be8"), looks := true }, kinds := [], alts := [], laidByText := true, laidKinds := [.data, .pinned], laidTests := true, laidLooks := .later }
def FnClockTextShortCardSaid : Prop := Claim7.holds Tryd.pinned (.plain (OpenSpec.ofChange fnClockTextShortSpec)) fnClockTextShortCard

/-- THE SECOND FORM's CARD OF 'laws.FnClockFromZero'. -/
def fnClockFromZeroUptoCard : Claim7 := { stood := { row := fnClockFromZeroUptoRow, standIns := [], harness := (true, "4bfdbd9a649ab179677830dee5916c62ece9f63331dfedc91d6710e9467c3be8"), looks := true }, kinds := [], alts := [], laidByText := true, laidKinds := [.handle], laidTests := true, laidLooks := .later }
def FnClockFromZeroUptoCardSaid : Prop := Claim7.holds Tryd.pinned (.plain (OpenSpec.upto fnClockFromZeroSpec)) fnClockFromZeroUptoCard

/-- THE SECOND FORM's CARD OF 'laws.FnClockText'. -/
def fnClockTextUptoCard : Claim7 := { stood := { row := fnClockTextUptoRow, standIns := [], harness := (true, "4bfdbd9a649ab179677830dee5916c62ece9f63331dfedc91d6710e9467c3be8"), looks := true }, kinds := [], alts := [], laidByText := true, laidKinds := [.data, .handle, .pinned], laidTests := true, laidLooks := .later }
def FnClockTextUptoCardSaid : Prop := Claim7.holds Tryd.pinned (.plain (OpenSpec.upto fnClockTextSpec)) fnClockTextUptoCard

/-- THE SECOND FORM's CARD OF 'laws.FnClockFrom'. -/
def fnClockFromUptoCard : Claim7 := { stood := { row := fnClockFromUptoRow, standIns := [], harness := (true, "4bfdbd9a649ab179677830dee5916c62ece9f63331dfedc91d6710e9467c3be8"), looks := true }, kinds := [], alts := [], laidByText := true, laidKinds := [.data, .handle, .pinned], laidTests := true, laidLooks := .later }
def FnClockFromUptoCardSaid : Prop := Claim7.holds Tryd.pinned (.plain (OpenSpec.upto fnClockFromSpec)) fnClockFromUptoCard

/-- THE SECOND FORM's CARD OF 'laws.FnExactClockFrom'. -/
def fnExactClockFromUptoCard : Claim7 := { stood := { row := fnExactClockFromUptoRow, standIns := [], harness := (true, "4bfdbd9a649ab179677830dee5916c62ece9f63331dfedc91d6710e9467c3be8"), looks := true }, kinds := [], alts := [], laidByText := true, laidKinds := [.handle], laidTests := true, laidLooks := .later }
def FnExactClockFromUptoCardSaid : Prop := Claim7.holds Tryd.pinned (.plain (OpenSpec.upto fnExactClockFromSpec)) fnExactClockFromUptoCard

/-- THE SECOND FORM's CARD OF 'laws.FnExactClockText'. -/
def fnExactClockTextUptoCard : Claim7 := { stood := { row := fnExactClockTextUptoRow, standIns := [], harness := (true, "4bfdbd9a649ab179677830dee5916c62ece9f63331dfedc91d6710e9467c3be8"), looks := true }, kinds := [], alts := [], laidByText := true, laidKinds := [.data, .pinned], laidTests := true, laidLooks := .later }
def FnExactClockTextUptoCardSaid : Prop := Claim7.holds Tryd.pinned (.plain (OpenSpec.upto fnExactClockTextSpec)) fnExactClockTextUptoCard

/-- THE SECOND FORM's CARD OF 'laws.FnClockTextShort'. -/
def fnClockTextShortUptoCard : Claim7 := { stood := { row := fnClockTextShortUptoRow, standIns := [], harness := (true, "4bfdbd9a649ab179677830dee5916c62ece9f63331dfedc91d6710e9467c3be8"), looks := true }, kinds := [], alts := [], laidByText := true, laidKinds := [.data, .pinned], laidTests := true, laidLooks := .later }
def FnClockTextShortUptoCardSaid : Prop := Claim7.holds Tryd.pinned (.plain (OpenSpec.upto fnClockTextShortSpec)) fnClockTextShortUptoCard
end Rows
end Go.Proofs.YtkdhlgfpnkdbmaaDoor
