/-
  DERIVED. GIVEN WITH THE SEED: THE CARDS: each row of YtdpjhgkiccmnoaaDoorRows.lean that lists a variable, with what it lists TIED to the program's text (the seventh form; the later family's looks); each row that meets fmt, with fmt's text TOLD by the authors' own Lean function (tested against real Go, not proved from fmt's source: count such statements apart). THE CARD IS WHAT COUNTS. Prove the row's statement (the work); the ties are given (YtdpjhgkiccmnoaaDoorTie.lean); close each card by the builder's one call (the guide's Derived/Test/ToyasCard.lean, 'card_holds'). Laid BY PROGRAM, IN A SANDBOX (cutbox-door.mjs). By AI agents, Wed Nov 11 2026. No macro, syntax, notation, axiom, sorry.
-/
import Derived.Test.YtdpjhgkiccmnoaaDoorRows
import GoSem.ClaimSeven
namespace Go.Proofs.YtdpjhgkiccmnoaaDoor
namespace Rows

/-- THE TIED CARD OF 'laws.FnExactDayNumber'. -/
def fnExactDayNumberCard : Claim7 := { stood := { row := fnExactDayNumberRow, standIns := [], harness := (true, "102e0693410d2aef8023c25d26ddb942d85f58cecb71620c795b74182ba7fd42"), looks := false }, kinds := [], alts := [], laidByText := true, laidKinds := [.data], laidTests := true, laidLooks := .later }
def FnExactDayNumberCardSaid : Prop := Claim7.holds Tryd.pinned (.plain (OpenSpec.ofChange fnExactDayNumberSpec)) fnExactDayNumberCard

/-- THE TIED CARD OF 'laws.FnExactDateOf'. -/
def fnExactDateOfCard : Claim7 := { stood := { row := fnExactDateOfRow, standIns := [], harness := (true, "102e0693410d2aef8023c25d26ddb942d85f58cecb71620c795b74182ba7fd42"), looks := false }, kinds := [], alts := [], laidByText := true, laidKinds := [.data], laidTests := true, laidLooks := .later }
def FnExactDateOfCardSaid : Prop := Claim7.holds Tryd.pinned (.plain (OpenSpec.ofChange fnExactDateOfSpec)) fnExactDateOfCard

/-- THE TIED CARD OF 'laws.FnNumberLater'. -/
def fnNumberLaterCard : Claim7 := { stood := { row := fnNumberLaterRow, standIns := [], harness := (true, "102e0693410d2aef8023c25d26ddb942d85f58cecb71620c795b74182ba7fd42"), looks := false }, kinds := [], alts := [], laidByText := true, laidKinds := [.data], laidTests := true, laidLooks := .later }
def FnNumberLaterCardSaid : Prop := Claim7.holds Tryd.pinned (.plain (OpenSpec.ofChange fnNumberLaterSpec)) fnNumberLaterCard

/-- THE TIED CARD OF 'laws.FnNumber'. -/
def fnNumberCard : Claim7 := { stood := { row := fnNumberRow, standIns := [], harness := (true, "102e0693410d2aef8023c25d26ddb942d85f58cecb71620c795b74182ba7fd42"), looks := false }, kinds := [], alts := [], laidByText := true, laidKinds := [.data], laidTests := true, laidLooks := .later }
def FnNumberCardSaid : Prop := Claim7.holds Tryd.pinned (.plain (OpenSpec.ofChange fnNumberSpec)) fnNumberCard

/-- THE TIED CARD OF 'laws.FnDateOf'. -/
def fnDateOfCard : Claim7 := { stood := { row := fnDateOfRow, standIns := [], harness := (true, "102e0693410d2aef8023c25d26ddb942d85f58cecb71620c795b74182ba7fd42"), looks := false }, kinds := [], alts := [], laidByText := true, laidKinds := [.data], laidTests := true, laidLooks := .later }
def FnDateOfCardSaid : Prop := Claim7.holds Tryd.pinned (.plain (OpenSpec.ofChange fnDateOfSpec)) fnDateOfCard

/-- THE TIED CARD OF 'laws.FnDateOfWhen'. -/
def fnDateOfWhenCard : Claim7 := { stood := { row := fnDateOfWhenRow, standIns := [], harness := (true, "102e0693410d2aef8023c25d26ddb942d85f58cecb71620c795b74182ba7fd42"), looks := false }, kinds := [], alts := [], laidByText := true, laidKinds := [.data], laidTests := true, laidLooks := .later }
def FnDateOfWhenCardSaid : Prop := Claim7.holds Tryd.pinned (.plain (OpenSpec.ofChange fnDateOfWhenSpec)) fnDateOfWhenCard

/-- THE TIED CARD OF 'laws.FnDateNext'. -/
def fnDateNextCard : Claim7 := { stood := { row := fnDateNextRow, standIns := [], harness := (true, "102e0693410d2aef8023c25d26ddb942d85f58cecb71620c795b74182ba7fd42"), looks := false }, kinds := [], alts := [], laidByText := true, laidKinds := [.data], laidTests := true, laidLooks := .later }
def FnDateNextCardSaid : Prop := Claim7.holds Tryd.pinned (.plain (OpenSpec.ofChange fnDateNextSpec)) fnDateNextCard

/-- THE TIED CARD OF 'laws.FnExactOrdinalOf'. -/
def fnExactOrdinalOfCard : Claim7 := { stood := { row := fnExactOrdinalOfRow, standIns := [], harness := (true, "102e0693410d2aef8023c25d26ddb942d85f58cecb71620c795b74182ba7fd42"), looks := false }, kinds := [], alts := [], laidByText := true, laidKinds := [.data], laidTests := true, laidLooks := .later }
def FnExactOrdinalOfCardSaid : Prop := Claim7.holds Tryd.pinned (.plain (OpenSpec.ofChange fnExactOrdinalOfSpec)) fnExactOrdinalOfCard

/-- THE TIED CARD OF 'laws.FnExactOrdinalDate'. -/
def fnExactOrdinalDateCard : Claim7 := { stood := { row := fnExactOrdinalDateRow, standIns := [], harness := (true, "102e0693410d2aef8023c25d26ddb942d85f58cecb71620c795b74182ba7fd42"), looks := false }, kinds := [], alts := [], laidByText := true, laidKinds := [.data], laidTests := true, laidLooks := .later }
def FnExactOrdinalDateCardSaid : Prop := Claim7.holds Tryd.pinned (.plain (OpenSpec.ofChange fnExactOrdinalDateSpec)) fnExactOrdinalDateCard

/-- THE TIED CARD OF 'laws.FnOrdinalLast'. -/
def fnOrdinalLastCard : Claim7 := { stood := { row := fnOrdinalLastRow, standIns := [], harness := (true, "102e0693410d2aef8023c25d26ddb942d85f58cecb71620c795b74182ba7fd42"), looks := false }, kinds := [], alts := [], laidByText := true, laidKinds := [.data], laidTests := true, laidLooks := .later }
def FnOrdinalLastCardSaid : Prop := Claim7.holds Tryd.pinned (.plain (OpenSpec.ofChange fnOrdinalLastSpec)) fnOrdinalLastCard

/-- THE TIED CARD OF 'laws.FnOrdinalFirst'. -/
def fnOrdinalFirstCard : Claim7 := { stood := { row := fnOrdinalFirstRow, standIns := [], harness := (true, "102e0693410d2aef8023c25d26ddb942d85f58cecb71620c795b74182ba7fd42"), looks := false }, kinds := [], alts := [], laidByText := true, laidKinds := [.data], laidTests := true, laidLooks := .later }
def FnOrdinalFirstCardSaid : Prop := Claim7.holds Tryd.pinned (.plain (OpenSpec.ofChange fnOrdinalFirstSpec)) fnOrdinalFirstCard

/-- THE TIED CARD OF 'laws.FnOrdinal'. -/
def fnOrdinalCard : Claim7 := { stood := { row := fnOrdinalRow, standIns := [], harness := (true, "102e0693410d2aef8023c25d26ddb942d85f58cecb71620c795b74182ba7fd42"), looks := false }, kinds := [], alts := [], laidByText := true, laidKinds := [.data], laidTests := true, laidLooks := .later }
def FnOrdinalCardSaid : Prop := Claim7.holds Tryd.pinned (.plain (OpenSpec.ofChange fnOrdinalSpec)) fnOrdinalCard

/-- THE TIED CARD OF 'laws.FnOrdinalDate'. -/
def fnOrdinalDateCard : Claim7 := { stood := { row := fnOrdinalDateRow, standIns := [], harness := (true, "102e0693410d2aef8023c25d26ddb942d85f58cecb71620c795b74182ba7fd42"), looks := false }, kinds := [], alts := [], laidByText := true, laidKinds := [.data], laidTests := true, laidLooks := .later }
def FnOrdinalDateCardSaid : Prop := Claim7.holds Tryd.pinned (.plain (OpenSpec.ofChange fnOrdinalDateSpec)) fnOrdinalDateCard

/-- THE SECOND FORM's CARD OF 'laws.FnExactDayNumber'. -/
def fnExactDayNumberUptoCard : Claim7 := { stood := { row := fnExactDayNumberUptoRow, standIns := [], harness := (true, "102e0693410d2aef8023c25d26ddb942d85f58cecb71620c795b74182ba7fd42"), looks := false }, kinds := [], alts := [], laidByText := true, laidKinds := [.data], laidTests := true, laidLooks := .later }
def FnExactDayNumberUptoCardSaid : Prop := Claim7.holds Tryd.pinned (.plain (OpenSpec.upto fnExactDayNumberSpec)) fnExactDayNumberUptoCard

/-- THE SECOND FORM's CARD OF 'laws.FnExactDateOf'. -/
def fnExactDateOfUptoCard : Claim7 := { stood := { row := fnExactDateOfUptoRow, standIns := [], harness := (true, "102e0693410d2aef8023c25d26ddb942d85f58cecb71620c795b74182ba7fd42"), looks := false }, kinds := [], alts := [], laidByText := true, laidKinds := [.data], laidTests := true, laidLooks := .later }
def FnExactDateOfUptoCardSaid : Prop := Claim7.holds Tryd.pinned (.plain (OpenSpec.upto fnExactDateOfSpec)) fnExactDateOfUptoCard

/-- THE SECOND FORM's CARD OF 'laws.FnNumberLater'. -/
def fnNumberLaterUptoCard : Claim7 := { stood := { row := fnNumberLaterUptoRow, standIns := [], harness := (true, "102e0693410d2aef8023c25d26ddb942d85f58cecb71620c795b74182ba7fd42"), looks := false }, kinds := [], alts := [], laidByText := true, laidKinds := [.data], laidTests := true, laidLooks := .later }
def FnNumberLaterUptoCardSaid : Prop := Claim7.holds Tryd.pinned (.plain (OpenSpec.upto fnNumberLaterSpec)) fnNumberLaterUptoCard

/-- THE SECOND FORM's CARD OF 'laws.FnNumber'. -/
def fnNumberUptoCard : Claim7 := { stood := { row := fnNumberUptoRow, standIns := [], harness := (true, "102e0693410d2aef8023c25d26ddb942d85f58cecb71620c795b74182ba7fd42"), looks := false }, kinds := [], alts := [], laidByText := true, laidKinds := [.data], laidTests := true, laidLooks := .later }
def FnNumberUptoCardSaid : Prop := Claim7.holds Tryd.pinned (.plain (OpenSpec.upto fnNumberSpec)) fnNumberUptoCard

/-- THE SECOND FORM's CARD OF 'laws.FnDateOf'. -/
def fnDateOfUptoCard : Claim7 := { stood := { row := fnDateOfUptoRow, standIns := [], harness := (true, "102e0693410d2aef8023c25d26ddb942d85f58cecb71620c795b74182ba7fd42"), looks := false }, kinds := [], alts := [], laidByText := true, laidKinds := [.data], laidTests := true, laidLooks := .later }
def FnDateOfUptoCardSaid : Prop := Claim7.holds Tryd.pinned (.plain (OpenSpec.upto fnDateOfSpec)) fnDateOfUptoCard

/-- THE SECOND FORM's CARD OF 'laws.FnDateOfWhen'. -/
def fnDateOfWhenUptoCard : Claim7 := { stood := { row := fnDateOfWhenUptoRow, standIns := [], harness := (true, "102e0693410d2aef8023c25d26ddb942d85f58cecb71620c795b74182ba7fd42"), looks := false }, kinds := [], alts := [], laidByText := true, laidKinds := [.data], laidTests := true, laidLooks := .later }
def FnDateOfWhenUptoCardSaid : Prop := Claim7.holds Tryd.pinned (.plain (OpenSpec.upto fnDateOfWhenSpec)) fnDateOfWhenUptoCard

/-- THE SECOND FORM's CARD OF 'laws.FnDateNext'. -/
def fnDateNextUptoCard : Claim7 := { stood := { row := fnDateNextUptoRow, standIns := [], harness := (true, "102e0693410d2aef8023c25d26ddb942d85f58cecb71620c795b74182ba7fd42"), looks := false }, kinds := [], alts := [], laidByText := true, laidKinds := [.data], laidTests := true, laidLooks := .later }
def FnDateNextUptoCardSaid : Prop := Claim7.holds Tryd.pinned (.plain (OpenSpec.upto fnDateNextSpec)) fnDateNextUptoCard

/-- THE SECOND FORM's CARD OF 'laws.FnExactOrdinalOf'. -/
def fnExactOrdinalOfUptoCard : Claim7 := { stood := { row := fnExactOrdinalOfUptoRow, standIns := [], harness := (true, "102e0693410d2aef8023c25d26ddb942d85f58cecb71620c795b74182ba7fd42"), looks := false }, kinds := [], alts := [], laidByText := true, laidKinds := [.data], laidTests := true, laidLooks := .later }
def FnExactOrdinalOfUptoCardSaid : Prop := Claim7.holds Tryd.pinned (.plain (OpenSpec.upto fnExactOrdinalOfSpec)) fnExactOrdinalOfUptoCard

/-- THE SECOND FORM's CARD OF 'laws.FnExactOrdinalDate'. -/
def fnExactOrdinalDateUptoCard : Claim7 := { stood := { row := fnExactOrdinalDateUptoRow, standIns := [], harness := (true, "102e0693410d2aef8023c25d26ddb942d85f58cecb71620c795b74182ba7fd42"), looks := false }, kinds := [], alts := [], laidByText := true, laidKinds := [.data], laidTests := true, laidLooks := .later }
def FnExactOrdinalDateUptoCardSaid : Prop := Claim7.holds Tryd.pinned (.plain (OpenSpec.upto fnExactOrdinalDateSpec)) fnExactOrdinalDateUptoCard

/-- THE SECOND FORM's CARD OF 'laws.FnOrdinalLast'. -/
def fnOrdinalLastUptoCard : Claim7 := { stood := { row := fnOrdinalLastUptoRow, standIns := [], harness := (true, "102e0693410d2aef8023c25d26ddb942d85f58cecb71620c795b74182ba7fd42"), looks := false }, kinds := [], alts := [], laidByText := true, laidKinds := [.data], laidTests := true, laidLooks := .later }
def FnOrdinalLastUptoCardSaid : Prop := Claim7.holds Tryd.pinned (.plain (OpenSpec.upto fnOrdinalLastSpec)) fnOrdinalLastUptoCard

/-- THE SECOND FORM's CARD OF 'laws.FnOrdinalFirst'. -/
def fnOrdinalFirstUptoCard : Claim7 := { stood := { row := fnOrdinalFirstUptoRow, standIns := [], harness := (true, "102e0693410d2aef8023c25d26ddb942d85f58cecb71620c795b74182ba7fd42"), looks := false }, kinds := [], alts := [], laidByText := true, laidKinds := [.data], laidTests := true, laidLooks := .later }
def FnOrdinalFirstUptoCardSaid : Prop := Claim7.holds Tryd.pinned (.plain (OpenSpec.upto fnOrdinalFirstSpec)) fnOrdinalFirstUptoCard

/-- THE SECOND FORM's CARD OF 'laws.FnOrdinal'. -/
def fnOrdinalUptoCard : Claim7 := { stood := { row := fnOrdinalUptoRow, standIns := [], harness := (true, "102e0693410d2aef8023c25d26ddb942d85f58cecb71620c795b74182ba7fd42"), looks := false }, kinds := [], alts := [], laidByText := true, laidKinds := [.data], laidTests := true, laidLooks := .later }
def FnOrdinalUptoCardSaid : Prop := Claim7.holds Tryd.pinned (.plain (OpenSpec.upto fnOrdinalSpec)) fnOrdinalUptoCard

/-- THE SECOND FORM's CARD OF 'laws.FnOrdinalDate'. -/
def fnOrdinalDateUptoCard : Claim7 := { stood := { row := fnOrdinalDateUptoRow, standIns := [], harness := (true, "102e0693410d2aef8023c25d26ddb942d85f58cecb71620c795b74182ba7fd42"), looks := false }, kinds := [], alts := [], laidByText := true, laidKinds := [.data], laidTests := true, laidLooks := .later }
def FnOrdinalDateUptoCardSaid : Prop := Claim7.holds Tryd.pinned (.plain (OpenSpec.upto fnOrdinalDateSpec)) fnOrdinalDateUptoCard
end Rows
end Go.Proofs.YtdpjhgkiccmnoaaDoor
