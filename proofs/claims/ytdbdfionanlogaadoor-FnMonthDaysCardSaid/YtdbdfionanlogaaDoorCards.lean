/-
  DERIVED. GIVEN WITH THE SEED: THE CARDS: each row of YtdbdfionanlogaaDoorRows.lean that lists a variable, with what it lists TIED to the program's text (the seventh form; the later family's looks); each row that meets fmt, with fmt's text TOLD by the authors' own Lean function (tested against real Go, not proved from fmt's source: count such statements apart). THE CARD IS WHAT COUNTS. Prove the row's statement (the work); the ties are given (YtdbdfionanlogaaDoorTie.lean); close each card by the builder's one call (the guide's Derived/Test/ToyasCard.lean, 'card_holds'). Laid BY PROGRAM, IN A SANDBOX (cutbox-door.mjs). By AI agents, Wed Nov 11 2026. No macro, syntax, notation, axiom, sorry.
-/
import Derived.Test.YtdbdfionanlogaaDoorRows
import GoSem.ClaimSeven
namespace Go.Proofs.YtdbdfionanlogaaDoor
namespace Rows

/-- THE TIED CARD OF 'laws.FnExactMonthDays'. -/
def fnExactMonthDaysCard : Claim7 := { stood := { row := fnExactMonthDaysRow, standIns := [], harness := (true, "16d3d9ad901fb96f33ad15fcb5d4261c8a5ab31776bc64becbb5e78ca84758a2"), looks := false }, kinds := [], alts := [], laidByText := true, laidKinds := [.data], laidTests := true, laidLooks := .later }
def FnExactMonthDaysCardSaid : Prop := Claim7.holds Tryd.pinned (.plain (OpenSpec.ofChange fnExactMonthDaysSpec)) fnExactMonthDaysCard

/-- THE TIED CARD OF 'laws.FnLeap'. -/
def fnLeapCard : Claim7 := { stood := { row := fnLeapRow, standIns := [], harness := (true, "16d3d9ad901fb96f33ad15fcb5d4261c8a5ab31776bc64becbb5e78ca84758a2"), looks := false }, kinds := [], alts := [], laidByText := true, laidKinds := [.data], laidTests := true, laidLooks := .later }
def FnLeapCardSaid : Prop := Claim7.holds Tryd.pinned (.plain (OpenSpec.ofChange fnLeapSpec)) fnLeapCard

/-- THE TIED CARD OF 'laws.FnYearDays'. -/
def fnYearDaysCard : Claim7 := { stood := { row := fnYearDaysRow, standIns := [], harness := (true, "16d3d9ad901fb96f33ad15fcb5d4261c8a5ab31776bc64becbb5e78ca84758a2"), looks := false }, kinds := [], alts := [], laidByText := true, laidKinds := [.data], laidTests := true, laidLooks := .later }
def FnYearDaysCardSaid : Prop := Claim7.holds Tryd.pinned (.plain (OpenSpec.ofChange fnYearDaysSpec)) fnYearDaysCard

/-- THE TIED CARD OF 'laws.FnMonthDays'. -/
def fnMonthDaysCard : Claim7 := { stood := { row := fnMonthDaysRow, standIns := [], harness := (true, "16d3d9ad901fb96f33ad15fcb5d4261c8a5ab31776bc64becbb5e78ca84758a2"), looks := false }, kinds := [], alts := [], laidByText := true, laidKinds := [.data], laidTests := true, laidLooks := .later }
def FnMonthDaysCardSaid : Prop := Claim7.holds Tryd.pinned (.plain (OpenSpec.ofChange fnMonthDaysSpec)) fnMonthDaysCard

/-- THE TIED CARD OF 'laws.FnExactDateValid'. -/
def fnExactDateValidCard : Claim7 := { stood := { row := fnExactDateValidRow, standIns := [], harness := (true, "16d3d9ad901fb96f33ad15fcb5d4261c8a5ab31776bc64becbb5e78ca84758a2"), looks := false }, kinds := [], alts := [], laidByText := true, laidKinds := [.data], laidTests := true, laidLooks := .later }
def FnExactDateValidCardSaid : Prop := Claim7.holds Tryd.pinned (.plain (OpenSpec.ofChange fnExactDateValidSpec)) fnExactDateValidCard

/-- THE SECOND FORM's CARD OF 'laws.FnExactMonthDays'. -/
def fnExactMonthDaysUptoCard : Claim7 := { stood := { row := fnExactMonthDaysUptoRow, standIns := [], harness := (true, "16d3d9ad901fb96f33ad15fcb5d4261c8a5ab31776bc64becbb5e78ca84758a2"), looks := false }, kinds := [], alts := [], laidByText := true, laidKinds := [.data], laidTests := true, laidLooks := .later }
def FnExactMonthDaysUptoCardSaid : Prop := Claim7.holds Tryd.pinned (.plain (OpenSpec.upto fnExactMonthDaysSpec)) fnExactMonthDaysUptoCard

/-- THE SECOND FORM's CARD OF 'laws.FnLeap'. -/
def fnLeapUptoCard : Claim7 := { stood := { row := fnLeapUptoRow, standIns := [], harness := (true, "16d3d9ad901fb96f33ad15fcb5d4261c8a5ab31776bc64becbb5e78ca84758a2"), looks := false }, kinds := [], alts := [], laidByText := true, laidKinds := [.data], laidTests := true, laidLooks := .later }
def FnLeapUptoCardSaid : Prop := Claim7.holds Tryd.pinned (.plain (OpenSpec.upto fnLeapSpec)) fnLeapUptoCard

/-- THE SECOND FORM's CARD OF 'laws.FnYearDays'. -/
def fnYearDaysUptoCard : Claim7 := { stood := { row := fnYearDaysUptoRow, standIns := [], harness := (true, "16d3d9ad901fb96f33ad15fcb5d4261c8a5ab31776bc64becbb5e78ca84758a2"), looks := false }, kinds := [], alts := [], laidByText := true, laidKinds := [.data], laidTests := true, laidLooks := .later }
def FnYearDaysUptoCardSaid : Prop := Claim7.holds Tryd.pinned (.plain (OpenSpec.upto fnYearDaysSpec)) fnYearDaysUptoCard

/-- THE SECOND FORM's CARD OF 'laws.FnMonthDays'. -/
def fnMonthDaysUptoCard : Claim7 := { stood := { row := fnMonthDaysUptoRow, standIns := [], harness := (true, "16d3d9ad901fb96f33ad15fcb5d4261c8a5ab31776bc64becbb5e78ca84758a2"), looks := false }, kinds := [], alts := [], laidByText := true, laidKinds := [.data], laidTests := true, laidLooks := .later }
def FnMonthDaysUptoCardSaid : Prop := Claim7.holds Tryd.pinned (.plain (OpenSpec.upto fnMonthDaysSpec)) fnMonthDaysUptoCard

/-- THE SECOND FORM's CARD OF 'laws.FnExactDateValid'. -/
def fnExactDateValidUptoCard : Claim7 := { stood := { row := fnExactDateValidUptoRow, standIns := [], harness := (true, "16d3d9ad901fb96f33ad15fcb5d4261c8a5ab31776bc64becbb5e78ca84758a2"), looks := false }, kinds := [], alts := [], laidByText := true, laidKinds := [.data], laidTests := true, laidLooks := .later }
def FnExactDateValidUptoCardSaid : Prop := Claim7.holds Tryd.pinned (.plain (OpenSpec.upto fnExactDateValidSpec)) fnExactDateValidUptoCard
end Rows
end Go.Proofs.YtdbdfionanlogaaDoor
