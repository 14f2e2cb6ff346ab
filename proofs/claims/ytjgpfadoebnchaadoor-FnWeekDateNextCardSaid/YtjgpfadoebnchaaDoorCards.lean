/-
  DERIVED. GIVEN WITH THE SEED: THE CARDS: each row of YtjgpfadoebnchaaDoorRows.lean that lists a variable, with what it lists TIED to the program's text (the seventh form; the later family's looks); each row that meets fmt, with fmt's text TOLD by the authors' own Lean function (tested against real Go, not proved from fmt's source: count such statements apart). THE CARD IS WHAT COUNTS. Prove the row's statement (the work); the ties are given (YtjgpfadoebnchaaDoorTie.lean); close each card by the builder's one call (the guide's Derived/Test/ToyasCard.lean, 'card_holds'). Laid BY PROGRAM, IN A SANDBOX (cutbox-door.mjs). By AI agents, Wed Nov 11 2026. No macro, syntax, notation, axiom, sorry.
-/
import Derived.Test.YtjgpfadoebnchaaDoorRows
import GoSem.ClaimSeven
namespace Go.Proofs.YtjgpfadoebnchaaDoor
namespace Rows

/-- THE TIED CARD OF 'laws.FnExactWeekday'. -/
def fnExactWeekdayCard : Claim7 := { stood := { row := fnExactWeekdayRow, standIns := [], harness := (true, "09a3e777fe3b8b3ed7d9f32c3be41b16655065251f248a453fc33ec938072a05"), looks := false }, kinds := [], alts := [], laidByText := true, laidKinds := [.data], laidTests := true, laidLooks := .later }
def FnExactWeekdayCardSaid : Prop := Claim7.holds Tryd.pinned (.plain (OpenSpec.ofChange fnExactWeekdaySpec)) fnExactWeekdayCard

/-- THE TIED CARD OF 'laws.FnExactWeekOf'. -/
def fnExactWeekOfCard : Claim7 := { stood := { row := fnExactWeekOfRow, standIns := [], harness := (true, "09a3e777fe3b8b3ed7d9f32c3be41b16655065251f248a453fc33ec938072a05"), looks := false }, kinds := [], alts := [], laidByText := true, laidKinds := [.data], laidTests := true, laidLooks := .later }
def FnExactWeekOfCardSaid : Prop := Claim7.holds Tryd.pinned (.plain (OpenSpec.ofChange fnExactWeekOfSpec)) fnExactWeekOfCard

/-- THE TIED CARD OF 'laws.FnExactWeekDate'. -/
def fnExactWeekDateCard : Claim7 := { stood := { row := fnExactWeekDateRow, standIns := [], harness := (true, "09a3e777fe3b8b3ed7d9f32c3be41b16655065251f248a453fc33ec938072a05"), looks := false }, kinds := [], alts := [], laidByText := true, laidKinds := [.data], laidTests := true, laidLooks := .later }
def FnExactWeekDateCardSaid : Prop := Claim7.holds Tryd.pinned (.plain (OpenSpec.ofChange fnExactWeekDateSpec)) fnExactWeekDateCard

/-- THE TIED CARD OF 'laws.FnWeeksLong'. -/
def fnWeeksLongCard : Claim7 := { stood := { row := fnWeeksLongRow, standIns := [], harness := (true, "09a3e777fe3b8b3ed7d9f32c3be41b16655065251f248a453fc33ec938072a05"), looks := false }, kinds := [], alts := [], laidByText := true, laidKinds := [.data], laidTests := true, laidLooks := .later }
def FnWeeksLongCardSaid : Prop := Claim7.holds Tryd.pinned (.plain (OpenSpec.ofChange fnWeeksLongSpec)) fnWeeksLongCard

/-- THE TIED CARD OF 'laws.FnWeekdayFirst'. -/
def fnWeekdayFirstCard : Claim7 := { stood := { row := fnWeekdayFirstRow, standIns := [], harness := (true, "09a3e777fe3b8b3ed7d9f32c3be41b16655065251f248a453fc33ec938072a05"), looks := false }, kinds := [], alts := [], laidByText := true, laidKinds := [.data], laidTests := true, laidLooks := .later }
def FnWeekdayFirstCardSaid : Prop := Claim7.holds Tryd.pinned (.plain (OpenSpec.ofChange fnWeekdayFirstSpec)) fnWeekdayFirstCard

/-- THE TIED CARD OF 'laws.FnWeekday'. -/
def fnWeekdayCard : Claim7 := { stood := { row := fnWeekdayRow, standIns := [], harness := (true, "09a3e777fe3b8b3ed7d9f32c3be41b16655065251f248a453fc33ec938072a05"), looks := false }, kinds := [], alts := [], laidByText := true, laidKinds := [.data], laidTests := true, laidLooks := .later }
def FnWeekdayCardSaid : Prop := Claim7.holds Tryd.pinned (.plain (OpenSpec.ofChange fnWeekdaySpec)) fnWeekdayCard

/-- THE TIED CARD OF 'laws.FnWeekOfAll'. -/
def fnWeekOfAllCard : Claim7 := { stood := { row := fnWeekOfAllRow, standIns := [], harness := (true, "09a3e777fe3b8b3ed7d9f32c3be41b16655065251f248a453fc33ec938072a05"), looks := false }, kinds := [], alts := [], laidByText := true, laidKinds := [.data], laidTests := true, laidLooks := .later }
def FnWeekOfAllCardSaid : Prop := Claim7.holds Tryd.pinned (.plain (OpenSpec.ofChange fnWeekOfAllSpec)) fnWeekOfAllCard

/-- THE TIED CARD OF 'laws.FnWeekDateNext'. -/
def fnWeekDateNextCard : Claim7 := { stood := { row := fnWeekDateNextRow, standIns := [], harness := (true, "09a3e777fe3b8b3ed7d9f32c3be41b16655065251f248a453fc33ec938072a05"), looks := false }, kinds := [], alts := [], laidByText := true, laidKinds := [.data], laidTests := true, laidLooks := .later }
def FnWeekDateNextCardSaid : Prop := Claim7.holds Tryd.pinned (.plain (OpenSpec.ofChange fnWeekDateNextSpec)) fnWeekDateNextCard

/-- THE TIED CARD OF 'laws.FnWeekMonday'. -/
def fnWeekMondayCard : Claim7 := { stood := { row := fnWeekMondayRow, standIns := [], harness := (true, "09a3e777fe3b8b3ed7d9f32c3be41b16655065251f248a453fc33ec938072a05"), looks := false }, kinds := [], alts := [], laidByText := true, laidKinds := [.data], laidTests := true, laidLooks := .later }
def FnWeekMondayCardSaid : Prop := Claim7.holds Tryd.pinned (.plain (OpenSpec.ofChange fnWeekMondaySpec)) fnWeekMondayCard

/-- THE TIED CARD OF 'laws.FnWeekDate'. -/
def fnWeekDateCard : Claim7 := { stood := { row := fnWeekDateRow, standIns := [], harness := (true, "09a3e777fe3b8b3ed7d9f32c3be41b16655065251f248a453fc33ec938072a05"), looks := false }, kinds := [], alts := [], laidByText := true, laidKinds := [.data], laidTests := true, laidLooks := .later }
def FnWeekDateCardSaid : Prop := Claim7.holds Tryd.pinned (.plain (OpenSpec.ofChange fnWeekDateSpec)) fnWeekDateCard

/-- THE TIED CARD OF 'laws.FnWeekOfNear'. -/
def fnWeekOfNearCard : Claim7 := { stood := { row := fnWeekOfNearRow, standIns := [], harness := (true, "09a3e777fe3b8b3ed7d9f32c3be41b16655065251f248a453fc33ec938072a05"), looks := false }, kinds := [], alts := [], laidByText := true, laidKinds := [.data], laidTests := true, laidLooks := .later }
def FnWeekOfNearCardSaid : Prop := Claim7.holds Tryd.pinned (.plain (OpenSpec.ofChange fnWeekOfNearSpec)) fnWeekOfNearCard

/-- THE TIED CARD OF 'laws.FnWeekOf'. -/
def fnWeekOfCard : Claim7 := { stood := { row := fnWeekOfRow, standIns := [], harness := (true, "09a3e777fe3b8b3ed7d9f32c3be41b16655065251f248a453fc33ec938072a05"), looks := false }, kinds := [], alts := [], laidByText := true, laidKinds := [.data], laidTests := true, laidLooks := .later }
def FnWeekOfCardSaid : Prop := Claim7.holds Tryd.pinned (.plain (OpenSpec.ofChange fnWeekOfSpec)) fnWeekOfCard

/-- THE SECOND FORM's CARD OF 'laws.FnExactWeekday'. -/
def fnExactWeekdayUptoCard : Claim7 := { stood := { row := fnExactWeekdayUptoRow, standIns := [], harness := (true, "09a3e777fe3b8b3ed7d9f32c3be41b16655065251f248a453fc33ec938072a05"), looks := false }, kinds := [], alts := [], laidByText := true, laidKinds := [.data], laidTests := true, laidLooks := .later }
def FnExactWeekdayUptoCardSaid : Prop := Claim7.holds Tryd.pinned (.plain (OpenSpec.upto fnExactWeekdaySpec)) fnExactWeekdayUptoCard

/-- THE SECOND FORM's CARD OF 'laws.FnExactWeekOf'. -/
def fnExactWeekOfUptoCard : Claim7 := { stood := { row := fnExactWeekOfUptoRow, standIns := [], harness := (true, "09a3e777fe3b8b3ed7d9f32c3be41b16655065251f248a453fc33ec938072a05"), looks := false }, kinds := [], alts := [], laidByText := true, laidKinds := [.data], laidTests := true, laidLooks := .later }
def FnExactWeekOfUptoCardSaid : Prop := Claim7.holds Tryd.pinned (.plain (OpenSpec.upto fnExactWeekOfSpec)) fnExactWeekOfUptoCard

/-- THE SECOND FORM's CARD OF 'laws.FnExactWeekDate'. -/
def fnExactWeekDateUptoCard : Claim7 := { stood := { row := fnExactWeekDateUptoRow, standIns := [], harness := (true, "09a3e777fe3b8b3ed7d9f32c3be41b16655065251f248a453fc33ec938072a05"), looks := false }, kinds := [], alts := [], laidByText := true, laidKinds := [.data], laidTests := true, laidLooks := .later }
def FnExactWeekDateUptoCardSaid : Prop := Claim7.holds Tryd.pinned (.plain (OpenSpec.upto fnExactWeekDateSpec)) fnExactWeekDateUptoCard

/-- THE SECOND FORM's CARD OF 'laws.FnWeeksLong'. -/
def fnWeeksLongUptoCard : Claim7 := { stood := { row := fnWeeksLongUptoRow, standIns := [], harness := (true, "09a3e777fe3b8b3ed7d9f32c3be41b16655065251f248a453fc33ec938072a05"), looks := false }, kinds := [], alts := [], laidByText := true, laidKinds := [.data], laidTests := true, laidLooks := .later }
def FnWeeksLongUptoCardSaid : Prop := Claim7.holds Tryd.pinned (.plain (OpenSpec.upto fnWeeksLongSpec)) fnWeeksLongUptoCard

/-- THE SECOND FORM's CARD OF 'laws.FnWeekdayFirst'. -/
def fnWeekdayFirstUptoCard : Claim7 := { stood := { row := fnWeekdayFirstUptoRow, standIns := [], harness := (true, "09a3e777fe3b8b3ed7d9f32c3be41b16655065251f248a453fc33ec938072a05"), looks := false }, kinds := [], alts := [], laidByText := true, laidKinds := [.data], laidTests := true, laidLooks := .later }
def FnWeekdayFirstUptoCardSaid : Prop := Claim7.holds Tryd.pinned (.plain (OpenSpec.upto fnWeekdayFirstSpec)) fnWeekdayFirstUptoCard

/-- THE SECOND FORM's CARD OF 'laws.FnWeekday'. -/
def fnWeekdayUptoCard : Claim7 := { stood := { row := fnWeekdayUptoRow, standIns := [], harness := (true, "09a3e777fe3b8b3ed7d9f32c3be41b16655065251f248a453fc33ec938072a05"), looks := false }, kinds := [], alts := [], laidByText := true, laidKinds := [.data], laidTests := true, laidLooks := .later }
def FnWeekdayUptoCardSaid : Prop := Claim7.holds Tryd.pinned (.plain (OpenSpec.upto fnWeekdaySpec)) fnWeekdayUptoCard

/-- THE SECOND FORM's CARD OF 'laws.FnWeekOfAll'. -/
def fnWeekOfAllUptoCard : Claim7 := { stood := { row := fnWeekOfAllUptoRow, standIns := [], harness := (true, "09a3e777fe3b8b3ed7d9f32c3be41b16655065251f248a453fc33ec938072a05"), looks := false }, kinds := [], alts := [], laidByText := true, laidKinds := [.data], laidTests := true, laidLooks := .later }
def FnWeekOfAllUptoCardSaid : Prop := Claim7.holds Tryd.pinned (.plain (OpenSpec.upto fnWeekOfAllSpec)) fnWeekOfAllUptoCard

/-- THE SECOND FORM's CARD OF 'laws.FnWeekDateNext'. -/
def fnWeekDateNextUptoCard : Claim7 := { stood := { row := fnWeekDateNextUptoRow, standIns := [], harness := (true, "09a3e777fe3b8b3ed7d9f32c3be41b16655065251f248a453fc33ec938072a05"), looks := false }, kinds := [], alts := [], laidByText := true, laidKinds := [.data], laidTests := true, laidLooks := .later }
def FnWeekDateNextUptoCardSaid : Prop := Claim7.holds Tryd.pinned (.plain (OpenSpec.upto fnWeekDateNextSpec)) fnWeekDateNextUptoCard

/-- THE SECOND FORM's CARD OF 'laws.FnWeekMonday'. -/
def fnWeekMondayUptoCard : Claim7 := { stood := { row := fnWeekMondayUptoRow, standIns := [], harness := (true, "09a3e777fe3b8b3ed7d9f32c3be41b16655065251f248a453fc33ec938072a05"), looks := false }, kinds := [], alts := [], laidByText := true, laidKinds := [.data], laidTests := true, laidLooks := .later }
def FnWeekMondayUptoCardSaid : Prop := Claim7.holds Tryd.pinned (.plain (OpenSpec.upto fnWeekMondaySpec)) fnWeekMondayUptoCard

/-- THE SECOND FORM's CARD OF 'laws.FnWeekDate'. -/
def fnWeekDateUptoCard : Claim7 := { stood := { row := fnWeekDateUptoRow, standIns := [], harness := (true, "09a3e777fe3b8b3ed7d9f32c3be41b16655065251f248a453fc33ec938072a05"), looks := false }, kinds := [], alts := [], laidByText := true, laidKinds := [.data], laidTests := true, laidLooks := .later }
def FnWeekDateUptoCardSaid : Prop := Claim7.holds Tryd.pinned (.plain (OpenSpec.upto fnWeekDateSpec)) fnWeekDateUptoCard

/-- THE SECOND FORM's CARD OF 'laws.FnWeekOfNear'. -/
def fnWeekOfNearUptoCard : Claim7 := { stood := { row := fnWeekOfNearUptoRow, standIns := [], harness := (true, "09a3e777fe3b8b3ed7d9f32c3be41b16655065251f248a453fc33ec938072a05"), looks := false }, kinds := [], alts := [], laidByText := true, laidKinds := [.data], laidTests := true, laidLooks := .later }
def FnWeekOfNearUptoCardSaid : Prop := Claim7.holds Tryd.pinned (.plain (OpenSpec.upto fnWeekOfNearSpec)) fnWeekOfNearUptoCard

/-- THE SECOND FORM's CARD OF 'laws.FnWeekOf'. -/
def fnWeekOfUptoCard : Claim7 := { stood := { row := fnWeekOfUptoRow, standIns := [], harness := (true, "09a3e777fe3b8b3ed7d9f32c3be41b16655065251f248a453fc33ec938072a05"), looks := false }, kinds := [], alts := [], laidByText := true, laidKinds := [.data], laidTests := true, laidLooks := .later }
def FnWeekOfUptoCardSaid : Prop := Claim7.holds Tryd.pinned (.plain (OpenSpec.upto fnWeekOfSpec)) fnWeekOfUptoCard
end Rows
end Go.Proofs.YtjgpfadoebnchaaDoor
