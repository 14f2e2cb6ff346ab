/-
  Contracts of the draws of years and months: each returns something small and leaves what was there. Conditions: as each states.
-/
import Derived.Test.YtkdhlgfpnkdbmaaDoorPick
namespace Go.Proofs.YtkdhlgfpnkdbmaaDoor
open Go.RowKit Go.PlainAid
set_option linter.unusedVariables false

/-- A row of small numbers. -/
def IntRow (w : World) (h m : Nat) (lo hi : Int) : Prop := ∀ i, i < m → ∃ v : Int, lo ≤ v ∧ v ≤ hi ∧ w.cell? ⟨h, i, none⟩ = some (.int .i64 v)
theorem intRow_alloc (w : World) (l : List Int) (T : TypeId) (lo hi : Int) (h : ∀ v ∈ l, lo ≤ v ∧ v ≤ hi) : IntRow (w.alloc (.cells (l.map (Value.int .i64)).toArray T)) w.heap.size l.length lo hi := by
  intro i hi
  refine ⟨l[i], (h _ (List.getElem_mem hi)).1, (h _ (List.getElem_mem hi)).2, ?_⟩
  simp [List.getElem?_eq_getElem hi]
theorem IntRow.upd {w w' : World} {h m g : Nat} {lo hi : Int} (hr : IntRow w h m lo hi) (hu : Upd g w w') (hne : h ≠ g) : IntRow w' h m lo hi := fun i hi => by
  obtain ⟨v, h1, h2, h3⟩ := hr i hi
  exact ⟨v, h1, h2, hu.cell (lt_of_cell h3) hne h3⟩
theorem rd_lt {B g p : Nat} {w : World} (h : Rd B w g p) : g < w.heap.size := h.2.1
theorem rd_alloc {B g p : Nat} {w : World} (h : Rd B w g p) (o : Obj) : Rd B (w.alloc o) g p := h.below ((Below.refl _ _).alloc (Nat.le_refl _) o)
/-- A small number, and a reader some picks further. -/
def NumDraw (B g p q : Nat) (lo hi : Int) (w : World) (e : Ending) (w' : World) : Prop := ∃ y : Int, lo ≤ y ∧ y ≤ hi ∧ e = .returned (.int .i64 y) ∧ (∃ p', p' ≤ p + q ∧ Rd B w' g p') ∧ Upd g w w'
theorem dt_ {a b : Int} (h : a = b) : (a == b) = true := beq_iff_eq.2 h
theorem df_ {a b : Int} (h : a ≠ b) : (a == b) = false := beq_eq_false_iff_ne.2 h
/-- A small number. -/
def OnePost (w : World) (e : Ending) (w' : World) : Prop := ∃ a : Int, -1000000000 ≤ a ∧ a ≤ 1000000000 ∧ e = .returned (.int .i64 a) ∧ Below w.heap.size w w'
/-- Two small numbers. -/
def PairPost (w : World) (e : Ending) (w' : World) : Prop := ∃ a b : Int, -1000000000 ≤ a ∧ a ≤ 1000000000 ∧ -1000000000 ≤ b ∧ b ≤ 1000000000 ∧ e = .returned (.tuple #[.int .i64 a, .int .i64 b]) ∧ Below w.heap.size w w'
end Go.Proofs.YtkdhlgfpnkdbmaaDoor
