/-
  Contracts of the draws of days: each returns something small and leaves what was there. Conditions: as each states.
-/
import Derived.Test.YtjgpfadoebnchaaDoorDrawDate
import Derived.Test.YtjgpfadoebnchaaDoorDay4
namespace Go.Proofs.YtjgpfadoebnchaaDoor
open Go.RowKit Go.PlainAid
set_option linter.unusedVariables false

/-- A new block's cells, behind what leaves all but block g. -/
theorem upd3_keep {g : Nat} {w w1 : World} {T : TypeId} {a b c : Value} (hu : Upd g (w.alloc (.cells #[a, b, c] T)) w1) (hg : g ≠ w.heap.size) :
    w1.cell? ⟨w.heap.size, 0, none⟩ = some a ∧ w1.cell? ⟨w.heap.size, 1, none⟩ = some b ∧ w1.cell? ⟨w.heap.size, 2, none⟩ = some c ∧
      w1.frozen? ⟨w.heap.size, 0, none⟩ = false ∧ w1.frozen? ⟨w.heap.size, 1, none⟩ = false ∧ w1.frozen? ⟨w.heap.size, 2, none⟩ = false :=
  ⟨hu.cell (by simp) hg.symm (by simp), hu.cell (by simp) hg.symm (by simp), hu.cell (by simp) hg.symm (by simp), (hu.frozen (by simp) hg.symm 0).trans (by simp), (hu.frozen (by simp) hg.symm 1).trans (by simp), (hu.frozen (by simp) hg.symm 2).trans (by simp)⟩
/-- Three cells that lie there and may be written. -/
def Cells3 (w : World) (r : Nat) (a b c : Value) : Prop := w.cell? ⟨r, 0, none⟩ = some a ∧ w.cell? ⟨r, 1, none⟩ = some b ∧ w.cell? ⟨r, 2, none⟩ = some c ∧ w.frozen? ⟨r, 0, none⟩ = false ∧ w.frozen? ⟨r, 1, none⟩ = false ∧ w.frozen? ⟨r, 2, none⟩ = false
theorem Cells3.lt {w : World} {r : Nat} {a b c : Value} (h : Cells3 w r a b c) : r < w.heap.size := lt_of_cell h.1
theorem Cells3.below {w w' : World} {r : Nat} {a b c : Value} (h : Cells3 w r a b c) (hb : Below w.heap.size w w') : Cells3 w' r a b c := by
  have hl := h.lt
  obtain ⟨h0, h1, h2, h3, h4, h5⟩ := h
  exact ⟨(hb.cell hl).trans h0, (hb.cell hl).trans h1, (hb.cell hl).trans h2, (hb.frozen hl).trans h3, (hb.frozen hl).trans h4, (hb.frozen hl).trans h5⟩
theorem Cells3.upd {g : Nat} {w w' : World} {r : Nat} {a b c : Value} (h : Cells3 w r a b c) (hu : Upd g w w') (hn : r ≠ g) : Cells3 w' r a b c := by
  have hl := h.lt
  obtain ⟨h0, h1, h2, h3, h4, h5⟩ := h
  exact ⟨hu.cell hl hn h0, hu.cell hl hn h1, hu.cell hl hn h2, (hu.frozen hl hn 0).trans h3, (hu.frozen hl hn 1).trans h4, (hu.frozen hl hn 2).trans h5⟩
theorem Cells3.alloc {w : World} {r : Nat} {a b c : Value} (h : Cells3 w r a b c) (o : Obj) : Cells3 (w.alloc o) r a b c := h.below ((Below.refl _ _).alloc (Nat.le_refl _) o)
theorem Cells3.new (w : World) (T : TypeId) (a b c : Value) : Cells3 (w.alloc (.cells #[a, b, c] T)) w.heap.size a b c := ⟨by simp, by simp, by simp, by simp, by simp, by simp⟩
/-- A date that there is; what lies below block B is as it was. -/
def GoodDraw (B : Nat) (w : World) (e : Ending) (w' : World) : Prop := ∃ y m d : Int, Cal.Ok y m d ∧ e = .returned (.agg #[.int .i64 y, .int .i64 m, .int .i64 d]) ∧ Below B w w'
/-- A small date; what was there is as it was. -/
def DatePost (w : World) (e : Ending) (w' : World) : Prop := ∃ y m d : Int, -10 ≤ y ∧ y ≤ 10000 ∧ -10 ≤ m ∧ m ≤ 100 ∧ -10 ≤ d ∧ d ≤ 100 ∧ e = .returned (.agg #[.int .i64 y, .int .i64 m, .int .i64 d]) ∧ Below w.heap.size w w'
theorem bytes_alloc {w : World} {a : Option Addr} {len : Nat} (h : Bytes w.heap.size w a len) (o : Obj) : Bytes (w.alloc o).heap.size (w.alloc o) a len := by
  rcases h with h | ⟨b, off, ha, hlt, hc⟩
  · exact .inl h
  · exact .inr ⟨b, off, ha, by simp; omega, fun i hi => by
      obtain ⟨v, h0, h1, h2⟩ := hc i hi
      exact ⟨v, h0, h1, (World.cell?_alloc_lt _ _ ⟨b, off + i, none⟩ hlt).trans h2⟩⟩
end Go.Proofs.YtjgpfadoebnchaaDoor
