/-
  Contracts: the thousandths of a second of a time, the time behind so many. Conditions: as each states.
-/
import Derived.Test.YtkdhlgfpnkdbmaaDoorClk
import Derived.Test.YtkdhlgfpnkdbmaaDoorKeep
namespace Go.Proofs.YtkdhlgfpnkdbmaaDoor
open Go.RowKit Go.PlainAid
set_option linter.unusedVariables false

theorem ClockOk.bd {h m s l : Int} (k : ClockOk h m s l) : 0 ≤ h ∧ h ≤ 24 ∧ 0 ≤ m ∧ m ≤ 59 ∧ 0 ≤ s ∧ s ≤ 59 ∧ 0 ≤ l ∧ l ≤ 999 := by unfold ClockOk at k; omega
theorem ClockOk.ms {h m s l : Int} (k : ClockOk h m s l) : 0 ≤ ((h * 60 + m) * 60 + s) * 1000 + l ∧ ((h * 60 + m) * 60 + s) * 1000 + l ≤ 86400000 := by unfold ClockOk at k; omega
theorem clock_of {n : Int} (h0 : 0 ≤ n) (h1 : n ≤ 86400000) : ClockOk (n / 3600000) (n / 60000 % 60) (n / 1000 % 60) (n % 1000) ∧ ((n / 3600000 * 60 + n / 60000 % 60) * 60 + n / 1000 % 60) * 1000 + n % 1000 = n := by
  unfold ClockOk
  omega
theorem clock_at {h m s l : Int} (k : ClockOk h m s l) : (((h * 60 + m) * 60 + s) * 1000 + l) / 3600000 = h ∧ (((h * 60 + m) * 60 + s) * 1000 + l) / 60000 % 60 = m ∧ (((h * 60 + m) * 60 + s) * 1000 + l) / 1000 % 60 = s ∧ (((h * 60 + m) * 60 + s) * 1000 + l) % 1000 = l := by
  unfold ClockOk at k
  omega
/-- Four cells that lie there and may be written. -/
def Cells4 (w : World) (r : Nat) (a b c d : Value) : Prop := (w.cell? ⟨r, 0, none⟩ = some a ∧ w.cell? ⟨r, 1, none⟩ = some b ∧ w.cell? ⟨r, 2, none⟩ = some c ∧ w.cell? ⟨r, 3, none⟩ = some d) ∧ (w.frozen? ⟨r, 0, none⟩ = false ∧ w.frozen? ⟨r, 1, none⟩ = false ∧ w.frozen? ⟨r, 2, none⟩ = false ∧ w.frozen? ⟨r, 3, none⟩ = false)
theorem Cells4.lt {w : World} {r : Nat} {a b c d : Value} (h : Cells4 w r a b c d) : r < w.heap.size := lt_of_cell h.1.1
theorem Cells4.below {w w' : World} {r : Nat} {a b c d : Value} (h : Cells4 w r a b c d) (hb : Below w.heap.size w w') : Cells4 w' r a b c d := by
  have hl := h.lt
  obtain ⟨⟨h0, h1, h2, h3⟩, h4, h5, h6, h7⟩ := h
  exact ⟨⟨(hb.cell hl).trans h0, (hb.cell hl).trans h1, (hb.cell hl).trans h2, (hb.cell hl).trans h3⟩, (hb.frozen hl).trans h4, (hb.frozen hl).trans h5, (hb.frozen hl).trans h6, (hb.frozen hl).trans h7⟩
theorem Cells4.upd {g : Nat} {w w' : World} {r : Nat} {a b c d : Value} (h : Cells4 w r a b c d) (hu : Upd g w w') (hn : r ≠ g) : Cells4 w' r a b c d := by
  have hl := h.lt
  have hf : ∀ o, w'.frozen? ⟨r, o, none⟩ = w.frozen? ⟨r, o, none⟩ := fun o => World.frozen?_of_block (w := w) (w' := w') (a := ⟨r, o, none⟩) (hu.block r hl hn)
  obtain ⟨⟨h0, h1, h2, h3⟩, h4, h5, h6, h7⟩ := h
  exact ⟨⟨hu.cell hl hn h0, hu.cell hl hn h1, hu.cell hl hn h2, hu.cell hl hn h3⟩, (hf 0).trans h4, (hf 1).trans h5, (hf 2).trans h6, (hf 3).trans h7⟩
theorem Cells4.alloc {w : World} {r : Nat} {a b c d : Value} (h : Cells4 w r a b c d) (o : Obj) : Cells4 (w.alloc o) r a b c d := h.below ((Below.refl _ _).alloc (Nat.le_refl _) o)
theorem Cells4.new (w : World) (T : TypeId) (a b c d : Value) : Cells4 (w.alloc (.cells #[a, b, c, d] T)) w.heap.size a b c d := ⟨⟨by simp, by simp, by simp, by simp⟩, by simp, by simp, by simp, by simp⟩
theorem set4 {w w2 : World} {r : Nat} (h : Below w.heap.size w w2) (hr : w.heap.size ≤ r) (a b c d : Value) : Below w.heap.size w ((((w2.setCell ⟨r, 0, none⟩ a).setCell ⟨r, 1, none⟩ b).setCell ⟨r, 2, none⟩ c).setCell ⟨r, 3, none⟩ d) :=
  (((h.setCell (p := ⟨r, 0, none⟩) hr _).setCell (p := ⟨r, 1, none⟩) hr _).setCell (p := ⟨r, 2, none⟩) hr _).setCell (p := ⟨r, 3, none⟩) hr _
theorem eqClock_same (h m s l : Int) (w : World) : Calls Tryd.prog 16 #[.agg #[.int .i64 h, .int .i64 m, .int .i64 s, .int .i64 l], .agg #[.int .i64 h, .int .i64 m, .int .i64 s, .int .i64 l]] w fun e w' => e = .returned (.bool true) ∧ Below w.heap.size w w' := by
  go_enter Tryd.func16, Tryd.ntmps16
  go_wp2
  go_ret
  exact ⟨rfl, by go_grown⟩
end Go.Proofs.YtkdhlgfpnkdbmaaDoor
