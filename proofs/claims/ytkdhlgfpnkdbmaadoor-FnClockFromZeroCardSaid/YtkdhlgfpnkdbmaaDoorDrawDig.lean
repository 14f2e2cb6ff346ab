/-
  Contracts of the draws of chapter 1: each returns something small and leaves what was there. Conditions: as each states.
-/
import Derived.Test.YtkdhlgfpnkdbmaaDoorPick
import Derived.Test.YtkdhlgfpnkdbmaaDoorDig2
import Derived.Deep.RegionWith
namespace Go.Proofs.YtkdhlgfpnkdbmaaDoor
open Go.RowKit Go.PlainAid
set_option linter.unusedVariables false

/-- A row of short texts. -/
def StrRow (w : World) (h m : Nat) : Prop := ∀ i, i < m → ∃ s : ByteArray, s.size ≤ 20 ∧ w.cell? ⟨h, i, none⟩ = some (.string s)
theorem strRow_alloc (w : World) (l : List ByteArray) (T : TypeId) (h : ∀ s ∈ l, s.size ≤ 20) : StrRow (w.alloc (.cells (l.map Value.string).toArray T)) w.heap.size l.length := by
  intro i hi
  refine ⟨l[i], h _ (List.getElem_mem hi), ?_⟩
  simp [List.getElem?_eq_getElem hi]
theorem Rd.alloc {B g p : Nat} {w : World} (h : Rd B w g p) (o : Obj) : Rd B (w.alloc o) g p := h.below ((Below.refl _ _).alloc (Nat.le_refl _) o)
theorem Rd.lt {B g p : Nat} {w : World} (h : Rd B w g p) : g < w.heap.size := h.2.1
theorem Rd.le {B g p : Nat} {w : World} (h : Rd B w g p) : B ≤ g := h.1
/-- A short text, and a reader some picks further. -/
def StrPost (B g p q n : Nat) (w : World) (e : Ending) (w' : World) : Prop := ∃ s : ByteArray, s.size ≤ n ∧ e = .returned (.string s) ∧ (∃ p', p' ≤ p + q ∧ Rd B w' g p') ∧ Upd g w w'
theorem of_any (B g p h m : Nat) (w : World) (hR : Rd B w g p) (hS : StrRow w h m) (hne : h ≠ g) (hp : p ≤ 10000) (hm : 1 ≤ m) (hm2 : m ≤ 1000) :
    Calls Tryd.prog 21 #[.pointer (some ⟨g, 0, none⟩), .slice (some ⟨h, 0, none⟩) m m] w (StrPost B g p 1 20 w) := by
  have HS := Lib.hid hS
  clear hS
  have hlt := hR.lt
  have hB := hR.le
  go_enter Tryd.func21, Tryd.ntmps21
  go_wp2_with fail
  refine (pick_any B g p _ _ hR (by omega) (by omega) (by omega)).mono ?_
  rintro e w1 ⟨k, hk0, hk1, rfl, hR1, hu1⟩
  obtain ⟨i, rfl⟩ := Int.eq_ofNat_of_zero_le hk0
  obtain ⟨s, hs, hc⟩ := HS.out i (by omega)
  have hc1 := hu1.cell (lt_of_cell hc) hne hc
  have HP := Lib.hid (show StrPost B g p 1 20 w (.returned (.string s)) w1 from ⟨s, hs, rfl, ⟨p + 1, Nat.le_refl _, hR1⟩, hu1⟩)
  clear hR hR1 hu1 hc HS
  go_wp2_with fail
  go_ret
  exact HP.out
/-- Two small numbers. -/
def TwoPost (w : World) (e : Ending) (w' : World) : Prop := ∃ a b : Int, -1000000000 ≤ a ∧ a ≤ 1000000000 ∧ -1000000000 ≤ b ∧ b ≤ 1000000000 ∧ e = .returned (.tuple #[.int .i64 a, .int .i64 b]) ∧ Below w.heap.size w w'
theorem Upd.rule {g : Nat} {w w' : World} (h : Upd g w w') : ∀ b o, b < w.heap.size → b ≠ g → w'.cell? ⟨b, o, none⟩ = w.cell? ⟨b, o, none⟩ :=
  fun b o hb hn => World.cell?_of_block (w := w) (w' := w') (a := ⟨b, o, none⟩) (h.block b hb hn)
/-- A short text and a small number. -/
def TextPost (w : World) (e : Ending) (w' : World) : Prop := ∃ (s : ByteArray) (a : Int), s.size ≤ 1000 ∧ -1000000000 ≤ a ∧ a ≤ 1000000000 ∧ e = .returned (.tuple #[.string s, .int .i64 a]) ∧ Below w.heap.size w w'
/-- A short text and two small numbers. -/
def TextPost2 (w : World) (e : Ending) (w' : World) : Prop := ∃ (s : ByteArray) (a b : Int), s.size ≤ 1000 ∧ -1000000000 ≤ a ∧ a ≤ 1000000000 ∧ -1000000000 ≤ b ∧ b ≤ 1000000000 ∧ e = .returned (.tuple #[.string s, .int .i64 a, .int .i64 b]) ∧ Below w.heap.size w w'
end Go.Proofs.YtkdhlgfpnkdbmaaDoor
