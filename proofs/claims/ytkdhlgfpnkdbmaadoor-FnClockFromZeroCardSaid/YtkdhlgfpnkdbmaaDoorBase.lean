/-
  Words for memory that the walks of this seat share: what a law's bytes are, what a reader over them holds. No conditions.
-/
import Derived.Test.YtkdhlgfpnkdbmaaDoorMath
import Derived.WalkKit
import Derived.Deep.QuietTactic
import Derived.BigQuiet
import Derived.Outline
import Derived.WalkSpells
import Derived.WalkLawsBesides
import Derived.OpenShut
import Derived.Handy
namespace Go.Proofs.YtkdhlgfpnkdbmaaDoor
open Go.RowKit Go.PlainAid

/-- A slice of integers that came in: nil, or a row of cells. -/
def IsRow (k : IntKind) (w : World) (a : Option Addr) (len cap : Nat) (zs : List Int) : Prop :=
  (a = none ∧ len = 0 ∧ cap = 0 ∧ zs = []) ∨
  ∃ x, a = some x ∧ len ≤ cap ∧ cap ≤ maxLen ∧ zs.length = cap ∧ (∀ i, i < zs.length → w.cell? (x.add i) = some (.int k (zs.getD i 0))) ∧ ∀ n ∈ zs, (Lit.int k n).wf = true

theorem bcell {W w1 : World} (hb : Below W.heap.size W w1) : (∀ b o, b < W.heap.size → w1.cell? ⟨b, o, none⟩ = W.cell? ⟨b, o, none⟩) ∧ (∀ b o, b < W.heap.size → w1.frozen? ⟨b, o, none⟩ = W.frozen? ⟨b, o, none⟩) :=
  ⟨fun b o h => hb.cell (p := ⟨b, o, none⟩) h, fun b o h => hb.frozen (p := ⟨b, o, none⟩) h⟩
theorem lt_of_cell {w : World} {b o : Nat} {v : Value} (h : w.cell? ⟨b, o, none⟩ = some v) : b < w.heap.size := by
  by_cases hb : b < w.heap.size
  · exact hb
  · have e : w.heap[b]? = none := by simp; omega
    simp [World.cell?, e] at h

/-- The bytes of a slice lie below block B. -/
def Bytes (B : Nat) (w : World) (a : Option Addr) (len : Nat) : Prop :=
  len = 0 ∨ ∃ b off, a = some ⟨b, off, none⟩ ∧ b < B ∧ ∀ i, i < len → ∃ v : Int, 0 ≤ v ∧ v ≤ 255 ∧ w.cell? ⟨b, off + i, none⟩ = some (.int .u8 v)
theorem Bytes.below {B : Nat} {w w' : World} {a : Option Addr} {len : Nat} (h : Bytes B w a len) (hb : Below B w w') : Bytes B w' a len := by
  rcases h with h | ⟨b, off, ha, hlt, hc⟩
  · exact .inl h
  · exact .inr ⟨b, off, ha, hlt, fun i hi => by
      obtain ⟨v, h0, h1, h2⟩ := hc i hi
      exact ⟨v, h0, h1, (hb.cell (p := ⟨b, off + i, none⟩) hlt).trans h2⟩⟩
theorem Bytes.some_ {B : Nat} {w : World} {a : Option Addr} {len : Nat} (h : Bytes B w a len) (hl : 0 < len) :
    ∃ b off, a = some ⟨b, off, none⟩ ∧ b < B ∧ ∀ i, i < len → ∃ v : Int, 0 ≤ v ∧ v ≤ 255 ∧ w.cell? ⟨b, off + i, none⟩ = some (.int .u8 v) := by
  rcases h with h | h
  · omega
  · exact h
theorem Bytes.of_row {w : World} {a : Option Addr} {len cap : Nat} {zs : List Int} (h : IsRow .u8 w a len cap zs) : Bytes w.heap.size w a len := by
  rcases h with ⟨_, h, _, _⟩ | ⟨⟨b, off, spot⟩, ha, hl, hm, hz, hc, hw⟩
  · exact .inl h
  · by_cases h0 : len = 0
    · exact .inl h0
    · have hc0 := hc 0 (by omega)
      have hspot : spot = none := by simpa [Addr.add] using World.cell?_spot hc0
      subst hspot
      have hadd : ∀ i, (⟨b, off, none⟩ : Addr).add i = ⟨b, off + i, none⟩ := fun i => by
        unfold Addr.add
        split
        · next h => subst h; rfl
        · rfl
      refine .inr ⟨b, off, ha, ?_, fun i hi => ?_⟩
      · have := hc0
        rw [hadd] at this
        exact lt_of_cell this
      · have h1 := hc i (by omega)
        rw [hadd] at h1
        refine ⟨zs.getD i 0, ?_, ?_, h1⟩
        all_goals
          have hm2 : zs.getD i 0 ∈ zs := by
            rw [List.getD_eq_getElem?_getD, List.getElem?_eq_getElem (by omega)]
            exact List.getElem_mem _
          have := bounds_u8 (hw _ hm2)
          omega
theorem row_len {w : World} {a : Option Addr} {len cap : Nat} {zs : List Int} (h : IsRow .u8 w a len cap zs) : len ≤ cap ∧ cap ≤ maxLen := by
  rcases h with ⟨_, h, h2, _⟩ | ⟨x, ha, hl, hm, _⟩
  · subst h; subst h2; exact ⟨Nat.le_refl _, Nat.zero_le _⟩
  · exact ⟨hl, hm⟩

/-- A reader over bytes: block g, at least B, holds the slice and the place. -/
def Rd (B : Nat) (w : World) (g : Nat) (p : Nat) : Prop :=
  B ≤ g ∧ g < w.heap.size ∧ w.frozen? ⟨g, 1, none⟩ = false ∧ w.cell? ⟨g, 1, none⟩ = some (.int .i64 (p : Int)) ∧
    ∃ (a : Option Addr) (len cap : Nat), len ≤ 2000 ∧ len ≤ cap ∧ w.cell? ⟨g, 0, none⟩ = some (.slice a len cap) ∧ Bytes B w a len
theorem Rd.below {B g p : Nat} {w w' : World} (h : Rd B w g p) (hb : Below w.heap.size w w') : Rd B w' g p := by
  obtain ⟨h1, h2, h3, h4, a, len, cap, h5, h6, h7, h8⟩ := h
  obtain ⟨hc, hf⟩ := bcell hb
  refine ⟨h1, Nat.lt_of_lt_of_le h2 hb.size, (hf _ _ h2).trans h3, (hc _ _ h2).trans h4, a, len, cap, h5, h6, (hc _ _ h2).trans h7, h8.below (hb.mono (by omega))⟩

/-- Of what there was, at most block g has turned. -/
structure Upd (g : Nat) (w w' : World) : Prop where
  os : w'.os = w.os
  tape : w'.tape = w.tape
  output : w'.output = w.output
  size : w.heap.size ≤ w'.heap.size
  block : ∀ k, k < w.heap.size → k ≠ g → w'.heap[k]? = w.heap[k]?
theorem Upd.refl (g : Nat) (w : World) : Upd g w w := ⟨rfl, rfl, rfl, Nat.le_refl _, fun _ _ _ => rfl⟩
theorem Upd.trans {g : Nat} {a b c : World} (h : Upd g a b) (k : Upd g b c) : Upd g a c :=
  ⟨k.os.trans h.os, k.tape.trans h.tape, k.output.trans h.output, Nat.le_trans h.size k.size, fun i hi hn => (k.block i (Nat.lt_of_lt_of_le hi h.size) hn).trans (h.block i hi hn)⟩
theorem Upd.drewN {g : Nat} {a w : World} (h : Upd g a w) (n : Nat) : Upd g a (w.drewN n) := ⟨h.os, h.tape, h.output, h.size, h.block⟩
theorem Upd.drew {g : Nat} {a w : World} (h : Upd g a w) : Upd g a w.drew := ⟨h.os, h.tape, h.output, h.size, h.block⟩
theorem Upd.of_below {g : Nat} {a w : World} (h : Below a.heap.size a w) : Upd g a w := ⟨h.os, h.tape, h.output, h.size, fun k hk _ => h.block k hk⟩
theorem Upd.alloc {g : Nat} {a w : World} (h : Upd g a w) (o : Obj) : Upd g a (w.alloc o) := h.trans (Upd.of_below ((Below.refl _ _).alloc (Nat.le_refl _) o))
theorem Upd.setCell {g : Nat} {a w : World} (h : Upd g a w) (o : Nat) (u : Value) : Upd g a (w.setCell ⟨g, o, none⟩ u) :=
  h.trans ⟨rfl, rfl, rfl, by simp [World.setCell], fun k _ hn => Below.heap_setCell _ _ _ _ hn⟩
theorem Upd.below {g B : Nat} {a w : World} (h : Upd g a w) (hB : B ≤ g) (hs : B ≤ a.heap.size) : Below B a w :=
  ⟨h.os, h.tape, h.output, h.size, fun k hk => h.block k (by omega) (by omega)⟩
theorem Upd.cell {g b o : Nat} {w w' : World} {v : Value} (h : Upd g w w') (hb : b < w.heap.size) (hn : b ≠ g) (hc : w.cell? ⟨b, o, none⟩ = some v) : w'.cell? ⟨b, o, none⟩ = some v :=
  (World.cell?_of_block (w := w) (w' := w') (a := ⟨b, o, none⟩) (h.block b hb hn)).trans hc

/-- A reader over a text: block g holds the text and the place. -/
def RdS (w : World) (g : Nat) (s : ByteArray) (a : Int) : Prop :=
  w.cell? ⟨g, 0, none⟩ = some (.string s) ∧ w.cell? ⟨g, 1, none⟩ = some (.int .i64 a) ∧ w.frozen? ⟨g, 1, none⟩ = false
theorem RdS.lt {w : World} {g : Nat} {s : ByteArray} {a : Int} (h : RdS w g s a) : g < w.heap.size := lt_of_cell h.1
theorem RdS.below {w w' : World} {g : Nat} {s : ByteArray} {a : Int} (h : RdS w g s a) (hb : Below w.heap.size w w') : RdS w' g s a := by
  obtain ⟨hc, hf⟩ := bcell hb
  have hl := h.lt
  exact ⟨(hc _ _ hl).trans h.1, (hc _ _ hl).trans h.2.1, (hf _ _ hl).trans h.2.2⟩
theorem RdS.drewN {w : World} {g : Nat} {s : ByteArray} {a : Int} (h : RdS w g s a) (n : Nat) : RdS (w.drewN n) g s a := h
theorem RdS.setCell {w : World} {g : Nat} {s : ByteArray} {a : Int} (h : RdS w g s a) (b : Int) : RdS (w.setCell ⟨g, 1, none⟩ (.int .i64 b)) g s b := by
  obtain ⟨h1, h2, h3⟩ := h
  exact ⟨by rw [World.cell?_setCell_other _ _ _ _ (by simp)]; exact h1, World.cell?_setCell_same _ _ _ h2, by rw [World.frozen?_setCell]; exact h3⟩
end Go.Proofs.YtkdhlgfpnkdbmaaDoor
