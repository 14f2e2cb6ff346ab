/-
  Contracts of the draws of years and months: each returns something small and leaves what was there. Conditions: as each states.
-/
import Derived.Test.YtjgpfadoebnchaaDoorPick
namespace Go.Proofs.YtjgpfadoebnchaaDoor
open Go.RowKit Go.PlainAid
set_option linter.unusedVariables false

/-- A row of small numbers. -/
def IntRow (w : World) (h m : Nat) (lo hi : Int) : Prop := ∀ i, i < m → ∃ v : Int, lo ≤ v ∧ v ≤ hi ∧ w.cell? ⟨h, i, none⟩ = some (.int .i64 v)
theorem intRow_alloc (w : World) (l : List Int) (T : TypeId) (lo hi : Int) (h : ∀ v ∈ l, lo ≤ v ∧ v ≤ hi) : IntRow (w.alloc (.cells (l.map (Value.int .i64)).toArray T)) w.heap.size l.length lo hi := by
  intro i hi
  refine ⟨l[i], (h _ (List.getElem_mem hi)).1, (h _ (List.getElem_mem hi)).2, ?_⟩
  simp [List.getElem?_eq_getElem hi]
theorem IntRow.upd {w w' : World} {h m g : Nat} {lo hi : Int} (hr : IntRow w h m lo hi) (hu : Upd g w w') (hne : h ≠ g) : IntRow w' h m lo hi := fun i hi => by
  obtain ⟨v, h1, h2, h3⟩ := hr i hi
  exact ⟨v, h1, h2, hu.cell (lt_of_cell h3) hne h3⟩
theorem rd_lt {B g p : Nat} {w : World} (h : Rd B w g p) : g < w.heap.size := h.2.1
theorem rd_alloc {B g p : Nat} {w : World} (h : Rd B w g p) (o : Obj) : Rd B (w.alloc o) g p := h.below ((Below.refl _ _).alloc (Nat.le_refl _) o)
/-- A small number, and a reader some picks further. -/
def NumDraw (B g p q : Nat) (lo hi : Int) (w : World) (e : Ending) (w' : World) : Prop := ∃ y : Int, lo ≤ y ∧ y ≤ hi ∧ e = .returned (.int .i64 y) ∧ (∃ p', p' ≤ p + q ∧ Rd B w' g p') ∧ Upd g w w'
theorem dt_ {a b : Int} (h : a = b) : (a == b) = true := beq_iff_eq.2 h
theorem df_ {a b : Int} (h : a ≠ b) : (a == b) = false := beq_eq_false_iff_ne.2 h
set_option maxHeartbeats 800000 in
theorem l91Year_any (B g p : Nat) (w : World) (hR : Rd B w g p) (hp : p ≤ 1000) : Calls Tryd.prog 44 #[.pointer (some ⟨g, 0, none⟩)] w (NumDraw B g p 2 (-1) 10000 w) := by
  go_enter Tryd.func44, Tryd.ntmps44
  go_wp2_with fail
  refine (pick_any B g p _ _ hR (by omega) (by omega) (by omega)).mono ?_
  rintro e w1 ⟨k, hk0, hk1, rfl, hR1, hu1⟩
  clear hR
  by_cases h0 : k = 0
  · have q0 := dt_ h0
    clear h0 hk0 hk1
    have hlt := rd_lt hR1
    have HI := Lib.hid (intRow_alloc w1 [1, 2, 3, 4, 9998, 9999] 3 (-1) 10000 (by decide))
    go_wp2_with fail
    refine (pick_any B g _ _ _ (rd_alloc hR1 _) (by omega) (by omega) (by omega)).mono ?_
    rintro e w2 ⟨x, hx0, hx1, rfl, hR2, hu2⟩
    obtain ⟨i, rfl⟩ := Int.eq_ofNat_of_zero_le hx0
    obtain ⟨v, hv0, hv1, hc⟩ := HI.out.upd hu2 (by omega) i (by show i < 6; omega)
    have HP := Lib.hid (show NumDraw B g p 2 (-1) 10000 w (.returned (.int .i64 v)) w2 from ⟨v, hv0, hv1, rfl, ⟨p + 1 + 1, by omega, hR2⟩, (hu1.alloc _).trans hu2⟩)
    clear HI hR1 hu1 hR2 hu2
    go_wp2_with fail
    go_ret
    exact HP.out
  · by_cases h1 : k = 1
    · have q0 := df_ h0
      have q1 := dt_ h1
      clear h0 h1 hk0 hk1
      have hlt := rd_lt hR1
      have HI := Lib.hid (intRow_alloc w1 [0, -1, 1, 9999, 10000] 3 (-1) 10000 (by decide))
      go_wp2_with fail
      refine (pick_any B g _ _ _ (rd_alloc hR1 _) (by omega) (by omega) (by omega)).mono ?_
      rintro e w2 ⟨x, hx0, hx1, rfl, hR2, hu2⟩
      obtain ⟨i, rfl⟩ := Int.eq_ofNat_of_zero_le hx0
      obtain ⟨v, hv0, hv1, hc⟩ := HI.out.upd hu2 (by omega) i (by show i < 5; omega)
      have HP := Lib.hid (show NumDraw B g p 2 (-1) 10000 w (.returned (.int .i64 v)) w2 from ⟨v, hv0, hv1, rfl, ⟨p + 1 + 1, by omega, hR2⟩, (hu1.alloc _).trans hu2⟩)
      clear HI hR1 hu1 hR2 hu2
      go_wp2_with fail
      go_ret
      exact HP.out
    · by_cases h2 : k = 2
      · have q0 := df_ h0
        have q1 := df_ h1
        have q2 := dt_ h2
        clear h0 h1 h2 hk0 hk1
        go_wp2_with fail
        refine (pick_any B g _ _ _ hR1 (by omega) (by omega) (by omega)).mono ?_
        rintro e w2 ⟨x, hx0, hx1, rfl, hR2, hu2⟩
        have hu3 := hu1.trans hu2
        clear hR1 hu1 hu2
        go_wp2_with fail
        go_ret
        exact ⟨100 * (1 + x), by omega, by omega, rfl, ⟨p + 1 + 1, by omega, hR2⟩, hu3⟩
      · have q0 := df_ h0
        have q1 := df_ h1
        have q2 := df_ h2
        clear h0 h1 h2 hk0 hk1
        go_wp2_with fail
        refine (pick_any B g _ _ _ hR1 (by omega) (by omega) (by omega)).mono ?_
        rintro e w2 ⟨x, hx0, hx1, rfl, hR2, hu2⟩
        have hu3 := hu1.trans hu2
        clear hR1 hu1 hu2
        go_wp2_with fail
        go_ret
        exact ⟨1900 + x, by omega, by omega, rfl, ⟨p + 1 + 1, by omega, hR2⟩, hu3⟩
/-- A small number. -/
def OnePost (w : World) (e : Ending) (w' : World) : Prop := ∃ a : Int, -1000000000 ≤ a ∧ a ≤ 1000000000 ∧ e = .returned (.int .i64 a) ∧ Below w.heap.size w w'
/-- Two small numbers. -/
def PairPost (w : World) (e : Ending) (w' : World) : Prop := ∃ a b : Int, -1000000000 ≤ a ∧ a ≤ 1000000000 ∧ -1000000000 ≤ b ∧ b ≤ 1000000000 ∧ e = .returned (.tuple #[.int .i64 a, .int .i64 b]) ∧ Below w.heap.size w w'
end Go.Proofs.YtjgpfadoebnchaaDoor
