/-
  The draw of a year and a day of it: two small numbers, and what was there stays. Conditions: as it states.
-/
import Derived.Test.YtdpjhgkiccmnoaaDoorDrawDate2
namespace Go.Proofs.YtdpjhgkiccmnoaaDoor
open Go.RowKit Go.PlainAid
set_option linter.unusedVariables false

/-- What the draw's list holds. -/
def odF : Nat → Int
  | 0 => 0
  | 1 => 1
  | 2 => 59
  | 3 => 60
  | 4 => 365
  | 5 => 366
  | _ => 367
theorem odF_bd (i : Nat) : 0 ≤ odF i ∧ odF i ≤ 367 := by
  match i with
  | 0 => decide
  | 1 => decide
  | 2 => decide
  | 3 => decide
  | 4 => decide
  | 5 => decide
  | _ + 6 => simp [odF]
theorem odF_cell (W : World) (i : Nat) (h : i < 7) : (W.alloc (.cells #[.int .i64 0, .int .i64 1, .int .i64 59, .int .i64 60, .int .i64 365, .int .i64 366, .int .i64 367] 3)).cell? ⟨W.heap.size, i, none⟩ = some (.int .i64 (odF i)) := by
  match i, h with
  | 0, _ => simp [odF]
  | 1, _ => simp [odF]
  | 2, _ => simp [odF]
  | 3, _ => simp [odF]
  | 4, _ => simp [odF]
  | 5, _ => simp [odF]
  | 6, _ => simp [odF]
set_option maxHeartbeats 800000 in
theorem DrawOrdinalDate_any (a : Option Addr) (len cap : Nat) (w : World) (hl : len ≤ cap) (hm : cap ≤ maxLen) (h : Bytes w.heap.size w a len) : Calls Tryd.prog 32 #[.slice a len cap] w (PairPost w) := by
  go_enter Tryd.func32, Tryd.ntmps32
  go_wp2_with fail
  refine (l6Open_any a len cap w hl hm h).mono ?_
  rintro e w0 ⟨rfl, hR0, hb0⟩
  clear h
  go_wp2_with fail
  refine (l91Year_any w.heap.size w.heap.size _ _ hR0 (by omega)).mono ?_
  rintro e w1 ⟨y, hy0, hy1, rfl, ⟨p1, hp1, hR1⟩, hu1⟩
  have hb1 := hb0.trans (hu1.below (Nat.le_refl _) hb0.size)
  clear hR0 hb0 hu1
  go_wp2_with fail
  refine (pick_any w.heap.size w.heap.size _ _ _ hR1 (by omega) (by omega) (by omega)).mono ?_
  rintro e w2 ⟨k, hk0, hk1, rfl, hR2, hu2⟩
  have hb2 := hb1.trans (hu2.below (Nat.le_refl _) hb1.size)
  clear hR1 hb1 hu2
  by_cases h0 : k = 0
  · have q0 := dt_ h0
    clear h0 hk0 hk1
    have hne : w2.heap.size ≠ w.heap.size := by have := rd_lt hR2; omega
    go_wp2_with fail
    go_region_with (first | (go_at_call 42; refine (pick_any w.heap.size w.heap.size _ 7 _ (by first | assumption | exact rd_alloc (by assumption) _) (by omega) (by omega) (by omega)).mono ?_; rintro e w3 ⟨x, hx0, hx1, rfl, hR3, hu3⟩; obtain ⟨i, rfl⟩ := Int.eq_ofNat_of_zero_le hx0; (try (have hc := (hu3.cell (b := w2.heap.size) (by simp) hne (odF_cell w2 i (by omega))))); (try (have hd2 := odF_cell w3 i (by omega)))))
    all_goals go_wp2
    all_goals go_ret2
    all_goals
      have hpb := odF_bd i
      refine ⟨y, odF i, by omega, by omega, by omega, by omega, (by first | rfl), hb2.trans (Upd.below (g := w.heap.size) ?_ (Nat.le_refl _) hb2.size)⟩
      repeat (first | exact Upd.refl _ _ | refine Upd.alloc ?_ _ | refine Upd.drew ?_ | (refine Upd.trans ?_ hu3; clear hu3))
  · have q0 := df_ h0
    clear h0 hk0 hk1
    go_wp2_with fail
    refine (pick_any w.heap.size w.heap.size _ _ _ hR2 (by omega) (by omega) (by omega)).mono ?_
    rintro e w3 ⟨x, hx0, hx1, rfl, hR3, hu3⟩
    have hb3 := hb2.trans (hu3.below (Nat.le_refl _) hb2.size)
    clear hR2 hb2 hu3 hR3
    go_wp2_with fail
    go_ret2
    exact ⟨y, 1 + x * 2, by omega, by omega, by omega, by omega, rfl, hb3⟩
end Go.Proofs.YtdpjhgkiccmnoaaDoor
