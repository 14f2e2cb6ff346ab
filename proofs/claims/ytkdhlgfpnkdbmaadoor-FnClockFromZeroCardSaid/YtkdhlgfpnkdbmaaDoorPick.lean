/-
  Contracts of the reader that a draw goes by: opened over the law's bytes it is at their head; a pick of n gives a number from 0 to n-1 and turns that reader alone. Conditions: as each states.
-/
import Derived.Test.YtkdhlgfpnkdbmaaDoorBase
import Derived.Test.YtkdhlgfpnkdbmaaDoorProg
import Derived.Laws.Bits64
namespace Go.Proofs.YtkdhlgfpnkdbmaaDoor
open Go.RowKit Go.PlainAid
set_option linter.unusedVariables false

theorem xor_small (a b : Nat) (ha : a < 2 ^ 40) (hb : b < 2 ^ 40) : bits .xor .i64 (a : Int) (b : Int) = ((a ^^^ b : Nat) : Int) := by
  have hx : a ^^^ b < 2 ^ 40 := Nat.xor_lt_two_pow ha hb
  have h1 : (BitVec.ofInt 64 (a : Int)).toNat = a := by
    rw [BitVec.ofInt_natCast, BitVec.toNat_ofNat]; exact Nat.mod_eq_of_lt (by omega)
  have h2 : (BitVec.ofInt 64 (b : Int)).toNat = b := by
    rw [BitVec.ofInt_natCast, BitVec.toNat_ofNat]; exact Nat.mod_eq_of_lt (by omega)
  show IntKind.i64.wrap ((BitVec.ofInt 64 (a : Int) ^^^ BitVec.ofInt 64 (b : Int)).toNat : Int) = _
  rw [BitVec.toNat_xor, h1, h2]
  exact IntWalk.i64_in _ ⟨by omega, by omega⟩
/-- The mixture behind the bytes is not negative. -/
def mixed (x : Int) : Int := bits .xor .i64 x (x / 64)
theorem mixed_bd (x : Int) (h0 : 0 ≤ x) (h1 : x ≤ 1000000000) : 0 ≤ mixed x ∧ mixed x < 1099511627776 := by
  obtain ⟨a, rfl⟩ := Int.eq_ofNat_of_zero_le h0
  unfold mixed
  have e : ((a : Int) / 64) = ((a / 64 : Nat) : Int) := by omega
  have hx : a ^^^ (a / 64) < 2 ^ 40 := Nat.xor_lt_two_pow (by omega) (by omega)
  rw [e, xor_small a (a / 64) (by omega) (by omega)]
  omega

/-- What opening leaves: a reader in a new block. -/
def OpenPost (w : World) (e : Ending) (w' : World) : Prop := e = .returned (.pointer (some ⟨w.heap.size, 0, none⟩)) ∧ Rd w.heap.size w' w.heap.size 0 ∧ Below w.heap.size w w'
theorem bytes_take {B : Nat} {w : World} {a : Option Addr} {len k : Nat} (h : Bytes B w a len) (hk : k ≤ len) : Bytes B w a k := by
  rcases h with h | ⟨b, off, ha, hlt, hc⟩
  · exact .inl (by omega)
  · exact .inr ⟨b, off, ha, hlt, fun i hi => hc i (by omega)⟩
theorem rd_new {w : World} {a : Option Addr} {len cap : Nat} (T : TypeId) (h : Bytes w.heap.size w a len) (h1 : len ≤ 2000) (h2 : len ≤ cap) : Rd w.heap.size (w.alloc (.cells #[.slice a len cap, .int .i64 0] T)) w.heap.size 0 :=
  ⟨Nat.le_refl _, by simp, by simp, by simp, a, len, cap, h1, h2, by simp, h.below ((Below.refl _ _).alloc (Nat.le_refl _) _)⟩
theorem l6Open_any (a : Option Addr) (len cap : Nat) (w : World) (hl : len ≤ cap) (hm : cap ≤ maxLen) (h : Bytes w.heap.size w a len) : Calls Tryd.prog 18 #[.slice a len cap] w (OpenPost w) := by
  unfold maxLen at hm
  by_cases hlen : (2000 : Int) < (len : Int)
  · obtain ⟨b, off, rfl, hlt, hc⟩ := h.some_ (by omega)
    have HB := Lib.hid (bytes_take h (show 2000 ≤ len from by omega))
    clear h hc
    go_enter Tryd.func18, Tryd.ntmps18
    go_wp2
    go_ret
    exact ⟨rfl, rd_new _ HB.out (by omega) (by omega), (Below.refl _ _).alloc (Nat.le_refl _) _⟩
  · have HB := Lib.hid h
    clear h
    go_enter Tryd.func18, Tryd.ntmps18
    go_wp2
    go_ret
    exact ⟨rfl, rd_new _ HB.out (by omega) (by omega), (Below.refl _ _).alloc (Nat.le_refl _) _⟩
/-- What a pick leaves. -/
def PickPost (B g p : Nat) (n : Int) (w : World) (e : Ending) (w' : World) : Prop := ∃ k : Int, 0 ≤ k ∧ k < n ∧ e = .returned (.int .i64 k) ∧ Rd B w' g (p + 1) ∧ Upd g w w'
theorem Rd.step {B g p : Nat} {w : World} (h : Rd B w g p) (n : Nat) : Rd B ((w.setCell ⟨g, 1, none⟩ (.int .i64 ((p : Int) + 1))).drewN n) g (p + 1) := by
  obtain ⟨h1, h2, h3, h4, a, len, cap, h5, h6, h7, h8⟩ := h
  refine ⟨h1, by simpa using h2, by simpa using h3, ?_, a, len, cap, h5, h6, ?_, ?_⟩
  · show (w.setCell ⟨g, 1, none⟩ (.int .i64 ((p : Int) + 1))).cell? ⟨g, 1, none⟩ = _
    rw [World.cell?_setCell_same _ _ _ h4]
    rfl
  · show (w.setCell ⟨g, 1, none⟩ (.int .i64 ((p : Int) + 1))).cell? ⟨g, 0, none⟩ = _
    rw [World.cell?_setCell_other _ _ _ _ (by simp)]
    exact h7
  · exact h8.below (((Below.refl B w).setCell (p := ⟨g, 1, none⟩) h1 _).trans ⟨rfl, rfl, rfl, Nat.le_refl _, fun _ _ => rfl⟩)
theorem pick_upd {w : World} (g n : Nat) (v : Value) : Upd g w ((w.setCell ⟨g, 1, none⟩ v).drewN n) := ((Upd.refl g w).setCell 1 v).drewN n
theorem far_cell {w : World} {b g o : Nat} {v : Value} (h : b ≠ g) : (w.setCell ⟨g, 1, none⟩ v).cell? ⟨b, o, none⟩ = w.cell? ⟨b, o, none⟩ :=
  World.cell?_setCell_other _ _ _ _ (fun e => h (congrArg Addr.block e).symm)
set_option maxHeartbeats 800000 in
theorem pick_any (B g p : Nat) (n : Int) (w : World) (hR : Rd B w g p) (hp : p ≤ 10000) (hn : 1 ≤ n) (hn2 : n ≤ 1000000) : Calls Tryd.prog 20 #[.pointer (some ⟨g, 0, none⟩), .int .i64 n] w (PickPost B g p n w) := by
  have HS := Lib.hid (fun k => hR.step k)
  obtain ⟨h1, h2, h3, h4, a, len, cap, h5, h6, h7, h8⟩ := hR
  by_cases h0 : len = 0
  · subst h0
    have HP := Lib.hid (fun k (hk : k = 0) => show PickPost B g p n w (.returned (.int .i64 0)) ((w.setCell ⟨g, 1, none⟩ (.int .i64 ((p : Int) + 1))).drewN k) from ⟨0, by omega, by omega, rfl, HS.out k, pick_upd g k _⟩)
    clear HS h8 h6
    go_enter Tryd.func20, Tryd.ntmps20
    go_wp2
    go_ret
    exact HP.out 0 rfl
  · obtain ⟨b, off, rfl, hlt, hc⟩ := h8.some_ (by omega)
    have hne : b ≠ g := by omega
    by_cases hpl : (p : Int) < (len : Int)
    · obtain ⟨v, hv0, hv1, hv2⟩ := hc p (by omega)
      have hcell : (w.setCell ⟨g, 1, none⟩ (.int .i64 ((p : Int) + 1))).cell? ⟨b, off + p, none⟩ = some (.int .u8 v) := by
        exact (far_cell hne).trans hv2
      have HP := Lib.hid (show PickPost B g p n w (.returned (.int .i64 (v % n))) ((w.setCell ⟨g, 1, none⟩ (.int .i64 ((p : Int) + 1))).drewN 0) from ⟨v % n, Int.emod_nonneg _ (by omega), Int.emod_lt_of_pos _ (by omega), rfl, HS.out 0, pick_upd g 0 _⟩)
      have hl0 : ((len : Int) == 0) = false := beq_eq_false_iff_ne.2 (by omega)
      clear HS h8 hc hv2
      go_enter Tryd.func20, Tryd.ntmps20
      go_wp2
      go_ret
      exact HP.out
    · have hm1 : p % len < len := Nat.mod_lt _ (by omega)
      have hm2 : (p * 7 + 3) % len < len := Nat.mod_lt _ (by omega)
      obtain ⟨v1, hv0, hv1, hv2⟩ := hc (p % len) hm1
      obtain ⟨v2, hu0, hu1, hu2⟩ := hc ((p * 7 + 3) % len) hm2
      have hcell : (w.setCell ⟨g, 1, none⟩ (.int .i64 ((p : Int) + 1))).cell? ⟨b, off + p % len, none⟩ = some (.int .u8 v1) := by
        exact (far_cell hne).trans hv2
      have hcell2 : (w.setCell ⟨g, 1, none⟩ (.int .i64 ((p : Int) + 1))).cell? ⟨b, off + (p * 7 + 3) % len, none⟩ = some (.int .u8 v2) := by
        exact (far_cell hne).trans hu2
      have hl0 : ((len : Int) == 0) = false := beq_eq_false_iff_ne.2 (by omega)
      have hi1 : 0 ≤ (p : Int) % (len : Int) := Int.emod_nonneg _ (by omega)
      have hi2 : (p : Int) % (len : Int) < (len : Int) := Int.emod_lt_of_pos _ (by omega)
      have hi3 : 0 ≤ ((p : Int) * 7 + 3) % (len : Int) := Int.emod_nonneg _ (by omega)
      have hi4 : ((p : Int) * 7 + 3) % (len : Int) < (len : Int) := Int.emod_lt_of_pos _ (by omega)
      have hn1 : ((p : Int) % (len : Int)).toNat = p % len := by rw [← Int.natCast_emod, Int.toNat_natCast]
      have hn2 : (((p : Int) * 7 + 3) % (len : Int)).toNat = (p * 7 + 3) % len := by
        rw [show (p : Int) * 7 + 3 = ((p * 7 + 3 : Nat) : Int) from by omega, ← Int.natCast_emod, Int.toNat_natCast]
      have hq0 : 0 ≤ (p : Int) / (len : Int) := Int.ediv_nonneg (by omega) (by omega)
      have hq1 : (p : Int) / (len : Int) ≤ 10000 := Int.le_trans (Int.ediv_le_self _ (by omega)) (by omega)
      have hx : 0 ≤ bits .xor .i64 (v1 * 131 + v2 * 1117 + (p : Int) * 29 + (p : Int) / (len : Int) * 53) ((v1 * 131 + v2 * 1117 + (p : Int) * 29 + (p : Int) / (len : Int) * 53) / 64) := (mixed_bd _ (by omega) (by omega)).1
      have HP := Lib.hid (fun k => show PickPost B g p n w (.returned (.int .i64 (mixed (v1 * 131 + v2 * 1117 + (p : Int) * 29 + (p : Int) / (len : Int) * 53) % n))) ((w.setCell ⟨g, 1, none⟩ (.int .i64 ((p : Int) + 1))).drewN k) from ⟨_, Int.emod_nonneg _ (by omega), Int.emod_lt_of_pos _ (by omega), rfl, HS.out k, pick_upd g k _⟩)
      clear HS h8 hc hv2 hu2
      go_enter Tryd.func20, Tryd.ntmps20
      go_wp2
      go_quiet (fail)
      go_wp2
      go_ret
      exact HP.out _
end Go.Proofs.YtkdhlgfpnkdbmaaDoor
