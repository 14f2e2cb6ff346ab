/-
  Contracts of the draws of chapter 1: each returns something small and leaves what was there. Conditions: as each states.
-/
import Derived.Test.YteamcgolfopnoaaPick
import Derived.Test.YteamcgolfopnoaaDig2
import Derived.Deep.RegionWith
namespace Go.Proofs.Yteamcgolfopnoaa
open Go.RowKit Go.PlainAid
set_option linter.unusedVariables false

/-- A row of short texts. -/
def StrRow (w : World) (h m : Nat) : Prop := ∀ i, i < m → ∃ s : ByteArray, s.size ≤ 20 ∧ w.cell? ⟨h, i, none⟩ = some (.string s)
theorem strRow_alloc (w : World) (l : List ByteArray) (T : TypeId) (h : ∀ s ∈ l, s.size ≤ 20) : StrRow (w.alloc (.cells (l.map Value.string).toArray T)) w.heap.size l.length := by
  intro i hi
  refine ⟨l[i], h _ (List.getElem_mem hi), ?_⟩
  simp [List.getElem?_eq_getElem hi]
theorem Rd.alloc {B g p : Nat} {w : World} (h : Rd B w g p) (o : Obj) : Rd B (w.alloc o) g p := h.below ((Below.refl _ _).alloc (Nat.le_refl _) o)
theorem Rd.lt {B g p : Nat} {w : World} (h : Rd B w g p) : g < w.heap.size := h.2.1
theorem Rd.le {B g p : Nat} {w : World} (h : Rd B w g p) : B ≤ g := h.1
/-- A short text, and a reader some picks further. -/
def StrPost (B g p q n : Nat) (w : World) (e : Ending) (w' : World) : Prop := ∃ s : ByteArray, s.size ≤ n ∧ e = .returned (.string s) ∧ (∃ p', p' ≤ p + q ∧ Rd B w' g p') ∧ Upd g w w'
theorem of_any (B g p h m : Nat) (w : World) (hR : Rd B w g p) (hS : StrRow w h m) (hne : h ≠ g) (hp : p ≤ 10000) (hm : 1 ≤ m) (hm2 : m ≤ 1000) :
    Calls Try.prog 40 #[.pointer (some ⟨g, 0, none⟩), .slice (some ⟨h, 0, none⟩) m m] w (StrPost B g p 1 20 w) := by
  have HS := Lib.hid hS
  clear hS
  have hlt := hR.lt
  have hB := hR.le
  go_enter Try.func40, Try.ntmps40
  go_wp2_with fail
  refine (pick_any B g p _ _ hR (by omega) (by omega) (by omega)).mono ?_
  rintro e w1 ⟨k, hk0, hk1, rfl, hR1, hu1⟩
  obtain ⟨i, rfl⟩ := Int.eq_ofNat_of_zero_le hk0
  obtain ⟨s, hs, hc⟩ := HS.out i (by omega)
  have hc1 := hu1.cell (lt_of_cell hc) hne hc
  have HP := Lib.hid (show StrPost B g p 1 20 w (.returned (.string s)) w1 from ⟨s, hs, rfl, ⟨p + 1, Nat.le_refl _, hR1⟩, hu1⟩)
  clear hR hR1 hu1 hc HS
  go_wp2_with fail
  go_ret
  exact HP.out
theorem add_law {P : Program} {a b : ByteArray} (h : a.size + b.size ≤ 1000000) (w : World) : (Op.stringOp .add a b).run P w = .ok (.string (a ++ b)) w := run_string_add_sum w a b (by omega)
theorem add_size (a b : ByteArray) : (a ++ b).size = a.size + b.size := by simp
set_option maxHeartbeats 800000 in
theorem l91Digits_any (B g p : Nat) (w : World) (hR : Rd B w g p) (hp : p ≤ 1000) :
    Calls Try.prog 36 #[.pointer (some ⟨g, 0, none⟩)] w (StrPost B g p 9 60 w) := by
  have hlt := hR.lt
  have hB := hR.le
  go_enter Try.func36, Try.ntmps36
  go_wp2_with fail
  refine (of_any B g p _ _ _ (hR.alloc _) (strRow_alloc w [⟨#[]⟩, ⟨#[]⟩, ⟨#[120]⟩, ⟨#[45]⟩, ⟨#[84]⟩] 9 (by decide)) (by omega) (by omega) (by decide) (by decide)).mono ?_
  rintro e w1 ⟨s1, hs1, rfl, ⟨p1, hp1, hR1⟩, hu1⟩
  have hv1 := ((Upd.refl g w).alloc _).trans hu1
  clear hu1 hR
  go_wp2_with fail
  refine (pick_any B g p1 _ _ hR1 (by omega) (by omega) (by omega)).mono ?_
  rintro e w2 ⟨n, hn0, hn1, rfl, hR2, hu2⟩
  obtain ⟨n, rfl⟩ := Int.eq_ofNat_of_zero_le hn0
  have hv2 := hv1.trans hu2
  clear hR1 hv1 hu2
  go_wp2_with fail
  go_loopw [3, 5] (fun o i wr => ∃ (k p2 : Nat) (s : ByteArray), k ≤ n ∧ i = .int .i64 (k : Int) ∧ o = .string s ∧ s.size ≤ 20 + k ∧ p2 ≤ p + 2 + k ∧ Rd B wr g p2 ∧ Upd g w wr) (fun _ i _ => n - (intOf i).toNat)
  case atStart => exact ⟨0, p1 + 1, s1, Nat.zero_le _, rfl, rfl, by omega, by omega, hR2, hv2⟩
  case round =>
    obtain ⟨k, p2, s, hk, rfl, rfl, hs, hp2, hR3, hu3⟩ := hrel
    clear hR2 hv2
    by_cases hkn : k < n
    · go_wp2_with fail
      refine (pick_any B g p2 _ _ hR3 (by omega) (by omega) (by omega)).mono ?_
      rintro e w3 ⟨x, hx0, hx1, rfl, hR4, hu4⟩
      have hu5 := hu3.trans hu4
      clear hR3 hu3 hu4
      go_wp2_with fail
      refine (l6Dec_small x _ hx0 hx1).mono ?_
      rintro e w4 ⟨rfl, hb5⟩
      have hR5 := hR4.below hb5
      have hu6 := hu5.trans (Upd.of_below hb5)
      have hsz : (bs [dgI x]).size = 1 := by rw [bs_size]; rfl
      have hadd := add_law (P := Try.prog) (a := s) (b := bs [dgI x]) (by omega)
      have hsum : (s ++ bs [dgI x]).size ≤ 20 + (k + 1) := by rw [add_size]; omega
      clear hR4 hu5 hb5 hsz
      go_wp2_with fail
      go_roundw
      case rel => exact ⟨k + 1, p2 + 1, s ++ bs [dgI x], by omega, by go_num, rfl, hsum, by omega, hR5, hu6⟩
      case measure => simp [intOf]; omega
    · go_wp2_with fail
      refine (of_any B g p2 _ _ _ (hR3.alloc _) (strRow_alloc wr [⟨#[]⟩, ⟨#[89]⟩, ⟨#[49, 50]⟩, ⟨#[45, 49]⟩] 9 (by decide)) (by have := hR3.lt; omega) (by omega) (by decide) (by decide)).mono ?_
      rintro e w3 ⟨s2, hs2, rfl, ⟨p3, hp3, hR4⟩, hu4⟩
      have hadd := add_law (P := Try.prog) (a := s) (b := s2) (by omega)
      have HP := Lib.hid (show StrPost B g p 9 60 w (.returned (.string (s ++ s2))) w3 from ⟨_, by rw [add_size]; omega, rfl, ⟨p3, by omega, hR4⟩, (hu3.alloc _).trans hu4⟩)
      clear hR3 hu3 hR4 hu4
      go_wp2_with fail
      go_ret
      exact HP.out
/-- Two small numbers. -/
def TwoPost (w : World) (e : Ending) (w' : World) : Prop := ∃ a b : Int, -1000000000 ≤ a ∧ a ≤ 1000000000 ∧ -1000000000 ≤ b ∧ b ≤ 1000000000 ∧ e = .returned (.tuple #[.int .i64 a, .int .i64 b]) ∧ Below w.heap.size w w'
theorem Upd.rule {g : Nat} {w w' : World} (h : Upd g w w') : ∀ b o, b < w.heap.size → b ≠ g → w'.cell? ⟨b, o, none⟩ = w.cell? ⟨b, o, none⟩ :=
  fun b o hb hn => World.cell?_of_block (w := w) (w' := w') (a := ⟨b, o, none⟩) (h.block b hb hn)
def putF (i : Nat) : Int := [-1, 0, 9, 10, 999999, 1000000].getD i 0
theorem putF_bd (i : Nat) : -1 ≤ putF i ∧ putF i ≤ 1000000 := by
  match i with
  | 0 => decide
  | 1 => decide
  | 2 => decide
  | 3 => decide
  | 4 => decide
  | 5 => decide
  | _ + 6 => simp [putF]
theorem putF_cell (W : World) (i : Nat) (h : i < 6) : (W.alloc (.cells #[.int .i64 (-1), .int .i64 0, .int .i64 9, .int .i64 10, .int .i64 999999, .int .i64 1000000] 3)).cell? ⟨W.heap.size, i, none⟩ = some (.int .i64 (putF i)) := by
  match i, h with
  | 0, _ => simp [putF]
  | 1, _ => simp [putF]
  | 2, _ => simp [putF]
  | 3, _ => simp [putF]
  | 4, _ => simp [putF]
  | 5, _ => simp [putF]
theorem putF_list (i : Nat) (h : i < 6) : ([.int .i64 (-1), .int .i64 0, .int .i64 9, .int .i64 10, .int .i64 999999, .int .i64 1000000] : List Value)[i]? = some (.int .i64 (putF i)) := by
  match i, h with
  | 0, _ => rfl
  | 1, _ => rfl
  | 2, _ => rfl
  | 3, _ => rfl
  | 4, _ => rfl
  | 5, _ => rfl
set_option maxHeartbeats 1600000 in
theorem DrawDigitsPut_any (a : Option Addr) (len cap : Nat) (w : World) (hl : len ≤ cap) (hm : cap ≤ maxLen) (h : Bytes w.heap.size w a len) : Calls Try.prog 25 #[.slice a len cap] w (TwoPost w) := by
  go_enter Try.func25, Try.ntmps25
  go_wp2_with fail
  refine (l6Open_any a len cap w hl hm h).mono ?_
  rintro e w0 ⟨rfl, hR0, hb0⟩
  clear h
  go_wp2_with fail
  refine (pick_any _ _ _ _ _ hR0 (by omega) (by omega) (by omega)).mono ?_
  rintro e w1 ⟨k, hk0, hk1, rfl, hR1, hu1⟩
  have hb1 := hb0.trans (hu1.below (Nat.le_refl _) hb0.size)
  clear hR0 hb0 hu1
  by_cases h0 : k = 0
  · have q : (k == 0) = true := beq_iff_eq.2 h0
    clear h0 hk0 hk1
    have hne : w1.heap.size ≠ w.heap.size := by have := hR1.lt; omega
    go_wp2_with fail
    go_region_with (first | (go_at_call_of 37 (Value.int .i64 6); refine (pick_any w.heap.size w.heap.size _ 6 _ (by first | assumption | exact Rd.alloc (by assumption) _) (by omega) (by omega) (by omega)).mono ?_; rintro e w2 ⟨x, hx0, hx1, rfl, hR2, hu2⟩; obtain ⟨i, rfl⟩ := Int.eq_ofNat_of_zero_le hx0; have hci := putF_list i (by omega); (try (have hc := (hu2.rule w1.heap.size i (by simp) hne).trans (putF_cell w1 i (by omega)))); (try (have hz : w1.heap.size < w2.heap.size := by have := hu2.size; simp at this; omega))) | (go_at_call_of 37 (Value.int .i64 9); refine (pick_any w.heap.size w.heap.size _ 9 _ (by first | assumption | exact Rd.alloc (by assumption) _) (by omega) (by omega) (by omega)).mono ?_; rintro e w3 ⟨y, hy0, hy1, rfl, hR3, hu3⟩; (try (have hd := (hu3.rule w1.heap.size i hz hne).trans hc)); (try (have hd2 := (hu3.rule w2.heap.size i (by simp) (by have := hR2.lt; omega)).trans (putF_cell w2 i (by omega))))))
    all_goals go_wp2
    all_goals go_ret2
    all_goals
      have hpb := putF_bd i
      have hwr : IntKind.i64.wrap (y - 1) = y - 1 := IntWalk.i64_in _ (by omega)
      refine ⟨putF i, y - 1, by omega, by omega, by omega, by omega, (by first | rfl | exact congrArg (fun t => Ending.returned (.tuple #[.int .i64 (putF i), .int .i64 t])) hwr), hb1.trans (Upd.below (g := w.heap.size) ?_ (Nat.le_refl _) hb1.size)⟩
      repeat (first | exact Upd.refl _ _ | refine Upd.alloc ?_ _ | refine Upd.drew ?_ | (refine Upd.trans ?_ hu3; clear hu3) | (refine Upd.trans ?_ hu2; clear hu2))
  · have q : (k == 0) = false := beq_eq_false_iff_ne.2 h0
    clear h0 hk0 hk1
    go_wp2_with fail
    refine (pick_any w.heap.size w.heap.size _ 6 _ hR1 (by omega) (by omega) (by omega)).mono ?_
    rintro e w2 ⟨x, hx0, hx1, rfl, hR2, hu2⟩
    obtain ⟨x, rfl⟩ := Int.eq_ofNat_of_zero_le hx0
    have hb2 := hb1.trans (hu2.below (Nat.le_refl _) hb1.size)
    clear hR1 hb1 hu2
    go_wp2_with fail
    refine (pick_any w.heap.size w.heap.size _ 250 _ hR2 (by omega) (by omega) (by omega)).mono ?_
    rintro e w3 ⟨y, hy0, hy1, rfl, hR3, hu3⟩
    have hb3 := hb2.trans (hu3.below (Nat.le_refl _) hb2.size)
    clear hR2 hb2 hu3
    go_wp2_with fail
    refine (pick_any w.heap.size w.heap.size _ 30 _ hR3 (by omega) (by omega) (by omega)).mono ?_
    rintro e w4 ⟨v, hv0, hv1, rfl, hR4, hu4⟩
    have hb4 := hb3.trans (hu4.below (Nat.le_refl _) hb3.size)
    clear hR3 hb3 hu4 hR4
    have hp1 := p10_pos (x + 1)
    have hp2 := p10_le (m := x + 1) (by omega)
    have hyv0 : 0 ≤ y * (1 + v) := Int.mul_nonneg hy0 (by omega)
    have hyv1 : y * (1 + v) ≤ 250 * 30 := Int.mul_le_mul (by omega) (by omega) (by omega) (by omega)
    have hr0 : 0 ≤ y * (1 + v) % p10 (x + 1) := Int.emod_nonneg _ (by omega)
    have hr1 : y * (1 + v) % p10 (x + 1) < p10 (x + 1) := Int.emod_lt_of_pos _ (by omega)
    go_wp2_with (first | (go_at_call 32; rw [show (1 : Int) + (x : Int) = ((x + 1 : Nat) : Int) from by omega]; refine (l1Power_any (x + 1) _ (by omega)).mono ?_; rintro e w' ⟨rfl, rfl⟩))
    go_ret2
    exact ⟨y * (1 + v) % p10 (x + 1), (x : Int) + 1, by omega, by omega, by omega, by omega, rfl, hb4⟩
/-- A short text and a small number. -/
def TextPost (w : World) (e : Ending) (w' : World) : Prop := ∃ (s : ByteArray) (a : Int), s.size ≤ 1000 ∧ -1000000000 ≤ a ∧ a ≤ 1000000000 ∧ e = .returned (.tuple #[.string s, .int .i64 a]) ∧ Below w.heap.size w w'
/-- A short text and two small numbers. -/
def TextPost2 (w : World) (e : Ending) (w' : World) : Prop := ∃ (s : ByteArray) (a b : Int), s.size ≤ 1000 ∧ -1000000000 ≤ a ∧ a ≤ 1000000000 ∧ -1000000000 ≤ b ∧ b ≤ 1000000000 ∧ e = .returned (.tuple #[.string s, .int .i64 a, .int .i64 b]) ∧ Below w.heap.size w w'
theorem DrawDigitsRun_any (a : Option Addr) (len cap : Nat) (w : World) (hl : len ≤ cap) (hm : cap ≤ maxLen) (h : Bytes w.heap.size w a len) : Calls Try.prog 24 #[.slice a len cap] w (TextPost w) := by
  go_enter Try.func24, Try.ntmps24
  go_wp2_with fail
  refine (l6Open_any a len cap w hl hm h).mono ?_
  rintro e w0 ⟨rfl, hR0, hb0⟩
  clear h
  go_wp2_with fail
  refine (l91Digits_any _ _ _ _ hR0 (by omega)).mono ?_
  rintro e w1 ⟨s, hs, rfl, ⟨p1, hp1, hR1⟩, hu1⟩
  have hb1 := hb0.trans (hu1.below (Nat.le_refl _) hb0.size)
  clear hR0 hb0 hu1
  go_wp2_with fail
  refine (pick_any w.heap.size w.heap.size _ 4 _ hR1 (by omega) (by omega) (by omega)).mono ?_
  rintro e w2 ⟨x, hx0, hx1, rfl, hR2, hu2⟩
  have hb2 := hb1.trans (hu2.below (Nat.le_refl _) hb1.size)
  clear hR1 hb1 hu2
  go_wp2_with fail
  refine (pick_any w.heap.size w.heap.size _ 20 _ hR2 (by omega) (by omega) (by omega)).mono ?_
  rintro e w3 ⟨y, hy0, hy1, rfl, hR3, hu3⟩
  have hb3 := hb2.trans (hu3.below (Nat.le_refl _) hb2.size)
  clear hR2 hb2 hu3 hR3
  go_wp2_with fail
  go_ret2
  exact ⟨s, x - y / 19 * 2, by omega, by omega, by omega, rfl, hb3⟩
theorem DrawDigitsGet_any (a : Option Addr) (len cap : Nat) (w : World) (hl : len ≤ cap) (hm : cap ≤ maxLen) (h : Bytes w.heap.size w a len) : Calls Try.prog 26 #[.slice a len cap] w (TextPost2 w) := by
  go_enter Try.func26, Try.ntmps26
  go_wp2_with fail
  refine (l6Open_any a len cap w hl hm h).mono ?_
  rintro e w0 ⟨rfl, hR0, hb0⟩
  clear h
  go_wp2_with fail
  refine (l91Digits_any _ _ _ _ hR0 (by omega)).mono ?_
  rintro e w1 ⟨s, hs, rfl, ⟨p1, hp1, hR1⟩, hu1⟩
  have hb1 := hb0.trans (hu1.below (Nat.le_refl _) hb0.size)
  clear hR0 hb0 hu1
  go_wp2_with fail
  refine (pick_any w.heap.size w.heap.size _ 10 _ hR1 (by omega) (by omega) (by omega)).mono ?_
  rintro e w2 ⟨k, hx0, hx1, rfl, hR2, hu2⟩
  have hb2 := hb1.trans (hu2.below (Nat.le_refl _) hb1.size)
  clear hR1 hb1 hu2
  by_cases h0 : k = 0
  · have q : (k == 0) = true := beq_iff_eq.2 h0
    clear h0 hx0 hx1
    go_wp2_with fail
    refine (pick_any w.heap.size w.heap.size _ _ _ hR2 (by omega) (by omega) (by omega)).mono ?_
    rintro e w3 ⟨x, hx0, hx1, rfl, hR3, hu3⟩
    have hb3 := hb2.trans (hu3.below (Nat.le_refl _) hb2.size)
    clear hR2 hb2 hu3
    go_wp2_with fail
    refine (pick_any w.heap.size w.heap.size _ _ _ hR3 (by omega) (by omega) (by omega)).mono ?_
    rintro e w4 ⟨y, hy0, hy1, rfl, hR4, hu4⟩
    have hb4 := hb3.trans (hu4.below (Nat.le_refl _) hb3.size)
    clear hR3 hb3 hu4 hR4
    go_wp2_with fail
    go_ret3
    exact ⟨s, x - 1, y - 1, by omega, by omega, by omega, by omega, by omega, rfl, hb4⟩
  · have q : (k == 0) = false := beq_eq_false_iff_ne.2 h0
    clear h0 hx0 hx1
    go_wp2_with fail
    refine (pick_any w.heap.size w.heap.size _ _ _ hR2 (by omega) (by omega) (by omega)).mono ?_
    rintro e w3 ⟨x, hx0, hx1, rfl, hR3, hu3⟩
    have hb3 := hb2.trans (hu3.below (Nat.le_refl _) hb2.size)
    clear hR2 hb2 hu3
    go_wp2_with fail
    refine (pick_any w.heap.size w.heap.size _ _ _ hR3 (by omega) (by omega) (by omega)).mono ?_
    rintro e w4 ⟨y, hy0, hy1, rfl, hR4, hu4⟩
    have hb4 := hb3.trans (hu4.below (Nat.le_refl _) hb3.size)
    clear hR3 hb3 hu4 hR4
    go_wp2_with fail
    go_ret3
    exact ⟨s, x, 1 + y, by omega, by omega, by omega, by omega, by omega, rfl, hb4⟩
end Go.Proofs.Yteamcgolfopnoaa
