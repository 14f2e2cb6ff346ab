/-
  The contracts of chapter 1 once more, at whatever numbers: what is read, what is written. Conditions: as each states.
-/
import Derived.Test.YtkdhlgfpnkdbmaaDoorDig3
namespace Go.Proofs.YtkdhlgfpnkdbmaaDoor
open Go.RowKit Go.PlainAid
set_option linter.unusedVariables false

/-- The number that is read. -/
def getV (s : ByteArray) (a many : Int) : Int := (numN s a.toNat many.toNat : Nat)
/-- The text that is written. -/
def putV (n many : Int) : ByteArray := bs (digL n.toNat many.toNat)
theorem getV_nat (s : ByteArray) (k m : Nat) : getV s (k : Int) (m : Int) = (numN s k m : Nat) := rfl
theorem putV_nat (k m : Nat) : putV (k : Int) (m : Int) = bs (digL k m) := rfl
theorem GetOk.dig {s : ByteArray} {k m : Nat} (h : m ≤ runN s k) : ∀ j, j < m → digAt s (k + j) := fun j hj => runN_dig s j k (by omega)
theorem getV_bd {s : ByteArray} {a many : Int} (h : GetOk s a many) : 0 ≤ getV s a many ∧ getV s a many ≤ 999999 := by
  obtain ⟨k, m, rfl, rfl, h1, h2, h3, h4⟩ := h.nat
  rw [getV_nat]
  have := numN_small (s := s) (k := k) (m := m) (GetOk.dig h3) h2
  omega
theorem putV_size {n many : Int} (h : PutOk n many) : ((putV n many).size : Int) = many := by
  obtain ⟨k, m, rfl, rfl, h1, h2, h3, h4, h5⟩ := h.nat
  rw [putV_nat, bs_size, digL_length]
theorem DigitsGet_s_ok (s : ByteArray) (a many : Int) (w : World) (hs : s.size ≤ maxLen) (h : GetOk s a many) :
    Calls Tryd.prog 38 #[.string s, .int .i64 a, .int .i64 many] w fun e w' => e = .returned (.tuple #[.int .i64 (getV s a many), .bool true]) ∧ w = w' := by
  obtain ⟨k, m, rfl, rfl, h1, h2, h3, h4⟩ := h.nat
  exact DigitsGet_s_yes s k m w hs h1 h2 h3
/-! ### What the laws of chapter 1 say of these -/
theorem put_get {n many : Int} (h : PutOk n many) : GetOk (putV n many) 0 many ∧ getV (putV n many) 0 many = n ∧ ((runI (putV n many) 0 : Nat) : Int) = many := by
  obtain ⟨k, m, rfl, rfl, h1, h2, h3, h4, h5⟩ := h.nat
  rw [putV_nat]
  have hr := runN_digL k m
  have e0 : runI (bs (digL k m)) 0 = runN (bs (digL k m)) 0 := runI_nat _ 0
  have hn := numN_digL [] [] m k h3
  simp only [List.nil_append, List.append_nil, List.length_nil] at hn
  refine ⟨⟨by omega, by omega, by rw [e0, hr]; omega⟩, ?_, by rw [e0, hr]⟩
  show ((numN (bs (digL k m)) 0 (m : Int).toNat : Nat) : Int) = _
  rw [Int.toNat_natCast, hn]
theorem put_more {n many : Int} (h : PutOk n many) (h6 : many ≠ 6) : PutOk n (many + 1) ∧ putV n (many + 1) = ⟨#[48]⟩ ++ putV n many := by
  obtain ⟨k, m, rfl, rfl, h1, h2, h3, h4, h5⟩ := h.nat
  have hp : p10 (m + 1) = p10 m * 10 := rfl
  have hq := p10_pos m
  refine ⟨⟨by omega, by omega, by omega, ?_⟩, ?_⟩
  · rw [show ((m : Int) + 1).toNat = m + 1 from by omega, hp]; omega
  · rw [show ((m : Int) + 1) = ((m + 1 : Nat) : Int) from by omega, putV_nat, putV_nat, digL_more m k h3]
    rw [show (⟨#[48]⟩ : ByteArray) = bs [dg 0] from rfl, bs_app]
    rfl
theorem get_put {s : ByteArray} {a many : Int} (h : GetOk s a many) : PutOk (getV s a many) many ∧ putV (getV s a many) many = s.extract a.toNat (a.toNat + many.toNat) := by
  obtain ⟨k, m, rfl, rfl, h1, h2, h3, h4⟩ := h.nat
  have hd := GetOk.dig h3
  have hlt := numN_lt s k m hd
  rw [getV_nat]
  refine ⟨⟨by omega, by omega, by omega, ?_⟩, ?_⟩
  · rw [Int.toNat_natCast, p10_pow]; omega
  · rw [putV_nat, digL_numN s k m hd]
    apply ByteArray.ext
    apply Array.toList_inj.1
    simp [bs, ByteArray.data_extract]
theorem get_fewer {s : ByteArray} {a many : Int} (h : GetOk s a many) (h1 : many ≠ 1) : GetOk s a (many - 1) ∧ getV s a (many - 1) = getV s a many / 10 := by
  obtain ⟨k, m, rfl, rfl, h2, h3, h4, h5⟩ := h.nat
  obtain ⟨m, rfl⟩ : ∃ t, m = t + 1 := ⟨m - 1, by omega⟩
  have e : ((m + 1 : Nat) : Int) - 1 = (m : Int) := by omega
  rw [e]
  refine ⟨⟨by omega, by omega, by rw [runI_nat]; omega⟩, ?_⟩
  rw [getV_nat, getV_nat]
  have := numN_div (GetOk.dig h4 m (by omega))
  omega
theorem less_app {x y : List UInt8} (u v : List UInt8) (hl : x.length = y.length) (h : Op.bytesLess x y = true) : Op.bytesLess (x ++ u) (y ++ v) = true := by
  induction x generalizing y with
  | nil => cases y with
    | nil => simp [Op.bytesLess] at h
    | cons => simp at hl
  | cons a x ih => cases y with
    | nil => simp at hl
    | cons b y =>
      simp only [List.cons_append, Op.bytesLess, Bool.or_eq_true, Bool.and_eq_true] at h ⊢
      rcases h with h | ⟨h1, h2⟩
      · exact .inl h
      · exact .inr ⟨h1, ih (by simpa using hl) h2⟩
theorem less_same (x : List UInt8) {u v : List UInt8} (h : Op.bytesLess u v = true) : Op.bytesLess (x ++ u) (x ++ v) = true := by
  induction x with
  | nil => exact h
  | cons a x ih =>
    simp only [List.cons_append, Op.bytesLess, Bool.or_eq_true, Bool.and_eq_true]
    exact .inr ⟨by simp, ih⟩
theorem digL_less : ∀ (m a b : Nat), a < b → b < 10 ^ m → Op.bytesLess (digL a m) (digL b m) = true
  | 0, a, b, h, hb => by simp at hb; omega
  | m + 1, a, b, h, hb => by
    rw [digL, digL]
    by_cases hq : a / 10 < b / 10
    · exact less_app _ _ (by rw [digL_length, digL_length]) (digL_less m (a / 10) (b / 10) hq (by rw [Nat.pow_succ] at hb; omega))
    · have e : a / 10 = b / 10 := by omega
      rw [e]
      apply less_same
      have h1 := dg_toNat (d := a % 10) (by omega)
      have h2 := dg_toNat (d := b % 10) (by omega)
      have : dg (a % 10) < dg (b % 10) := by rw [UInt8.lt_iff_toNat_lt, h1, h2]; omega
      simp [Op.bytesLess, this]
end Go.Proofs.YtkdhlgfpnkdbmaaDoor
