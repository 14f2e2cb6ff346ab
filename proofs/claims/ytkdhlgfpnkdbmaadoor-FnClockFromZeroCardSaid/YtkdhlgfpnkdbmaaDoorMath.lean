/-
  Plain lemmas on digits and texts, with no program in sight. No conditions.
-/
import Derived.PlainAid
import Derived.Below
import Derived.Lib.Hide
namespace Go.Proofs.YtkdhlgfpnkdbmaaDoor
open Go.PlainAid

/-- A text out of its bytes. -/
def bs (l : List UInt8) : ByteArray := ⟨l.toArray⟩
theorem bs_size (l : List UInt8) : (bs l).size = l.length := by simp [bs, ByteArray.size]
theorem bs_data (l : List UInt8) : (bs l).data.toList = l := by simp [bs]
theorem bs_app (a b : List UInt8) : bs a ++ bs b = bs (a ++ b) := by
  apply ByteArray.ext
  simp [bs]
theorem bs_of (s : ByteArray) : bs s.data.toList = s := by
  apply ByteArray.ext
  simp [bs]
theorem bs_inj {a b : List UInt8} (h : bs a = bs b) : a = b := by
  have := congrArg (fun s : ByteArray => s.data.toList) h
  simpa [bs] using this

/-- The byte of a digit. -/
def dg (d : Nat) : UInt8 := UInt8.ofNat (48 + d)
def dgI (x : Int) : UInt8 := dg x.toNat
theorem dg_toNat {d : Nat} (h : d < 10) : (dg d).toNat = 48 + d := by
  unfold dg
  simp
  omega
theorem dg_inj {a b : Nat} (ha : a < 10) (hb : b < 10) (h : dg a = dg b) : a = b := by
  have := congrArg UInt8.toNat h
  rw [dg_toNat ha, dg_toNat hb] at this
  omega

/-- A number with so many digits. -/
def digL (n : Nat) : Nat → List UInt8
  | 0 => []
  | m + 1 => digL (n / 10) m ++ [dg (n % 10)]
theorem digL_length : ∀ (m n : Nat), (digL n m).length = m
  | 0, _ => rfl
  | m + 1, n => by simp [digL, digL_length m]
/-- Powers of ten. -/
def p10 : Nat → Int
  | 0 => 1
  | m + 1 => p10 m * 10
theorem p10_pow : ∀ m : Nat, p10 m = ((10 ^ m : Nat) : Int)
  | 0 => rfl
  | m + 1 => by rw [p10, p10_pow m, Nat.pow_succ]; push_cast; rfl
theorem p10_pos (m : Nat) : 1 ≤ p10 m := by
  rw [p10_pow]
  have : 0 < 10 ^ m := Nat.pow_pos (by omega)
  omega
theorem p10_le {m : Nat} (h : m ≤ 6) : p10 m ≤ 1000000 := by
  match m, h with
  | 0, _ => decide
  | 1, _ => decide
  | 2, _ => decide
  | 3, _ => decide
  | 4, _ => decide
  | 5, _ => decide
  | 6, _ => decide
theorem div_pow_succ (n k : Nat) : n / 10 ^ k / 10 = n / 10 ^ (k + 1) := by
  rw [Nat.div_div_eq_div_mul, Nat.pow_succ]
theorem digL_step (n k j : Nat) : digL (n / 10 ^ k) (j + 1) = digL (n / 10 ^ (k + 1)) j ++ [dg (n / 10 ^ k % 10)] := by
  rw [digL, div_pow_succ]
theorem int_div_p10 (n k : Nat) : (n : Int) / p10 k % 10 = ((n / 10 ^ k % 10 : Nat) : Int) := by
  rw [p10_pow]; push_cast; rfl

theorem digL_more : ∀ (m n : Nat), n < 10 ^ m → digL n (m + 1) = dg 0 :: digL n m
  | 0, n, h => by
    have : n = 0 := by simpa using h
    subst this
    rfl
  | m + 1, n, h => by
    have h2 : n / 10 < 10 ^ m := by rw [Nat.pow_succ] at h; omega
    rw [digL, digL_more m (n / 10) h2, digL]
    rfl

theorem digL_digit {m n : Nat} {c : UInt8} (h : c ∈ digL n m) : 48 ≤ c.toNat ∧ c.toNat ≤ 57 := by
  induction m generalizing n with
  | zero => simp [digL] at h
  | succ m ih =>
    rw [digL, List.mem_append] at h
    rcases h with h | h
    · exact ih h
    · simp at h
      subst h
      have := dg_toNat (d := n % 10) (by omega)
      omega

/-! ### Bytes of a text by their places -/
theorem bt_bs (l : List UInt8) (k : Nat) : bt (bs l) k = if h : k < l.length then ((l[k]'h).toNat : Int) else 0 := by
  unfold bt
  by_cases h : k < l.length
  · rw [dif_pos (by rw [bs_size]; exact h), dif_pos h]
    simp [bs, ByteArray.getElem_eq_getElem_data]
  · rw [dif_neg (by rw [bs_size]; exact h), dif_neg h]

/-- There is a digit at a place. -/
def digAt (s : ByteArray) (k : Nat) : Prop := 48 ≤ bt s k ∧ bt s k ≤ 57
instance (s : ByteArray) (k : Nat) : Decidable (digAt s k) := inferInstanceAs (Decidable (_ ∧ _))
theorem digAt_lt {s : ByteArray} {k : Nat} (h : digAt s k) : k < s.size := by
  by_cases hk : k < s.size
  · exact hk
  · have := bt_end s (Nat.le_of_not_lt hk)
    unfold digAt at h
    omega
/-- How many digits follow from a place on. -/
def runN (s : ByteArray) (k : Nat) : Nat :=
  if h : digAt s k then 1 + runN s (k + 1) else 0
termination_by s.size - k
decreasing_by have := digAt_lt h; omega
theorem runN_yes {s : ByteArray} {k : Nat} (h : digAt s k) : runN s k = 1 + runN s (k + 1) := by rw [runN, dif_pos h]
theorem runN_no {s : ByteArray} {k : Nat} (h : ¬ digAt s k) : runN s k = 0 := by rw [runN, dif_neg h]
theorem runN_le (s : ByteArray) (k : Nat) : runN s k ≤ s.size - k := by
  by_cases h : digAt s k
  · have := digAt_lt h
    have := runN_le s (k + 1)
    rw [runN_yes h]
    omega
  · rw [runN_no h]; omega
termination_by s.size - k
theorem runN_dig (s : ByteArray) : ∀ (m k : Nat), m < runN s k → digAt s (k + m)
  | 0, k, h => by
    by_cases hd : digAt s k
    · exact hd
    · rw [runN_no hd] at h; omega
  | m + 1, k, h => by
    by_cases hd : digAt s k
    · rw [runN_yes hd] at h
      have := runN_dig s m (k + 1) (by omega)
      rwa [show k + 1 + m = k + (m + 1) from by omega] at this
    · rw [runN_no hd] at h; omega
theorem runN_ge (s : ByteArray) : ∀ (m k : Nat), (∀ j, j < m → digAt s (k + j)) → m ≤ runN s k
  | 0, _, _ => Nat.zero_le _
  | m + 1, k, h => by
    rw [runN_yes (by simpa using h 0 (by omega))]
    have := runN_ge s m (k + 1) (fun j hj => by rw [show k + 1 + j = k + (j + 1) from by omega]; exact h _ (by omega))
    omega
theorem runN_end (s : ByteArray) (k : Nat) : ¬ digAt s (k + runN s k) := by
  by_cases h : digAt s k
  · rw [runN_yes h]
    have := runN_end s (k + 1)
    rwa [show k + (1 + runN s (k + 1)) = k + 1 + runN s (k + 1) from by omega]
  · rw [runN_no h]; exact h
termination_by s.size - k
decreasing_by have := digAt_lt h; omega
/-- The same at a place that may be none. -/
def runI (s : ByteArray) (at_ : Int) : Nat := if 0 ≤ at_ then runN s at_.toNat else 0
theorem runI_nat (s : ByteArray) (k : Nat) : runI s (k : Int) = runN s k := by simp [runI]
theorem runI_le (s : ByteArray) (a : Int) : runI s a ≤ s.size := by
  unfold runI
  split
  · have := runN_le s a.toNat; omega
  · omega

/-- The number of so many digits from a place on. -/
def numN (s : ByteArray) (k : Nat) : Nat → Nat
  | 0 => 0
  | m + 1 => 10 * numN s k m + (bt s (k + m) - 48).toNat
theorem numN_succ {s : ByteArray} {k m : Nat} (h : digAt s (k + m)) : ((numN s k (m + 1) : Nat) : Int) = 10 * (numN s k m : Int) + (bt s (k + m) - 48) := by
  unfold digAt at h
  rw [numN]
  omega
theorem numN_lt (s : ByteArray) (k : Nat) : ∀ m, (∀ j, j < m → digAt s (k + j)) → numN s k m < 10 ^ m
  | 0, _ => by simp [numN]
  | m + 1, h => by
    have h1 := numN_lt s k m (fun j hj => h j (by omega))
    have h2 := h m (by omega)
    unfold digAt at h2
    rw [numN, Nat.pow_succ]
    omega
theorem numN_small {s : ByteArray} {k m : Nat} (h : ∀ j, j < m → digAt s (k + j)) (hm : m ≤ 6) : numN s k m ≤ 999999 := by
  have h1 := numN_lt s k m h
  have h2 : 10 ^ m ≤ 10 ^ 6 := Nat.pow_le_pow_right (by omega) hm
  omega
theorem numN_div {s : ByteArray} {k m : Nat} (h : digAt s (k + m)) : numN s k (m + 1) / 10 = numN s k m := by
  unfold digAt at h
  rw [numN]
  omega
theorem numN_mod {s : ByteArray} {k m : Nat} (h : digAt s (k + m)) : numN s k (m + 1) % 10 = (bt s (k + m) - 48).toNat := by
  unfold digAt at h
  rw [numN]
  omega
/-- What is read was written. -/
theorem digL_numN (s : ByteArray) (k : Nat) : ∀ m, (∀ j, j < m → digAt s (k + j)) → digL (numN s k m) m = (s.data.toList.drop k).take m
  | 0, _ => by simp [digL]
  | m + 1, h => by
    have hm := h m (by omega)
    have hlt := digAt_lt hm
    have ih := digL_numN s k m (fun j hj => h j (by omega))
    rw [digL, numN_div hm, numN_mod hm, ih]
    have hl : m < (s.data.toList.drop k).length := by simp; have : s.data.size = s.size := rfl; omega
    rw [List.take_succ_eq_append_getElem hl]
    congr 2
    have he : bt s (k + m) = ((s[k + m]'hlt).toNat : Int) := by unfold bt; rw [dif_pos hlt]
    unfold digAt at hm
    rw [he] at hm ⊢
    have hg : (s.data.toList.drop k)[m]'hl = s[k + m]'hlt := by simp [ByteArray.getElem_eq_getElem_data]
    rw [hg]
    apply UInt8.toNat_inj.1
    rw [dg_toNat (by omega)]
    omega
/-- What was written is read. -/
theorem numN_digL (pre post : List UInt8) : ∀ (m n : Nat), n < 10 ^ m → numN (bs (pre ++ digL n m ++ post)) pre.length m = n
  | 0, n, h => by simp at h; subst h; rfl
  | m + 1, n, h => by
    have h2 : n / 10 < 10 ^ m := by rw [Nat.pow_succ] at h; omega
    have e : pre ++ digL n (m + 1) ++ post = pre ++ digL (n / 10) m ++ ([dg (n % 10)] ++ post) := by simp [digL]
    have ih := numN_digL pre ([dg (n % 10)] ++ post) m (n / 10) h2
    rw [e, numN, ih]
    have hb : bt (bs (pre ++ digL (n / 10) m ++ ([dg (n % 10)] ++ post))) (pre.length + m) = ((48 + n % 10 : Nat) : Int) := by
      rw [bt_bs, dif_pos (by simp [digL_length])]
      have : (pre ++ digL (n / 10) m ++ ([dg (n % 10)] ++ post))[pre.length + m]'(by simp [digL_length]) = dg (n % 10) := by
        rw [List.getElem_append_right (by simp [digL_length])]
        simp [digL_length]
      rw [this, dg_toNat (by omega)]
    rw [hb]
    omega
theorem digAt_digL (pre post : List UInt8) (m n j : Nat) (h : j < m) : digAt (bs (pre ++ digL n m ++ post)) (pre.length + j) := by
  unfold digAt
  rw [bt_bs, dif_pos (by simp [digL_length]; omega)]
  have hl : j < (digL n m).length := by rw [digL_length]; exact h
  have : (pre ++ digL n m ++ post)[pre.length + j]'(by simp [digL_length]; omega) = (digL n m)[j]'hl := by
    rw [List.getElem_append_left (by simp [digL_length]; omega), List.getElem_append_right (by omega)]
    simp
  rw [this]
  have := digL_digit (List.getElem_mem hl)
  omega
theorem runN_digL (n m : Nat) : runN (bs (digL n m)) 0 = m := by
  have h1 := runN_ge (bs (digL n m)) m 0 (fun j hj => by simpa using digAt_digL [] [] m n j hj)
  have h2 := runN_le (bs (digL n m)) 0
  rw [bs_size, digL_length] at h2
  omega
end Go.Proofs.YtkdhlgfpnkdbmaaDoor
