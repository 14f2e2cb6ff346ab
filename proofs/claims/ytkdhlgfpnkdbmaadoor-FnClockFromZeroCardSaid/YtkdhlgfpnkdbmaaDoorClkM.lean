/-
  Plain lemmas on the texts of times: how they are written, how they are read; no program in sight. Conditions: as each states.
-/
import Derived.Test.YtkdhlgfpnkdbmaaDoorMath
namespace Go.Proofs.YtkdhlgfpnkdbmaaDoor
open Go.PlainAid

/-- The digits behind a second. -/
def fracL (l : Nat) : List UInt8 := if l = 0 then [] else if l % 100 = 0 then 46 :: digL (l / 100) 1 else if l % 10 = 0 then 46 :: digL (l / 10) 2 else 46 :: digL l 3
def gapL (b : Bool) : List UInt8 := if b then [58] else []
def gapN (b : Bool) : Nat := if b then 1 else 0
/-- A time's text without what is behind its seconds. -/
def clkB (h m c : Nat) (b : Bool) : List UInt8 := digL h 2 ++ (gapL b ++ (digL m 2 ++ (gapL b ++ digL c 2)))
def clkL (h m c l : Nat) (b : Bool) : List UInt8 := clkB h m c b ++ fracL l
theorem clkB_length (h m c : Nat) (b : Bool) : (clkB h m c b).length = 6 + 2 * gapN b := by
  cases b <;> simp [clkB, gapL, gapN, digL_length]
/-- What reads as a time (whether there is such a time or not). -/
structure ClkRd (s : ByteArray) (g h m c l : Nat) : Prop where
  r0 : 2 ≤ runN s 0
  r1 : 2 ≤ runN s (2 + g)
  r2 : 2 ≤ runN s (4 + 2 * g)
  n0 : numN s 0 2 = h
  n1 : numN s (2 + g) 2 = m
  n2 : numN s (4 + 2 * g) 2 = c
  col : g = 1 → bt s 2 = 58 ∧ bt s 5 = 58
  frac : (s.size = 6 + 2 * g ∧ l = 0) ∨ (∃ k, 1 ≤ k ∧ k ≤ 3 ∧ s.size = 7 + 2 * g + k ∧ bt s (6 + 2 * g) = 46 ∧ k ≤ runN s (7 + 2 * g) ∧ l = numN s (7 + 2 * g) k * 10 ^ (3 - k))
theorem ClkRd.excl {s : ByteArray} {h m c l h' m' c' l' : Nat} (a : ClkRd s 0 h m c l) (b : ClkRd s 1 h' m' c' l') : False := by
  have h1 := runN_dig s 0 2 (by have := a.r1; simp at this; omega)
  have h2 := (b.col rfl).1
  unfold digAt at h1
  simp at h1
  omega
theorem ClkRd.uniq {s : ByteArray} {g h m c l h' m' c' l' : Nat} (a : ClkRd s g h m c l) (b : ClkRd s g h' m' c' l') : h = h' ∧ m = m' ∧ c = c' ∧ l = l' := by
  refine ⟨a.n0.symm.trans b.n0, a.n1.symm.trans b.n1, a.n2.symm.trans b.n2, ?_⟩
  rcases a.frac with ⟨a1, a2⟩ | ⟨k, a1, a2, a3, a4, a5, a6⟩
  · rcases b.frac with ⟨b1, b2⟩ | ⟨k', b1, b2, b3, b4, b5, b6⟩
    · omega
    · omega
  · rcases b.frac with ⟨b1, b2⟩ | ⟨k', b1, b2, b3, b4, b5, b6⟩
    · omega
    · obtain rfl : k = k' := by omega
      omega
theorem num2_lt {s : ByteArray} {k : Nat} (h : 2 ≤ runN s k) : numN s k 2 < 100 := numN_lt s k 2 (fun j hj => runN_dig s j k (by omega))
theorem num_lt {s : ByteArray} {k m : Nat} (h : m ≤ runN s k) : numN s k m < 10 ^ m := numN_lt s k m (fun j hj => runN_dig s j k (by omega))
theorem ClkRd.bd {s : ByteArray} {g h m c l : Nat} (a : ClkRd s g h m c l) : h < 100 ∧ m < 100 ∧ c < 100 ∧ l < 1000 := by
  refine ⟨a.n0 ▸ num2_lt a.r0, a.n1 ▸ num2_lt a.r1, a.n2 ▸ num2_lt a.r2, ?_⟩
  rcases a.frac with ⟨a1, a2⟩ | ⟨k, a1, a2, a3, a4, a5, a6⟩
  · omega
  · have := num_lt a5
    rw [a6]
    obtain rfl | rfl | rfl : k = 1 ∨ k = 2 ∨ k = 3 := by omega
    all_goals simp at this ⊢; omega
/-- Digits in the midst of a text. -/
theorem dig_mid {T : ByteArray} (pre post : List UInt8) (m n p : Nat) (hp : pre.length = p) (hn : n < 10 ^ m) (e : T = bs (pre ++ digL n m ++ post)) : m ≤ runN T p ∧ numN T p m = n := by
  subst hp
  subst e
  exact ⟨runN_ge _ m _ (fun j hj => digAt_digL pre post m n j hj), numN_digL pre post m n hn⟩
theorem bt_mid {T : ByteArray} (pre post : List UInt8) (x : UInt8) (p : Nat) (hp : pre.length = p) (e : T = bs (pre ++ x :: post)) : bt T p = (x.toNat : Int) := by
  subst hp
  subst e
  rw [bt_bs, dif_pos (by simp)]
  simp
theorem clk_rd0 {h m c : Nat} (hh : h < 100) (hm : m < 100) (hc : c < 100) (b : Bool) : ClkRd (bs (clkB h m c b)) (gapN b) h m c 0 := by
  have hs := bs_size (clkB h m c b)
  rw [clkB_length] at hs
  cases b
  · obtain ⟨a0, b0⟩ := dig_mid (T := bs (clkB h m c false)) [] (digL m 2 ++ digL c 2) 2 h 0 rfl hh (by simp [clkB, gapL])
    obtain ⟨a1, b1⟩ := dig_mid (T := bs (clkB h m c false)) (digL h 2) (digL c 2) 2 m 2 (by simp [digL_length]) hm (by simp [clkB, gapL])
    obtain ⟨a2, b2⟩ := dig_mid (T := bs (clkB h m c false)) (digL h 2 ++ digL m 2) [] 2 c 4 (by simp [digL_length]) hc (by simp [clkB, gapL])
    exact ⟨a0, a1, a2, b0, b1, b2, fun h => by simp [gapN] at h, .inl ⟨hs, rfl⟩⟩
  · obtain ⟨a0, b0⟩ := dig_mid (T := bs (clkB h m c true)) [] (58 :: (digL m 2 ++ (58 :: digL c 2))) 2 h 0 rfl hh (by simp [clkB, gapL])
    obtain ⟨a1, b1⟩ := dig_mid (T := bs (clkB h m c true)) (digL h 2 ++ [58]) (58 :: digL c 2) 2 m 3 (by simp [digL_length]) hm (by simp [clkB, gapL])
    obtain ⟨a2, b2⟩ := dig_mid (T := bs (clkB h m c true)) (digL h 2 ++ ([58] ++ (digL m 2 ++ [58]))) [] 2 c 6 (by simp [digL_length]) hc (by simp [clkB, gapL])
    have c1 := bt_mid (T := bs (clkB h m c true)) (digL h 2) (digL m 2 ++ (58 :: digL c 2)) 58 2 (by simp [digL_length]) (by simp [clkB, gapL])
    have c2 := bt_mid (T := bs (clkB h m c true)) (digL h 2 ++ ([58] ++ digL m 2)) (digL c 2) 58 5 (by simp [digL_length]) (by simp [clkB, gapL])
    exact ⟨a0, a1, a2, b0, b1, b2, fun _ => ⟨c1, c2⟩, .inl ⟨hs, rfl⟩⟩
theorem clk_rdk {h m c n k : Nat} (hh : h < 100) (hm : m < 100) (hc : c < 100) (k1 : 1 ≤ k) (k3 : k ≤ 3) (hn : n < 10 ^ k) (b : Bool) : ClkRd (bs (clkB h m c b ++ 46 :: digL n k)) (gapN b) h m c (n * 10 ^ (3 - k)) := by
  have hs : (bs (clkB h m c b ++ 46 :: digL n k)).size = 7 + 2 * gapN b + k := by rw [bs_size]; simp [clkB_length, digL_length]; omega
  have d := bt_mid (T := bs (clkB h m c b ++ 46 :: digL n k)) (clkB h m c b) (digL n k) 46 (6 + 2 * gapN b) (clkB_length h m c b) rfl
  obtain ⟨a3, b3⟩ := dig_mid (T := bs (clkB h m c b ++ 46 :: digL n k)) (clkB h m c b ++ [46]) [] k n (7 + 2 * gapN b) (by simp [clkB_length]; omega) hn (by simp)
  have F : ∃ j, 1 ≤ j ∧ j ≤ 3 ∧ (bs (clkB h m c b ++ 46 :: digL n k)).size = 7 + 2 * gapN b + j ∧ bt (bs (clkB h m c b ++ 46 :: digL n k)) (6 + 2 * gapN b) = 46 ∧ j ≤ runN (bs (clkB h m c b ++ 46 :: digL n k)) (7 + 2 * gapN b) ∧ n * 10 ^ (3 - k) = numN (bs (clkB h m c b ++ 46 :: digL n k)) (7 + 2 * gapN b) j * 10 ^ (3 - j) :=
    ⟨k, k1, k3, hs, d, a3, by rw [b3]⟩
  clear d a3 b3 hs
  cases b
  · obtain ⟨a0, b0⟩ := dig_mid (T := bs (clkB h m c false ++ 46 :: digL n k)) [] (digL m 2 ++ (digL c 2 ++ 46 :: digL n k)) 2 h 0 rfl hh (by simp [clkB, gapL])
    obtain ⟨a1, b1⟩ := dig_mid (T := bs (clkB h m c false ++ 46 :: digL n k)) (digL h 2) (digL c 2 ++ 46 :: digL n k) 2 m 2 (by simp [digL_length]) hm (by simp [clkB, gapL])
    obtain ⟨a2, b2⟩ := dig_mid (T := bs (clkB h m c false ++ 46 :: digL n k)) (digL h 2 ++ digL m 2) (46 :: digL n k) 2 c 4 (by simp [digL_length]) hc (by simp [clkB, gapL])
    exact ⟨a0, a1, a2, b0, b1, b2, fun h => by simp [gapN] at h, .inr F⟩
  · obtain ⟨a0, b0⟩ := dig_mid (T := bs (clkB h m c true ++ 46 :: digL n k)) [] (58 :: (digL m 2 ++ (58 :: (digL c 2 ++ 46 :: digL n k)))) 2 h 0 rfl hh (by simp [clkB, gapL])
    obtain ⟨a1, b1⟩ := dig_mid (T := bs (clkB h m c true ++ 46 :: digL n k)) (digL h 2 ++ [58]) (58 :: (digL c 2 ++ 46 :: digL n k)) 2 m 3 (by simp [digL_length]) hm (by simp [clkB, gapL])
    obtain ⟨a2, b2⟩ := dig_mid (T := bs (clkB h m c true ++ 46 :: digL n k)) (digL h 2 ++ ([58] ++ (digL m 2 ++ [58]))) (46 :: digL n k) 2 c 6 (by simp [digL_length]) hc (by simp [clkB, gapL])
    have c1 := bt_mid (T := bs (clkB h m c true ++ 46 :: digL n k)) (digL h 2) (digL m 2 ++ (58 :: (digL c 2 ++ 46 :: digL n k))) 58 2 (by simp [digL_length]) (by simp [clkB, gapL])
    have c2 := bt_mid (T := bs (clkB h m c true ++ 46 :: digL n k)) (digL h 2 ++ ([58] ++ digL m 2)) (digL c 2 ++ 46 :: digL n k) 58 5 (by simp [digL_length]) (by simp [clkB, gapL])
    exact ⟨a0, a1, a2, b0, b1, b2, fun _ => ⟨c1, c2⟩, .inr F⟩
theorem frac_form {l : Nat} (h0 : l ≠ 0) (h1 : l < 1000) : ∃ k q, 1 ≤ k ∧ k ≤ 3 ∧ q < 10 ^ k ∧ q * 10 ^ (3 - k) = l ∧ q % 10 ≠ 0 ∧ fracL l = 46 :: digL q k := by
  unfold fracL
  rw [if_neg h0]
  by_cases h2 : l % 100 = 0
  · rw [if_pos h2]
    exact ⟨1, l / 100, by omega, by omega, by simp; omega, by simp; omega, by omega, rfl⟩
  · rw [if_neg h2]
    by_cases h3 : l % 10 = 0
    · rw [if_pos h3]
      exact ⟨2, l / 10, by omega, by omega, by simp; omega, by simp; omega, by omega, rfl⟩
    · rw [if_neg h3]
      exact ⟨3, l, by omega, by omega, by simp; omega, by simp, by omega, rfl⟩
/-- What is written is read. -/
theorem clk_rd {h m c l : Nat} (hh : h < 100) (hm : m < 100) (hc : c < 100) (hl : l < 1000) (b : Bool) : ClkRd (bs (clkL h m c l b)) (gapN b) h m c l := by
  unfold clkL
  by_cases h0 : l = 0
  · subst h0
    rw [show fracL 0 = [] from rfl, List.append_nil]
    exact clk_rd0 hh hm hc b
  · obtain ⟨k, q, k1, k3, hq, e, -, hf⟩ := frac_form h0 hl
    rw [hf, ← e]
    exact clk_rdk hh hm hc k1 k3 hq b
theorem list_cut2 {L : List UInt8} (k : Nat) {x : List UInt8} (h : (L.drop k).take 2 = x) : L.drop k = x ++ L.drop (k + 2) := by
  subst h
  have := (List.take_append_drop 2 (L.drop k)).symm
  rwa [List.drop_drop] at this
theorem list_cut1 {s : ByteArray} {k : Nat} {v : UInt8} (hk : k < s.size) (h : bt s k = (v.toNat : Int)) : s.data.toList.drop k = v :: s.data.toList.drop (k + 1) := by
  have hl : k < s.data.toList.length := by rw [Array.length_toList]; exact hk
  rw [List.drop_eq_getElem_cons hl]
  congr 1
  have e := bs_of s
  rw [← e, bt_bs, dif_pos hl] at h
  apply UInt8.toNat_inj.1
  omega
/-- A text that reads as a time is one, but for zeros behind its digits. -/
theorem ClkRd.shape {s : ByteArray} {h m c l : Nat} {b : Bool} (a : ClkRd s (gapN b) h m c l) :
    (l = 0 ∧ s = bs (clkB h m c b)) ∨ ∃ k n, 1 ≤ k ∧ k ≤ 3 ∧ n < 10 ^ k ∧ l = n * 10 ^ (3 - k) ∧ s = bs (clkB h m c b ++ 46 :: digL n k) := by
  have e := bs_of s
  have d0 := digL_numN s 0 2 (fun j hj => runN_dig s j 0 (by have := a.r0; omega))
  have d1 := digL_numN s (2 + gapN b) 2 (fun j hj => runN_dig s j _ (by have := a.r1; omega))
  have d2 := digL_numN s (4 + 2 * gapN b) 2 (fun j hj => runN_dig s j _ (by have := a.r2; omega))
  rw [a.n0] at d0
  rw [a.n1] at d1
  rw [a.n2] at d2
  have f0 := list_cut2 0 d0.symm
  have f1 := list_cut2 (2 + gapN b) d1.symm
  have f2 := list_cut2 (4 + 2 * gapN b) d2.symm
  have hB : s.data.toList = clkB h m c b ++ s.data.toList.drop (6 + 2 * gapN b) := by
    cases b
    · simp only [gapN, Bool.false_eq_true, if_false] at f1 f2 ⊢
      simp at f0 f1 f2 ⊢
      refine f0.trans ?_
      rw [f1, f2]
      simp [clkB, gapL]
    · have hcol := a.col rfl
      simp only [gapN, if_true] at f1 f2 ⊢
      have g2 := list_cut1 (k := 2) (v := 58) (by have := runN_le s (2 + gapN true); have := a.r1; simp [gapN] at *; omega) hcol.1
      have g5 := list_cut1 (k := 5) (v := 58) (by have := runN_le s (4 + 2 * gapN true); have := a.r2; simp [gapN] at *; omega) hcol.2
      simp at f0 f1 f2 g2 g5 ⊢
      refine f0.trans ?_
      rw [g2, f1, g5, f2]
      simp [clkB, gapL]
  rcases a.frac with ⟨a1, a2⟩ | ⟨k, a1, a2, a3, a4, a5, a6⟩
  · left
    refine ⟨a2, ?_⟩
    have hd : s.data.toList.drop (6 + 2 * gapN b) = [] := List.drop_eq_nil_of_le (by rw [Array.length_toList]; have : s.data.size = s.size := rfl; omega)
    rw [hd, List.append_nil] at hB
    rw [← e, hB]
  · right
    have g := list_cut1 (k := 6 + 2 * gapN b) (v := 46) (by omega) a4
    have d3 := digL_numN s (7 + 2 * gapN b) k (fun j hj => runN_dig s j _ (by omega))
    have hl : (s.data.toList.drop (7 + 2 * gapN b)).length = k := by rw [List.length_drop, Array.length_toList]; have : s.data.size = s.size := rfl; omega
    rw [List.take_of_length_le (by omega)] at d3
    refine ⟨k, numN s (7 + 2 * gapN b) k, a1, a2, num_lt a5, a6, ?_⟩
    rw [d3, ← e]
    congr 1
    rw [show 6 + 2 * gapN b + 1 = 7 + 2 * gapN b by omega] at g
    rw [e, ← g]
    exact hB
def cutOk (k n : Nat) : Bool :=
  (fracL (n * 10 ^ (3 - k)) == [] && digL n k == List.replicate k 48) ||
  (List.range (k + 1)).any fun j => fracL (n * 10 ^ (3 - k)) == 46 :: (digL n k).take j && (digL n k).drop j == List.replicate (k - j) 48
theorem cut_all1 : (List.range 10).all (cutOk 1) = true := by decide +kernel
theorem cut_all2 : (List.range 100).all (cutOk 2) = true := by decide +kernel
theorem cut_all3 : (List.range 1000).all (cutOk 3) = true := by decide +kernel
theorem cut_all {k n : Nat} (k1 : 1 ≤ k) (k3 : k ≤ 3) (hn : n < 10 ^ k) : cutOk k n = true := by
  obtain rfl | rfl | rfl : k = 1 ∨ k = 2 ∨ k = 3 := by omega
  · exact List.all_eq_true.1 cut_all1 n (List.mem_range.2 hn)
  · exact List.all_eq_true.1 cut_all2 n (List.mem_range.2 hn)
  · exact List.all_eq_true.1 cut_all3 n (List.mem_range.2 hn)
/-- What is behind a time's text in a text that reads as that time: zeros, or a point and zeros. -/
def Zs (Z : List UInt8) : Prop := ∀ i (h : i < Z.length), Z[i] = 48 ∨ (Z[i] = 46 ∧ i = 0)
theorem Zs_rep (j : Nat) : Zs (List.replicate j 48) := fun i h => .inl (by simp)
theorem ClkRd.tail {s : ByteArray} {h m c l : Nat} {b : Bool} (a : ClkRd s (gapN b) h m c l) : ∃ Z, Zs Z ∧ s = bs (clkL h m c l b ++ Z) := by
  rcases a.shape with ⟨rfl, rfl⟩ | ⟨k, n, k1, k3, hn, rfl, rfl⟩
  · exact ⟨[], Zs_rep 0, by simp [clkL, fracL]⟩
  · have hc := cut_all k1 k3 hn
    unfold cutOk at hc
    rw [Bool.or_eq_true, Bool.and_eq_true, List.any_eq_true] at hc
    rcases hc with ⟨h1, h2⟩ | ⟨j, hj, h⟩
    · refine ⟨46 :: List.replicate k 48, ?_, ?_⟩
      · intro i hi
        cases i with
        | zero => exact .inr ⟨rfl, rfl⟩
        | succ i => exact .inl (by simp)
      · rw [clkL, eq_of_beq h1, eq_of_beq h2, List.append_nil]
    · rw [Bool.and_eq_true] at h
      obtain ⟨h1, h2⟩ := h
      refine ⟨List.replicate (k - j) 48, Zs_rep _, ?_⟩
      rw [clkL, eq_of_beq h1, ← eq_of_beq h2]
      simp
/-- A point stands at one place alone. -/
theorem ClkRd.dot {s : ByteArray} {g h m c l : Nat} (hg : g = 0 ∨ g = 1) (a : ClkRd s g h m c l) {i : Nat} (hi : i < s.size) : bt s i = 46 ↔ i = 6 + 2 * g := by
  have x0 := runN_dig s 0 0 (by have := a.r0; omega)
  have x1 := runN_dig s 1 0 (by have := a.r0; omega)
  have y0 := runN_dig s 0 (2 + g) (by have := a.r1; omega)
  have y1 := runN_dig s 1 (2 + g) (by have := a.r1; omega)
  have z0 := runN_dig s 0 (4 + 2 * g) (by have := a.r2; omega)
  have z1 := runN_dig s 1 (4 + 2 * g) (by have := a.r2; omega)
  have hcol := a.col
  unfold digAt at x0 x1 y0 y1 z0 z1
  rcases a.frac with ⟨a1, a2⟩ | ⟨k, a1, a2, a3, a4, a5, a6⟩
  · have hne : i ≠ 6 + 2 * g := by omega
    refine ⟨fun hb => absurd ?_ hne, fun hb => absurd hb hne⟩
    exfalso
    rcases hg with rfl | rfl
    · obtain rfl | rfl | rfl | rfl | rfl | rfl : i = 0 ∨ i = 1 ∨ i = 2 ∨ i = 3 ∨ i = 4 ∨ i = 5 := by omega
      all_goals simp at x0 x1 y0 y1 z0 z1; omega
    · have hc := hcol rfl
      obtain rfl | rfl | rfl | rfl | rfl | rfl | rfl | rfl : i = 0 ∨ i = 1 ∨ i = 2 ∨ i = 3 ∨ i = 4 ∨ i = 5 ∨ i = 6 ∨ i = 7 := by omega
      all_goals simp at x0 x1 y0 y1 z0 z1; omega
  · refine ⟨fun hb => ?_, fun hb => by rw [hb]; exact a4⟩
    by_cases hlt : i < 6 + 2 * g
    · exfalso
      rcases hg with rfl | rfl
      · obtain rfl | rfl | rfl | rfl | rfl | rfl : i = 0 ∨ i = 1 ∨ i = 2 ∨ i = 3 ∨ i = 4 ∨ i = 5 := by omega
        all_goals simp at x0 x1 y0 y1 z0 z1; omega
      · have hc := hcol rfl
        obtain rfl | rfl | rfl | rfl | rfl | rfl | rfl | rfl : i = 0 ∨ i = 1 ∨ i = 2 ∨ i = 3 ∨ i = 4 ∨ i = 5 ∨ i = 6 ∨ i = 7 := by omega
        all_goals simp at x0 x1 y0 y1 z0 z1; omega
    · by_cases he : i = 6 + 2 * g
      · exact he
      · exfalso
        obtain ⟨j, rfl⟩ : ∃ j, i = 7 + 2 * g + j := ⟨i - (7 + 2 * g), by omega⟩
        have := runN_dig s j (7 + 2 * g) (by omega)
        unfold digAt at this
        omega
theorem digL_zero (n k : Nat) : digL (10 * n) (k + 1) = digL n k ++ [48] := by
  rw [digL, show 10 * n / 10 = n by omega, show 10 * n % 10 = 0 by omega]
  rfl
/-- A further zero of a fraction changes nothing. -/
theorem ClkRd.zero {s : ByteArray} {h m c l : Nat} {b : Bool} (a : ClkRd s (gapN b) h m c l) (h1 : 6 + 2 * gapN b < s.size) (h2 : s.size ≤ 9 + 2 * gapN b) : ClkRd (s ++ bs [48]) (gapN b) h m c l := by
  obtain ⟨b0, b1, b2, -⟩ := a.bd
  rcases a.shape with ⟨rfl, rfl⟩ | ⟨k, n, k1, k3, hn, rfl, rfl⟩
  · rw [bs_size, clkB_length] at h1
    omega
  · rw [bs_size] at h2
    simp [clkB_length, digL_length] at h2
    have hk : k ≤ 2 := by omega
    have := clk_rdk (n := 10 * n) (k := k + 1) b0 b1 b2 (by omega) (by omega) (by rw [Nat.pow_succ]; omega) b
    rw [digL_zero] at this
    rw [bs_app]
    have e : 10 * n * 10 ^ (3 - (k + 1)) = n * 10 ^ (3 - k) := by
      obtain rfl | rfl : k = 1 ∨ k = 2 := by omega
      all_goals simp; omega
    rw [e] at this
    simpa using this
/-- Whether a time's text has a point. -/
theorem clk_size {h m c l : Nat} (hl : l < 1000) (b : Bool) : (l = 0 ∧ (bs (clkL h m c l b)).size = 6 + 2 * gapN b) ∨ (l ≠ 0 ∧ 8 + 2 * gapN b ≤ (bs (clkL h m c l b)).size ∧ (bs (clkL h m c l b)).size ≤ 10 + 2 * gapN b) := by
  rw [bs_size, clkL, List.length_append, clkB_length]
  by_cases h0 : l = 0
  · subst h0
    left
    simp [fracL]
  · obtain ⟨k, q, k1, k3, hq, e, -, hf⟩ := frac_form h0 hl
    right
    rw [hf]
    simp [digL_length]
    omega
theorem clk_last {h m c l : Nat} (h0 : l ≠ 0) (hl : l < 1000) (b : Bool) : bt (bs (clkL h m c l b)) ((bs (clkL h m c l b)).size - 1) ≠ 48 := by
  obtain ⟨k, q, k1, k3, hq, e, hn, hf⟩ := frac_form h0 hl
  obtain ⟨k, rfl⟩ : ∃ j, k = j + 1 := ⟨k - 1, by omega⟩
  have hd := bt_mid (T := bs (clkL h m c l b)) (clkB h m c b ++ 46 :: digL (q / 10) k) [] (dg (q % 10)) ((bs (clkL h m c l b)).size - 1) (by rw [bs_size, clkL, hf]; simp [digL_length]) (by rw [clkL, hf, digL]; simp)
  rw [hd, dg_toNat (by omega)]
  omega
end Go.Proofs.YtkdhlgfpnkdbmaaDoor
