/-
  Plain facts of offsets' texts: their digits read back, and a text whose parts read as an offset is one. Conditions: none.
-/
import Derived.Test.YtoccmbbkjbjhpaaOff
namespace Go.Proofs.Ytoccmbbkjbjhpaa
open Go.RowKit Go.PlainAid
set_option linter.unusedVariables false

theorem offP3_a (c : UInt8) (k : Nat) : offP3 c k = bs ([c] ++ digL (k / 60) 2 ++ (58 :: digL (k % 60) 2)) := by simp [offP3, offL]
theorem offP3_b (c : UInt8) (k : Nat) : offP3 c k = bs ((c :: (digL (k / 60) 2 ++ [58])) ++ digL (k % 60) 2 ++ []) := by simp [offP3, offL]
theorem offP3_get1 (c : UInt8) (k : Nat) (h : k ≤ 1439) : GetOk (offP3 c k) 1 2 ∧ getV (offP3 c k) 1 2 = ((k / 60 : Nat) : Int) := by
  have e := offP3_a c k
  have hd : ∀ j, j < 2 → digAt (offP3 c k) (1 + j) := fun j hj => by rw [e]; exact digAt_digL [c] _ 2 (k / 60) j hj
  have hr := runN_ge (offP3 c k) 2 1 hd
  have hn : numN (offP3 c k) 1 2 = k / 60 := by rw [e]; exact numN_digL [c] _ 2 (k / 60) (by omega)
  refine ⟨⟨by decide, by decide, ?_⟩, ?_⟩
  · have := runI_nat (offP3 c k) 1
    simp at this
    omega
  · show ((numN (offP3 c k) 1 2 : Nat) : Int) = _
    rw [hn]
theorem offP3_get4 (c : UInt8) (k : Nat) : GetOk (offP3 c k) 4 2 ∧ getV (offP3 c k) 4 2 = ((k % 60 : Nat) : Int) := by
  have e := offP3_b c k
  have hl : (c :: (digL (k / 60) 2 ++ [58])).length = 4 := by simp [digL_length]
  have hd : ∀ j, j < 2 → digAt (offP3 c k) (4 + j) := fun j hj => by
    have := digAt_digL (c :: (digL (k / 60) 2 ++ [58])) [] 2 (k % 60) j hj
    rw [hl] at this
    rw [e]; exact this
  have hr := runN_ge (offP3 c k) 2 4 hd
  have hn : numN (offP3 c k) 4 2 = k % 60 := by
    have := numN_digL (c :: (digL (k / 60) 2 ++ [58])) [] 2 (k % 60) (by omega)
    rw [hl] at this
    rw [e]; exact this
  refine ⟨⟨by decide, by decide, ?_⟩, ?_⟩
  · have := runI_nat (offP3 c k) 4
    simp at this
    omega
  · show ((numN (offP3 c k) 4 2 : Nat) : Int) = _
    rw [hn]
/-- A text whose parts read as an offset is one. -/
theorem off_of_parts (s : ByteArray) (h6 : s.size = 6) (h1 : GetOk s 1 2) (h4 : GetOk s 4 2) (h3 : s.data.toList[3]? = some 58) (hh : getV s 1 2 ≤ 23) (hm : getV s 4 2 ≤ 59) :
    ∃ c, s.data.toList[0]? = some c ∧ s = offP3 c (60 * getV s 1 2 + getV s 4 2).toNat := by
  have r1 : 2 ≤ runN s 1 := by have := h1.2.2; have e := runI_nat s 1; simp at e; omega
  have r4 : 2 ≤ runN s 4 := by have := h4.2.2; have e := runI_nat s 4; simp at e; omega
  have g1 := digL_numN s 1 2 (GetOk.dig r1)
  have g4 := digL_numN s 4 2 (GetOk.dig r4)
  have e1 : getV s 1 2 = ((numN s 1 2 : Nat) : Int) := rfl
  have e4 : getV s 4 2 = ((numN s 4 2 : Nat) : Int) := rfl
  rw [e1] at hh ⊢
  rw [e4] at hm ⊢
  have en : (60 * ((numN s 1 2 : Nat) : Int) + ((numN s 4 2 : Nat) : Int)).toNat = 60 * numN s 1 2 + numN s 4 2 := by omega
  rw [en]
  have d1 : (60 * numN s 1 2 + numN s 4 2) / 60 = numN s 1 2 := by omega
  have d4 : (60 * numN s 1 2 + numN s 4 2) % 60 = numN s 4 2 := by omega
  have hsz : s.data.toList.length = 6 := by rw [Array.length_toList]; exact h6
  have hbs := bs_of s
  clear h1 h4 r1 r4 e1 e4 en
  generalize numN s 1 2 = N1 at *
  generalize numN s 4 2 = N4 at *
  rcases hl : s.data.toList with _ | ⟨c0, _ | ⟨c1, _ | ⟨c2, _ | ⟨c3, _ | ⟨c4, _ | ⟨c5, _ | ⟨c6, t⟩⟩⟩⟩⟩⟩⟩ <;> rw [hl] at hsz <;> simp at hsz
  refine ⟨c0, rfl, ?_⟩
  rw [hl] at h3 g1 g4
  simp at h3 g1 g4
  rw [hl] at hbs
  rw [← hbs, offP3, offL, d1, d4, g1, g4, h3]
  rfl
end Go.Proofs.Ytoccmbbkjbjhpaa
