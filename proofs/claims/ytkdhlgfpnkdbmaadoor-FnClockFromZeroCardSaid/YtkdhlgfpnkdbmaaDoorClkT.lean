/-
  Contracts: a text without a byte at its end. Conditions: as each states.
-/
import Derived.Test.YtkdhlgfpnkdbmaaDoorDig4
import Derived.Test.YtkdhlgfpnkdbmaaDoorClkM
import Derived.Test.YtkdhlgfpnkdbmaaDoorClk2
namespace Go.Proofs.YtkdhlgfpnkdbmaaDoor
open Go.RowKit Go.PlainAid
set_option linter.unusedVariables false

/-- How long a text is without a byte at its end. -/
def cutK (s : ByteArray) (c : Int) : Nat → Nat
  | 0 => 0
  | k + 1 => if bt s k = c then cutK s c k else k + 1
/-- The head of a text. -/
def headB (s : ByteArray) (k : Nat) : ByteArray := bs (s.data.toList.take k)
theorem headB_size {s : ByteArray} {k : Nat} (h : k ≤ s.size) : (headB s k).size = k := by
  rw [headB, bs_size, List.length_take, Array.length_toList]
  have : s.data.size = s.size := rfl
  omega
theorem headB_all (s : ByteArray) : headB s s.size = s := by
  rw [headB, List.take_of_length_le (by rw [Array.length_toList]; exact Nat.le_refl _), bs_of]
theorem headB_bt {s : ByteArray} {k i : Nat} (hi : i < k) (h : k ≤ s.size) : bt (headB s k) i = bt s i := by
  have hl : i < s.data.toList.length := by rw [Array.length_toList]; have : s.data.size = s.size := rfl; omega
  have e := bs_of s
  rw [headB, bt_bs, dif_pos (by rw [List.length_take]; omega)]
  conv => rhs; rw [← e, bt_bs, dif_pos hl]
  rw [List.getElem_take]
theorem headB_head {s : ByteArray} {k j : Nat} (h : j ≤ k) : (headB s k).extract 0 j = headB s j := by
  apply ByteArray.ext
  rw [ByteArray.data_extract]
  apply Array.toList_inj.1
  simp [headB, bs, List.take_take, Nat.min_eq_left h]
theorem str_ret {a b : ByteArray} (h : a = b) : Ending.returned (.string a) = .returned (.string b) := by rw [h]
def strLen : Value → Nat
  | .string s => s.size
  | _ => 0
theorem trimRightByte_any (s : ByteArray) (c : Int) (w : World) (hs : s.size ≤ 1000) : Calls Tryd.prog 40 #[.string s, .int .u8 c] w fun e w' => e = .returned (.string (headB s (cutK s c s.size))) ∧ w = w' := by
  have hall := headB_all s
  have HA := Lib.hid hall
  clear hall
  go_enter Tryd.func40, Tryd.ntmps40
  go_wp2
  go_loop [0] (fun t => ∃ k : Nat, k ≤ s.size ∧ t = .string (headB s k) ∧ cutK s c k = cutK s c s.size) (fun t => strLen t)
  case atStart => exact ⟨s.size, Nat.le_refl _, by rw [HA.out], rfl⟩
  case round =>
    obtain ⟨k, hk, rfl, hck⟩ := hrel
    have HC := Lib.hid hck
    clear hck
    have hsz := headB_size hk
    by_cases h0 : k = 0
    · subst h0
      go_wp2
      go_ret
      exact ⟨by rw [← HC.out]; rfl, rfl⟩
    · obtain ⟨i, rfl⟩ : ∃ i, k = i + 1 := ⟨k - 1, by omega⟩
      have hgb := get_bt (headB s (i + 1))
      have hbi := headB_bt (s := s) (k := i + 1) (i := i) (by omega) hk
      have hcut := headB_head (s := s) (k := i + 1) (j := i) (by omega)
      by_cases hc : bt s i = c
      · have q := beq_iff_eq.2 hc
        have HCi := Lib.hid (show cutK s c (i + 1) = cutK s c i from by rw [cutK, if_pos hc])
        clear hc
        go_wp2
        refine ⟨⟨i, by omega, rfl, by rw [← HCi.out]; exact HC.out⟩, ?_⟩
        show (headB s i).size < (headB s (i + 1)).size
        rw [headB_size (by omega), headB_size hk]
        omega
      · have q := beq_eq_false_iff_ne.2 hc
        have HCi := Lib.hid (show cutK s c (i + 1) = i + 1 from by rw [cutK, if_neg hc])
        clear hc
        go_wp2
        go_ret
        exact ⟨str_ret (by rw [← HC.out, HCi.out]), rfl⟩
set_option maxRecDepth 100000 in
theorem TrimRight_zero (s : ByteArray) (w : World) (hs : s.size ≤ 1000) (h0 : s.size ≠ 0) : Calls Tryd.prog 26 #[.string s, .string ⟨#[48]⟩] w fun e w' => e = .returned (.string (headB s (cutK s 48 s.size))) ∧ w = w' := by
  have q1 : s.toList.isEmpty = false := by
    rw [ByteArray.toList_eq, List.isEmpty_eq_false_iff]
    intro h
    apply h0
    have := congrArg List.length h
    simpa using this
  have q2 : (!s.toList.isEmpty) = true := by rw [q1]; rfl
  go_enter Tryd.func26, Tryd.ntmps26
  go_wp2_with (first | (go_at_call 40; refine (trimRightByte_any _ _ _ hs).mono ?_; rintro e w' ⟨rfl, rfl⟩))
  go_ret
  exact ⟨rfl, rfl⟩
theorem cut_list : (List.range 1000).all (fun l => l == 0 || 46 :: (digL l 3).take (cutK (bs (digL l 3)) 48 3) == fracL l) = true := by decide +kernel
/-- The digits behind a second, by the program. -/
theorem frac_cut {l : Nat} (h0 : l ≠ 0) (h1 : l < 1000) : headB (bs (digL l 3)) (cutK (bs (digL l 3)) 48 (bs (digL l 3)).size) = bs ((fracL l).tail) ∧ fracL l = 46 :: (fracL l).tail := by
  have h := List.all_eq_true.1 cut_list l (List.mem_range.2 h1)
  rw [Bool.or_eq_true] at h
  rcases h with h | h
  · simp at h; omega
  · have e := eq_of_beq h
    rw [bs_size, digL_length, headB, bs_data, ← e]
    exact ⟨rfl, rfl⟩
end Go.Proofs.YtkdhlgfpnkdbmaaDoor
