/-
  Contracts of the reader of a time: a byte that is taken, an end. Conditions: as each states.
-/
import Derived.Test.YtkdhlgfpnkdbmaaDoorDig4
import Derived.Test.YtkdhlgfpnkdbmaaDoorClkM
import Derived.Test.YtkdhlgfpnkdbmaaDoorClkV
namespace Go.Proofs.YtkdhlgfpnkdbmaaDoor
open Go.RowKit Go.PlainAid
set_option linter.unusedVariables false

/-- What a taken byte leaves. -/
def TakePost (w : World) (g : Nat) (s : ByteArray) (k : Nat) (w' : World) : Prop := RdS w' g s ((k + 1 : Nat) : Int) ∧ Upd g w w'
theorem take_yes (g k : Nat) (s : ByteArray) (c : Int) (w : World) (hs : s.size ≤ maxLen) (hr : RdS w g s (k : Int)) (hk : k < s.size) (hc : bt s k = c) :
    Calls Tryd.prog 30 #[.pointer (some ⟨g, 0, none⟩), .int .u8 c] w fun e w' => e = .returned (.bool true) ∧ TakePost w g s k w' := by
  have HR := Lib.hid hr
  obtain ⟨hc0, hc1, hf⟩ := hr
  have hb := get_bt s
  unfold maxLen at hs
  have q : (bt s k == c) = true := beq_iff_eq.2 hc
  have q2 : (bt s k != c) = false := by rw [bne, q]; rfl
  clear hc
  go_enter Tryd.func30, Tryd.ntmps30
  go_wp2
  go_quiet (fail)
  go_wp2
  go_ret
  exact ⟨rfl, (HR.out.drewN _).setCell _, ((Upd.refl _ _).drewN _).setCell _ _⟩
theorem take_no (g k : Nat) (s : ByteArray) (c : Int) (w : World) (hs : s.size ≤ maxLen) (hk0 : k ≤ maxLen) (hr : RdS w g s (k : Int)) (h : s.size ≤ k ∨ bt s k ≠ c) :
    Calls Tryd.prog 30 #[.pointer (some ⟨g, 0, none⟩), .int .u8 c] w fun e w' => e = .returned (.bool false) ∧ ∃ n, w' = w.drewN n := by
  obtain ⟨hc0, hc1, hf⟩ := hr
  have hb := get_bt s
  unfold maxLen at hs hk0
  by_cases hk : k < s.size
  · have hc : bt s k ≠ c := by omega
    have q : (bt s k == c) = false := beq_eq_false_iff_ne.2 hc
    have q2 : (bt s k != c) = true := by rw [bne, q]; rfl
    clear h hc
    go_enter Tryd.func30, Tryd.ntmps30
    go_wp2
    go_quiet (fail)
    go_wp2
    go_ret
    exact ⟨rfl, _, rfl⟩
  · clear h
    go_enter Tryd.func30, Tryd.ntmps30
    go_wp2
    go_quiet (fail)
    go_wp2
    go_ret
    exact ⟨rfl, _, rfl⟩
theorem done_yes (g k : Nat) (s : ByteArray) (w : World) (hs : s.size ≤ maxLen) (hr : RdS w g s (k : Int)) (h : k = s.size) :
    Calls Tryd.prog 33 #[.pointer (some ⟨g, 0, none⟩)] w fun e w' => e = .returned (.bool true) ∧ ∃ n, w' = w.drewN n := by
  obtain ⟨hc0, hc1, hf⟩ := hr
  have q : ((k : Int) == (s.size : Int)) = true := beq_iff_eq.2 (by omega)
  clear h
  go_enter Tryd.func33, Tryd.ntmps33
  go_wp2
  go_quiet (fail)
  go_wp2
  go_ret
  exact ⟨rfl, _, rfl⟩
theorem done_no (g k : Nat) (s : ByteArray) (w : World) (hs : s.size ≤ maxLen) (hr : RdS w g s (k : Int)) (h : k ≠ s.size) :
    Calls Tryd.prog 33 #[.pointer (some ⟨g, 0, none⟩)] w fun e w' => e = .returned (.bool false) ∧ ∃ n, w' = w.drewN n := by
  obtain ⟨hc0, hc1, hf⟩ := hr
  have q : ((k : Int) == (s.size : Int)) = false := beq_eq_false_iff_ne.2 (by omega)
  clear h
  go_enter Tryd.func33, Tryd.ntmps33
  go_wp2
  go_quiet (fail)
  go_wp2
  go_ret
  exact ⟨rfl, _, rfl⟩
end Go.Proofs.YtkdhlgfpnkdbmaaDoor
