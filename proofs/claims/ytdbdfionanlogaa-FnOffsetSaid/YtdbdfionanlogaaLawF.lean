/-
  The walks of laws on offsets' texts: each returns true, and nothing that was there is written. Conditions: none beyond the row's.
-/
import Derived.Test.YtdbdfionanlogaaOff
import Derived.Test.YtdbdfionanlogaaDrawOff
namespace Go.Proofs.Ytdbdfionanlogaa
open Go.RowKit Go.PlainAid
set_option linter.unusedVariables false

theorem decf {p : Prop} [Decidable p] (h : ¬ p) : decide p = false := by simp [h]
theorem dect {p : Prop} [Decidable p] (h : p) : decide p = true := by simp [h]
theorem off_cases (n : Int) : (n < -1439 ∨ 1439 < n) ∨ n = 0 ∨ (∃ k : Nat, n = (k : Int) ∧ 1 ≤ k ∧ k ≤ 1439) ∨ (∃ k : Nat, n = -(k : Int) ∧ 1 ≤ k ∧ k ≤ 1439) := by
  by_cases h : n < -1439 ∨ 1439 < n
  · exact .inl h
  · by_cases h0 : n = 0
    · exact .inr (.inl h0)
    · by_cases h1 : 0 < n
      · exact .inr (.inr (.inl ⟨n.toNat, by omega, by omega, by omega⟩))
      · exact .inr (.inr (.inr ⟨(-n).toNat, by omega, by omega, by omega⟩))
theorem walk_ExactOffsetText (n : Int) (w : World) (h0 : (Lit.int .i64 n).wf = true) : Calls Try.prog 5 #[.int .i64 n] w fun e w' => e = .returned (.bool true) ∧ Below w.heap.size w w' := by
  clear h0
  have hc : ∃ t : ByteArray, (∀ w', Calls Try.prog 13 #[.int .i64 n] w' fun e w'' => e = .returned (.string t) ∧ Below w'.heap.size w' w'') ∧ (∀ w', Calls Try.prog 14 #[.int .i64 n] w' fun e w'' => e = .returned (.string t) ∧ Below w'.heap.size w' w'') := by
    rcases off_cases n with h | rfl | ⟨k, rfl, h1, h2⟩ | ⟨k, rfl, h1, h2⟩
    · exact ⟨_, fun w' => OffsetText_s_no n w' h, fun w' => OffsetText_i_no n w' h⟩
    · exact ⟨_, fun w' => OffsetText_s_zero w', fun w' => OffsetText_i_zero w'⟩
    · exact ⟨_, fun w' => OffsetText_s_pos k w' h1 h2, fun w' => OffsetText_i_pos k w' h1 h2⟩
    · exact ⟨_, fun w' => OffsetText_s_neg k w' h1 h2, fun w' => OffsetText_i_neg k w' h1 h2⟩
  obtain ⟨t, hs, hi⟩ := hc
  have HS := Lib.hid hs
  have HI := Lib.hid hi
  clear hs hi
  go_enter Try.func5, Try.ntmps5
  go_wp2_with fail
  refine (HS.out _).mono ?_
  rintro e w1 ⟨rfl, hb1⟩
  go_wp2_with fail
  refine (HI.out _).mono ?_
  rintro e w2 ⟨rfl, hb2⟩
  go_wp2_with fail
  go_ret
  exact ⟨rfl, below2 hb1 hb2⟩
end Go.Proofs.Ytdbdfionanlogaa
