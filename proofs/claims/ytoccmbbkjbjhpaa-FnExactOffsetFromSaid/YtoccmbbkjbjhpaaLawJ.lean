/-
  The walk of the exact law on reading offsets: it returns true, and nothing that was there is written. Conditions: none.
-/
import Derived.Test.YtoccmbbkjbjhpaaOff4
namespace Go.Proofs.Ytoccmbbkjbjhpaa
open Go.RowKit Go.PlainAid
set_option linter.unusedVariables false

theorem off_both (s : ByteArray) (hs : s.size ≤ maxLen) : ∃ (n : Int) (b : Bool), (∀ w', Calls Try.prog 4 #[.string s] w' fun e w'' => e = .returned (.tuple #[.int .i64 n, .bool b]) ∧ w' = w'') ∧ (∀ w', Calls Try.prog 5 #[.string s] w' fun e w'' => e = .returned (.tuple #[.int .i64 n, .bool b]) ∧ Below w'.heap.size w' w'') := by
  rcases off_split s with rfl | rfl | rfl | ⟨k, h1, h2, rfl⟩ | ⟨k, h1, h2, rfl⟩ | h
  · exact ⟨_, _, fun w' => OffsetFrom_s_lit 90 (.inl rfl) w', fun w' => OffsetFrom_i_lit 90 (.inl rfl) w'⟩
  · exact ⟨_, _, fun w' => OffsetFrom_s_lit 122 (.inr rfl) w', fun w' => OffsetFrom_i_lit 122 (.inr rfl) w'⟩
  · exact ⟨_, _, fun w' => OffsetFrom_s_pos 0 w' (by omega), fun w' => OffsetFrom_i_null w'⟩
  · exact ⟨_, _, fun w' => OffsetFrom_s_pos k w' h2, fun w' => OffsetFrom_i_pos k w' h1 h2⟩
  · exact ⟨_, _, fun w' => OffsetFrom_s_neg k w' h1 h2, fun w' => OffsetFrom_i_neg k w' h1 h2⟩
  · exact ⟨_, _, fun w' => OffsetFrom_s_bad s w' hs h, fun w' => OffsetFrom_i_bad s w' hs h⟩
theorem walk_ExactOffsetFrom (s : ByteArray) (w : World) (hs : s.size ≤ maxLen) : Calls Try.prog 3 #[.string s] w fun e w' => e = .returned (.bool true) ∧ Below w.heap.size w w' := by
  obtain ⟨n, b, cs, ci⟩ := off_both s hs
  have CS := Lib.hid cs
  have CI := Lib.hid ci
  clear cs ci
  unfold maxLen at hs
  by_cases hbig : (1048576 : Int) < (s.size : Int)
  · go_enter Try.func3, Try.ntmps3
    go_wp2
    go_ret
    exact ⟨rfl, Below.refl _ _⟩
  · go_enter Try.func3, Try.ntmps3
    go_wp2_with fail
    refine (CS.out _).mono ?_
    rintro e w1 ⟨rfl, rfl⟩
    go_wp2_with fail
    refine (CI.out _).mono ?_
    rintro e w2 ⟨rfl, hb2⟩
    cases b
    all_goals
      go_wp2_with fail
      go_ret
      exact ⟨rfl, hb2⟩
end Go.Proofs.Ytoccmbbkjbjhpaa
