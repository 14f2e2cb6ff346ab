/-
  Contracts of the functions on offsets' texts. Conditions: as each states.
-/
import Derived.Test.YtoccmbbkjbjhpaaDig4
import Derived.Test.YtoccmbbkjbjhpaaKeep
namespace Go.Proofs.Ytoccmbbkjbjhpaa
open Go.RowKit Go.PlainAid
set_option linter.unusedVariables false

/-- An offset's text behind its sign. -/
def offL (n : Nat) : List UInt8 := digL (n / 60) 2 ++ ([58] ++ digL (n % 60) 2)
/-- An offset's text. -/
def offV (n : Int) : ByteArray :=
  if n < -1439 ∨ 1439 < n then bs [] else if n = 0 then bs [90] else bs ((if n < 0 then 45 else 43) :: offL n.natAbs)
/-- The parts as they grow. -/
def offP1 (c : UInt8) (n : Nat) : ByteArray := bs (c :: digL (n / 60) 2)
def offP2 (c : UInt8) (n : Nat) : ByteArray := bs (c :: (digL (n / 60) 2 ++ [58]))
def offP3 (c : UInt8) (n : Nat) : ByteArray := bs (c :: offL n)
theorem offP1_law {P : Program} (c : UInt8) (n : Nat) (w : World) : (Op.stringOp .add ⟨#[c]⟩ (bs (digL (n / 60) 2))).run P w = .ok (.string (offP1 c n)) w :=
  cat_law [c] (digL (n / 60) 2) (by rw [digL_length]; simp) w
theorem offP2_law {P : Program} (c : UInt8) (n : Nat) (w : World) : (Op.stringOp .add (offP1 c n) ⟨#[58]⟩).run P w = .ok (.string (offP2 c n)) w := by
  exact cat_law (P := P) (c :: digL (n / 60) 2) [58] (by simp [digL_length]) w
theorem offP3_law {P : Program} (c : UInt8) (n : Nat) (w : World) : (Op.stringOp .add (offP2 c n) (bs (digL (n % 60) 2))).run P w = .ok (.string (offP3 c n)) w := by
  have := cat_law (P := P) (c :: (digL (n / 60) 2 ++ [58])) (digL (n % 60) 2) (by simp [digL_length]) w
  simpa [offP2, offP3, offL] using this
theorem offsetValid_yes (n : Int) (w : World) (h1 : -1439 ≤ n) (h2 : n ≤ 1439) : Calls Try.prog 13 #[.int .i64 n] w fun e w' => e = .returned (.bool true) ∧ w = w' := by
  go_enter Try.func13, Try.ntmps13
  go_wp2_with (first | (go_at_call 11; refine (within_yes _ _ _ _ h1 h2).mono ?_; rintro e w' ⟨rfl, rfl⟩))
  go_ret
  exact ⟨rfl, rfl⟩
theorem offsetValid_no (n : Int) (w : World) (h : n < -1439 ∨ 1439 < n) : Calls Try.prog 13 #[.int .i64 n] w fun e w' => e = .returned (.bool false) ∧ w = w' := by
  go_enter Try.func13, Try.ntmps13
  go_wp2_with (first | (go_at_call 11; refine (within_no _ _ _ _ h).mono ?_; rintro e w' ⟨rfl, rfl⟩))
  go_ret
  exact ⟨rfl, rfl⟩
theorem signOf_any (n : Int) (w : World) : Calls Try.prog 14 #[.int .i64 n] w fun e w' => e = .returned (.int .u64 (if n = 0 then 1 else if n < 0 then 2 else 0)) ∧ w = w' := by
  by_cases h0 : n = 0
  · subst h0
    go_enter Try.func14, Try.ntmps14
    go_wp2
    go_ret
    exact ⟨rfl, rfl⟩
  · have q0 := beq_eq_false_iff_ne.2 h0
    rw [if_neg h0]
    by_cases h1 : n < 0
    · rw [if_pos h1]
      go_enter Try.func14, Try.ntmps14
      go_wp2
      go_ret
      exact ⟨rfl, rfl⟩
    · rw [if_neg h1]
      have h2 : 0 ≤ n := by omega
      go_enter Try.func14, Try.ntmps14
      go_wp2
      go_ret
      exact ⟨rfl, rfl⟩
theorem digits_hi (k : Nat) (w : World) (h : k ≤ 1439) : Calls Try.prog 15 #[.int .i64 ((k : Int) / 60), .int .i64 2] w fun e w' => e = .returned (.string (bs (digL (k / 60) 2))) ∧ Below w.heap.size w w' := by
  have := digits_any (k / 60) 2 w (by omega) (by omega)
  rw [show ((k / 60 : Nat) : Int) = (k : Int) / 60 by omega] at this
  exact this
theorem digits_lo (k : Nat) (w : World) (h : k ≤ 1439) : Calls Try.prog 15 #[.int .i64 ((k : Int) % 60), .int .i64 2] w fun e w' => e = .returned (.string (bs (digL (k % 60) 2))) ∧ Below w.heap.size w w' := by
  have := digits_any (k % 60) 2 w (by omega) (by omega)
  rw [show ((k % 60 : Nat) : Int) = (k : Int) % 60 by omega] at this
  exact this
theorem OffsetText_i_no (n : Int) (w : World) (h : n < -1439 ∨ 1439 < n) : Calls Try.prog 9 #[.int .i64 n] w fun e w' => e = .returned (.string (bs [])) ∧ Below w.heap.size w w' := by
  go_enter Try.func9, Try.ntmps9
  go_wp2_with (first | (go_at_call 13; refine (offsetValid_no _ _ h).mono ?_; rintro e w' ⟨rfl, rfl⟩))
  go_ret
  exact ⟨rfl, Below.refl _ _⟩
theorem OffsetText_i_zero (w : World) : Calls Try.prog 9 #[.int .i64 0] w fun e w' => e = .returned (.string (bs [90])) ∧ Below w.heap.size w w' := by
  go_enter Try.func9, Try.ntmps9
  go_wp2_with (first | (go_at_call 13; refine (offsetValid_yes _ _ (by decide) (by decide)).mono ?_; rintro e w' ⟨rfl, rfl⟩) | (go_at_call 14; refine (signOf_any _ _).mono ?_; rintro e w' ⟨rfl, rfl⟩))
  go_ret
  exact ⟨rfl, Below.refl _ _⟩
theorem OffsetText_i_pos (k : Nat) (w : World) (h0 : 1 ≤ k) (h1 : k ≤ 1439) : Calls Try.prog 9 #[.int .i64 (k : Int)] w fun e w' => e = .returned (.string (offP3 43 k)) ∧ Below w.heap.size w w' := by
  have q1 : (if (k : Int) = 0 then (1 : Int) else if (k : Int) < 0 then 2 else 0) = 0 := by rw [if_neg (by omega), if_neg (by omega)]
  have a1 := offP1_law (P := Try.prog) 43 k
  have a2 := offP2_law (P := Try.prog) 43 k
  have a3 := offP3_law (P := Try.prog) 43 k
  go_enter Try.func9, Try.ntmps9
  go_wp2_with (first
    | (go_at_call 13; refine (offsetValid_yes _ _ (by omega) (by omega)).mono ?_; rintro e w' ⟨rfl, rfl⟩)
    | (go_at_call 14; refine (signOf_any _ _).mono ?_; rw [q1]; rintro e w' ⟨rfl, rfl⟩)
    | (go_at_call 15; ((with_reducible refine (digits_hi k _ h1).mono ?_); rintro e w1 ⟨rfl, hb1⟩))
    | (go_at_call 15; ((with_reducible refine (digits_lo k _ h1).mono ?_); rintro e w2 ⟨rfl, hb2⟩)))
  go_ret
  exact ⟨rfl, below2 hb1 hb2⟩
theorem OffsetText_i_neg (k : Nat) (w : World) (h0 : 1 ≤ k) (h1 : k ≤ 1439) : Calls Try.prog 9 #[.int .i64 (-(k : Int))] w fun e w' => e = .returned (.string (offP3 45 k)) ∧ Below w.heap.size w w' := by
  have q1 : (if -(k : Int) = 0 then (1 : Int) else if -(k : Int) < 0 then 2 else 0) = 2 := by rw [if_neg (by omega), if_pos (by omega)]
  have a1 := offP1_law (P := Try.prog) 45 k
  have a2 := offP2_law (P := Try.prog) 45 k
  have a3 := offP3_law (P := Try.prog) 45 k
  go_enter Try.func9, Try.ntmps9
  go_wp2_with (first
    | (go_at_call 13; refine (offsetValid_yes _ _ (by omega) (by omega)).mono ?_; rintro e w' ⟨rfl, rfl⟩)
    | (go_at_call 14; refine (signOf_any _ _).mono ?_; rw [q1]; rintro e w' ⟨rfl, rfl⟩)
    | (go_at_call 15; ((with_reducible refine (digits_hi k _ h1).mono ?_); rintro e w1 ⟨rfl, hb1⟩))
    | (go_at_call 15; ((with_reducible refine (digits_lo k _ h1).mono ?_); rintro e w2 ⟨rfl, hb2⟩)))
  go_ret
  exact ⟨rfl, below2 hb1 hb2⟩
end Go.Proofs.Ytoccmbbkjbjhpaa
