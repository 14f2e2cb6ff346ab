/-
  Contracts of the reading of an offset's text. Conditions: as each states.
-/
import Derived.Test.YtoccmbbkjbjhpaaOff2
namespace Go.Proofs.Ytoccmbbkjbjhpaa
open Go.RowKit Go.PlainAid
set_option linter.unusedVariables false

theorem offP3_six (c : UInt8) (k : Nat) : (offP3 c k).size = 6 := by rw [offP3, bs_size]; simp [offL, digL_length]
theorem offP3_ne1 (c d : UInt8) (k : Nat) : ((offP3 c k).toList == [d]) = false := by
  rw [beq_eq_false_iff_ne, ByteArray.toList_eq, offP3, bs_data]
  intro h
  have := congrArg List.length h
  simp [offL, digL_length] at this
theorem offP3_ne0 (c : UInt8) (k : Nat) (h0 : 1 ≤ k) (h1 : k ≤ 1439) : ((offP3 c k).toList == [43, 48, 48, 58, 48, 48]) = false := by
  rw [beq_eq_false_iff_ne, ByteArray.toList_eq]
  intro h
  have e : offP3 c k = bs [43, 48, 48, 58, 48, 48] := by rw [← bs_of (offP3 c k), h]
  have a := (offP3_get1 c k h1).2
  have b := (offP3_get4 c k).2
  rw [e] at a b
  have z1 : getV (bs [43, 48, 48, 58, 48, 48]) 1 2 = 0 := by decide
  have z4 : getV (bs [43, 48, 48, 58, 48, 48]) 4 2 = 0 := by decide
  omega
theorem offP3_at3 (c : UInt8) (k : Nat) (h : 3 < (offP3 c k).size) : ((offP3 c k)[3].toNat : Int) = 58 := by
  have a : (offP3 c k)[3] = 58 := rfl
  rw [a]
  rfl
theorem offP3_at0 (c : UInt8) (k : Nat) (h : 0 < (offP3 c k).size) : (offP3 c k)[0] = c := rfl
theorem OffsetFrom_i_pos (k : Nat) (w : World) (h1 : 1 ≤ k) (h2 : k ≤ 1439) : Calls Try.prog 5 #[.string (offP3 43 k)] w fun e w' => e = .returned (.tuple #[.int .i64 (k : Int), .bool true]) ∧ Below w.heap.size w w' := by
  have s6 := offP3_six 43 k
  have hs : (offP3 43 k).size ≤ maxLen := by rw [s6]; decide
  obtain ⟨o1, v1⟩ := offP3_get1 43 k h2
  obtain ⟨o4, v4⟩ := offP3_get4 43 k
  have H1 := Lib.hid (And.intro hs o1)
  have H4 := Lib.hid o4
  have c1 : ∀ w', Calls Try.prog 8 #[.string (offP3 43 k), .int .i64 1, .int .i64 2] w' fun e w'' => e = .returned (.tuple #[.int .i64 ((k : Int) / 60), .bool true]) ∧ Below w'.heap.size w' w'' := fun w' => by
    have := DigitsGet_i_ok _ 1 2 w' hs o1
    rw [v1, show ((k / 60 : Nat) : Int) = (k : Int) / 60 by omega] at this
    exact this
  have c4 : ∀ w', Calls Try.prog 8 #[.string (offP3 43 k), .int .i64 4, .int .i64 2] w' fun e w'' => e = .returned (.tuple #[.int .i64 ((k : Int) % 60), .bool true]) ∧ Below w'.heap.size w' w'' := fun w' => by
    have := DigitsGet_i_ok _ 4 2 w' hs o4
    rw [v4, show ((k % 60 : Nat) : Int) = (k : Int) % 60 by omega] at this
    exact this
  have C1 := Lib.hid c1
  have C4 := Lib.hid c4
  clear c1 c4 v1 v4 o1 o4 hs
  have q1 := offP3_ne1 43 90 k
  have q2 := offP3_ne1 43 122 k
  have q3 := offP3_ne0 43 k h1 h2
  have z3 := offP3_at3 43 k (by omega)
  have z0 := congrArg (fun t : UInt8 => (t.toNat : Int)) (offP3_at0 43 k (by omega))
  have e60 : 60 * ((k : Int) / 60) + (k : Int) % 60 = (k : Int) := by omega
  go_enter Try.func5, Try.ntmps5
  go_wp2_with (first
    | (go_at_call 8; ((with_reducible refine (C1.out _).mono ?_); rintro e w1 ⟨rfl, hb1⟩))
    | (go_at_call 8; ((with_reducible refine (C4.out _).mono ?_); rintro e w2 ⟨rfl, hb2⟩))
    | (go_at_call 9; (refine (OffsetText_i_pos k _ h1 h2).mono ?_; rintro e w3 ⟨rfl, hb3⟩)))
  go_ret2
  exact ⟨rfl, below2 (below2 hb1 hb2) hb3⟩
theorem OffsetFrom_i_neg (k : Nat) (w : World) (h1 : 1 ≤ k) (h2 : k ≤ 1439) : Calls Try.prog 5 #[.string (offP3 45 k)] w fun e w' => e = .returned (.tuple #[.int .i64 (-(k : Int)), .bool true]) ∧ Below w.heap.size w w' := by
  have s6 := offP3_six 45 k
  have hs : (offP3 45 k).size ≤ maxLen := by rw [s6]; decide
  obtain ⟨o1, v1⟩ := offP3_get1 45 k h2
  obtain ⟨o4, v4⟩ := offP3_get4 45 k
  have H1 := Lib.hid (And.intro hs o1)
  have H4 := Lib.hid o4
  have c1 : ∀ w', Calls Try.prog 8 #[.string (offP3 45 k), .int .i64 1, .int .i64 2] w' fun e w'' => e = .returned (.tuple #[.int .i64 ((k : Int) / 60), .bool true]) ∧ Below w'.heap.size w' w'' := fun w' => by
    have := DigitsGet_i_ok _ 1 2 w' hs o1
    rw [v1, show ((k / 60 : Nat) : Int) = (k : Int) / 60 by omega] at this
    exact this
  have c4 : ∀ w', Calls Try.prog 8 #[.string (offP3 45 k), .int .i64 4, .int .i64 2] w' fun e w'' => e = .returned (.tuple #[.int .i64 ((k : Int) % 60), .bool true]) ∧ Below w'.heap.size w' w'' := fun w' => by
    have := DigitsGet_i_ok _ 4 2 w' hs o4
    rw [v4, show ((k % 60 : Nat) : Int) = (k : Int) % 60 by omega] at this
    exact this
  have C1 := Lib.hid c1
  have C4 := Lib.hid c4
  clear c1 c4 v1 v4 o1 o4 hs
  have q1 := offP3_ne1 45 90 k
  have q2 := offP3_ne1 45 122 k
  have q3 := offP3_ne0 45 k h1 h2
  have z3 := offP3_at3 45 k (by omega)
  have z0 := congrArg (fun t : UInt8 => (t.toNat : Int)) (offP3_at0 45 k (by omega))
  have e60 : 60 * ((k : Int) / 60) + (k : Int) % 60 = (k : Int) := by omega
  go_enter Try.func5, Try.ntmps5
  go_wp2_with (first
    | (go_at_call 8; ((with_reducible refine (C1.out _).mono ?_); rintro e w1 ⟨rfl, hb1⟩))
    | (go_at_call 8; ((with_reducible refine (C4.out _).mono ?_); rintro e w2 ⟨rfl, hb2⟩))
    | (go_at_call 9; (refine (OffsetText_i_neg k _ h1 h2).mono ?_; rintro e w3 ⟨rfl, hb3⟩)))
  go_ret2
  exact ⟨rfl, below2 (below2 hb1 hb2) hb3⟩
theorem OffsetFrom_i_zero (w : World) : Calls Try.prog 5 #[.string (bs [90])] w fun e w' => e = .returned (.tuple #[.int .i64 0, .bool true]) ∧ Below w.heap.size w w' := by
  have q1 : ((bs [90]).toList == [90]) = true := by rw [ByteArray.toList_eq, bs_data]; rfl
  go_enter Try.func5, Try.ntmps5
  go_wp2
  go_ret2
  exact ⟨rfl, Below.refl _ _⟩
end Go.Proofs.Ytoccmbbkjbjhpaa
