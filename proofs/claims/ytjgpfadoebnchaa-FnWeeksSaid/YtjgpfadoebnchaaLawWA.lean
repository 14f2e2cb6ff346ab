/-
  The walks of the laws on how many weeks a year has: each returns true, and nothing that was there is written. No conditions.
-/
import Derived.Test.YtjgpfadoebnchaaWeekA
import Derived.Test.YtjgpfadoebnchaaDrawWeekA
namespace Go.Proofs.Ytjgpfadoebnchaa
open Go.RowKit Go.PlainAid
set_option linter.unusedVariables false

theorem walk_ExactWeeksOf (y : Int) (w : World) (h0 : (Lit.int .i64 y).wf = true) : Calls Try.prog 3 #[.int .i64 y] w fun e w' => e = .returned (.bool true) ∧ Below w.heap.size w w' := by
  clear h0
  by_cases hr : y < 1 ∨ 9999 < y
  · have HR := Lib.hid hr
    clear hr
    go_enter Try.func3, Try.ntmps3
    go_wp2_with (first | (go_at_call 5; refine (WeeksOf_s_no y _ HR.out).mono ?_; rintro e w1 ⟨rfl, rfl⟩) | (go_at_call 6; refine (WeeksOf_i_no y _ HR.out).mono ?_; rintro e w1 ⟨rfl, rfl⟩))
    go_ret
    exact ⟨rfl, Below.refl _ _⟩
  · have h1 : 1 ≤ y := by omega
    have h2 : y ≤ 9999 := by omega
    clear hr
    go_enter Try.func3, Try.ntmps3
    go_wp2_with (first | (go_at_call 5; refine (WeeksOf_s_yes y _ h1 h2).mono ?_; rintro e w1 ⟨rfl, rfl⟩) | (go_at_call 6; refine (WeeksOf_i_yes y _ h1 h2).mono ?_; rintro e w1 ⟨rfl, rfl⟩))
    go_ret
    exact ⟨rfl, Below.refl _ _⟩
theorem walk_Weeks (a : Option Addr) (len cap : Nat) (z : List Int) (w : World) (h : IsRow .u8 w a len cap z) : Calls Try.prog 4 #[.slice a len cap] w fun e w' => e = .returned (.bool true) ∧ Below w.heap.size w w' := by
  obtain ⟨hl, hm⟩ := row_len h
  have hB := Bytes.of_row h
  clear h
  have hm' := hm
  unfold maxLen at hm'
  by_cases hbig : (1048576 : Int) < (len : Int)
  · go_enter Try.func4, Try.ntmps4
    go_wp2
    go_ret
    exact ⟨rfl, Below.refl _ _⟩
  · go_enter Try.func4, Try.ntmps4
    go_wp2_with fail
    refine (DrawWeeksOf_any a len cap w hl hm hB).mono ?_
    rintro e w1 ⟨y, y0, y1, rfl, hb1⟩
    clear hB
    by_cases hr : y < 1 ∨ 9999 < y
    · have HR := Lib.hid hr
      clear hr
      go_wp2_with (first | (go_at_call 5; refine (WeeksOf_s_no y _ HR.out).mono ?_; rintro e w1 ⟨rfl, rfl⟩) | (go_at_call 6; refine (WeeksOf_i_no y _ HR.out).mono ?_; rintro e w1 ⟨rfl, rfl⟩))
      go_ret
      exact ⟨rfl, hb1⟩
    · have h1 : 1 ≤ y := by omega
      have h2 : y ≤ 9999 := by omega
      clear hr
      have q0 := df_ (show Cal.wks y ≠ 0 from by have := Cal.wks_bd h1; omega)
      rcases Cal.wks_bd h1 with hw | hw
      · have qa := dt_ hw
        clear hw
        go_wp2_with (first | (go_at_call 5; refine (WeeksOf_s_yes y _ h1 h2).mono ?_; rintro e w1 ⟨rfl, rfl⟩) | (go_at_call 6; refine (WeeksOf_i_yes y _ h1 h2).mono ?_; rintro e w1 ⟨rfl, rfl⟩))
        go_ret
        exact ⟨rfl, hb1⟩
      · have qa := dt_ hw
        have qb := df_ (show Cal.wks y ≠ 52 from by omega)
        clear hw
        go_wp2_with (first | (go_at_call 5; refine (WeeksOf_s_yes y _ h1 h2).mono ?_; rintro e w1 ⟨rfl, rfl⟩) | (go_at_call 6; refine (WeeksOf_i_yes y _ h1 h2).mono ?_; rintro e w1 ⟨rfl, rfl⟩))
        go_ret
        exact ⟨rfl, hb1⟩
end Go.Proofs.Ytjgpfadoebnchaa
