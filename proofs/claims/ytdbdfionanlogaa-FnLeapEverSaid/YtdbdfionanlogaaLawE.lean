/-
  The walks of the laws on leap years alone: each returns true, and nothing that was there is written. Conditions: none beyond the row's.
-/
import Derived.Test.YtdbdfionanlogaaDate
import Derived.Test.YtdbdfionanlogaaDrawYear
namespace Go.Proofs.Ytdbdfionanlogaa
open Go.RowKit Go.PlainAid
set_option linter.unusedVariables false

theorem walk_ExactLeapYear (y : Int) (w : World) (hy : (Lit.int .i64 y).wf = true) : Calls Try.prog 3 #[.int .i64 y] w fun e w' => e = .returned (.bool true) ∧ Below w.heap.size w w' := by
  clear hy
  by_cases hok : 1 ≤ y ∧ y ≤ 9999 ∧ Cal.Leap y
  · have HL := Lib.hid hok
    clear hok
    go_enter Try.func3, Try.ntmps3
    go_wp2_with (first | (go_at_call 11; refine (LeapYear_i_yes y _ HL.out.1 HL.out.2.1 HL.out.2.2).mono ?_; rintro e w2 ⟨rfl, rfl⟩) | (go_at_call 10; refine (LeapYear_s_yes y _ HL.out.1 HL.out.2.1 HL.out.2.2).mono ?_; rintro e w3 ⟨rfl, rfl⟩))
    go_ret
    exact ⟨rfl, Below.refl _ _⟩
  · have HL := Lib.hid hok
    clear hok
    go_enter Try.func3, Try.ntmps3
    go_wp2_with (first | (go_at_call 11; refine (LeapYear_i_no y _ HL.out).mono ?_; rintro e w2 ⟨rfl, rfl⟩) | (go_at_call 10; refine (LeapYear_s_no y _ HL.out).mono ?_; rintro e w3 ⟨rfl, rfl⟩))
    go_ret
    exact ⟨rfl, Below.refl _ _⟩
theorem leap400 (y : Int) : Cal.Leap (y + 400) ↔ Cal.Leap y := by unfold Cal.Leap; omega
theorem walk_LeapEver (a : Option Addr) (len cap : Nat) (z : List Int) (w : World) (h : IsRow .u8 w a len cap z) : Calls Try.prog 4 #[.slice a len cap] w fun e w' => e = .returned (.bool true) ∧ Below w.heap.size w w' := by
  obtain ⟨hl, hm⟩ := row_len h
  have hB := Bytes.of_row h
  clear h
  have hm' := hm
  unfold maxLen at hm'
  by_cases hbig : (1048576 : Int) < (len : Int)
  · go_enter Try.func4, Try.ntmps4
    go_wp2
    go_ret
    exact ⟨rfl, Below.refl _ _⟩
  · go_enter Try.func4, Try.ntmps4
    go_wp2_with fail
    refine (DrawLeapYear_any a len cap w hl hm hB).mono ?_
    rintro e w1 ⟨y, hy0, hy1, rfl, hb1⟩
    clear hB
    have HB := Lib.hid hb1
    clear hb1
    by_cases hok : 1 ≤ y ∧ y ≤ 9999 ∧ Cal.Leap y
    · have HL := Lib.hid hok
      have g1 := hok.1
      have g2 := hok.2.1
      clear hok
      by_cases hx : 9599 < y
      · go_wp2_with (first | (go_at_call 11; refine (LeapYear_i_yes y _ HL.out.1 HL.out.2.1 HL.out.2.2).mono ?_; rintro e w2 ⟨rfl, rfl⟩) | (go_at_call 10; refine (LeapYear_s_yes y _ HL.out.1 HL.out.2.1 HL.out.2.2).mono ?_; rintro e w3 ⟨rfl, rfl⟩))
        go_ret
        exact ⟨rfl, HB.out⟩
      · have HL2 := Lib.hid (show 1 ≤ y + 400 ∧ y + 400 ≤ 9999 ∧ Cal.Leap (y + 400) from ⟨by omega, by omega, (leap400 y).2 HL.out.2.2⟩)
        go_wp2_with (first | (go_at_call 11; ((with_reducible refine (LeapYear_i_yes y _ HL.out.1 HL.out.2.1 HL.out.2.2).mono ?_); rintro e w2 ⟨rfl, rfl⟩)) | (go_at_call 11; ((with_reducible refine (LeapYear_i_yes (y + 400) _ HL2.out.1 HL2.out.2.1 HL2.out.2.2).mono ?_); rintro e w2 ⟨rfl, rfl⟩)) | (go_at_call 10; refine (LeapYear_s_yes y _ HL.out.1 HL.out.2.1 HL.out.2.2).mono ?_; rintro e w3 ⟨rfl, rfl⟩))
        go_ret
        exact ⟨rfl, HB.out⟩
    · have HL := Lib.hid hok
      by_cases h1 : y < 1
      · clear hok
        go_wp2_with (first | (go_at_call 11; refine (LeapYear_i_no y _ HL.out).mono ?_; rintro e w2 ⟨rfl, rfl⟩) | (go_at_call 10; refine (LeapYear_s_no y _ HL.out).mono ?_; rintro e w3 ⟨rfl, rfl⟩))
        go_ret
        exact ⟨rfl, HB.out⟩
      · by_cases hx : 9599 < y
        · clear hok
          go_wp2_with (first | (go_at_call 11; refine (LeapYear_i_no y _ HL.out).mono ?_; rintro e w2 ⟨rfl, rfl⟩) | (go_at_call 10; refine (LeapYear_s_no y _ HL.out).mono ?_; rintro e w3 ⟨rfl, rfl⟩))
          go_ret
          exact ⟨rfl, HB.out⟩
        · have HL2 := Lib.hid (show ¬ (1 ≤ y + 400 ∧ y + 400 ≤ 9999 ∧ Cal.Leap (y + 400)) from fun hh => hok ⟨by omega, by omega, (leap400 y).1 hh.2.2⟩)
          clear hok
          go_wp2_with (first | (go_at_call 11; ((with_reducible refine (LeapYear_i_no y _ HL.out).mono ?_); rintro e w2 ⟨rfl, rfl⟩)) | (go_at_call 11; ((with_reducible refine (LeapYear_i_no (y + 400) _ HL2.out).mono ?_); rintro e w2 ⟨rfl, rfl⟩)) | (go_at_call 10; refine (LeapYear_s_no y _ HL.out).mono ?_; rintro e w3 ⟨rfl, rfl⟩))
          go_ret
          exact ⟨rfl, HB.out⟩
end Go.Proofs.Ytdbdfionanlogaa
