/-
  The walks of the laws of this seat that compare with the reference: each returns true, and nothing that was there is written. No conditions.
-/
import Derived.Test.YteamcgolfopnoaaDig3
import Derived.Test.YteamcgolfopnoaaClk
import Derived.Test.YteamcgolfopnoaaKeep
namespace Go.Proofs.Yteamcgolfopnoaa
open Go.RowKit Go.PlainAid
set_option linter.unusedVariables false

theorem walk_Constants (w : World) : Calls Try.prog 3 #[] w fun e w' => e = .returned (.bool true) ∧ Below w.heap.size w w' := by
  go_enter Try.func3, Try.ntmps3
  go_wp2
  go_ret
  exact ⟨rfl, Below.refl _ _⟩
theorem walk_ExactDigitsRun (s : ByteArray) (a : Int) (w : World) (hs : s.size ≤ maxLen) (ha : (Lit.int .i64 a).wf = true) : Calls Try.prog 5 #[.string s, .int .i64 a] w fun e w' => e = .returned (.bool true) ∧ Below w.heap.size w w' := by
  obtain ⟨ha1, ha2⟩ := bounds_i64 ha
  clear ha
  have hsz := hs
  unfold maxLen at hsz
  have hr := runI_le s a
  by_cases hl : (1048576 : Int) < (s.size : Int)
  · go_enter Try.func5, Try.ntmps5
    go_wp2
    go_ret
    exact ⟨rfl, Below.refl _ _⟩
  · go_enter Try.func5, Try.ntmps5
    go_wp2_with (first | (go_at_call 18; refine (DigitsRun_s s a _ hs ha1 ha2).mono ?_; rintro e w' ⟨rfl, rfl⟩) | (go_at_call 19; refine (DigitsRun_i s a _ hs ha1 ha2).mono ?_; rintro e w1 ⟨rfl, hb1⟩))
    go_ret
    exact ⟨rfl, hb1⟩
theorem walk_ExactDigitsGet (s : ByteArray) (a many : Int) (w : World) (hs : s.size ≤ maxLen) (ha : (Lit.int .i64 a).wf = true) (hm : (Lit.int .i64 many).wf = true) : Calls Try.prog 6 #[.string s, .int .i64 a, .int .i64 many] w fun e w' => e = .returned (.bool true) ∧ Below w.heap.size w w' := by
  obtain ⟨ha1, ha2⟩ := bounds_i64 ha
  clear ha hm
  have hsz := hs
  unfold maxLen at hsz
  by_cases hl : (1048576 : Int) < (s.size : Int)
  · go_enter Try.func6, Try.ntmps6
    go_wp2
    go_ret
    exact ⟨rfl, Below.refl _ _⟩
  · by_cases hok : GetOk s a many
    · obtain ⟨k, m, rfl, rfl, h1, h2, h3, h4⟩ := hok.nat
      clear hok
      go_enter Try.func6, Try.ntmps6
      go_wp2_with (first | (go_at_call 20; refine (DigitsGet_s_yes s k m _ hs h1 h2 h3).mono ?_; rintro e w' ⟨rfl, rfl⟩) | (go_at_call 21; refine (DigitsGet_i_yes s k m _ hs h1 h2 h3).mono ?_; rintro e w1 ⟨rfl, hb1⟩))
      go_ret
      exact ⟨rfl, hb1⟩
    · have HO := Lib.hid hok
      clear hok
      go_enter Try.func6, Try.ntmps6
      go_wp2_with (first | (go_at_call 20; refine (DigitsGet_s_no s a many _ hs ha1 ha2 HO.out).mono ?_; rintro e w' ⟨rfl, rfl⟩) | (go_at_call 21; refine (DigitsGet_i_no s a many _ hs ha1 ha2 HO.out).mono ?_; rintro e w1 ⟨rfl, hb1⟩))
      go_ret
      exact ⟨rfl, hb1⟩
theorem walk_ExactDigitsPut (n many : Int) (w : World) (hn : (Lit.int .i64 n).wf = true) (hm : (Lit.int .i64 many).wf = true) : Calls Try.prog 7 #[.int .i64 n, .int .i64 many] w fun e w' => e = .returned (.bool true) ∧ Below w.heap.size w w' := by
  clear hn hm
  by_cases hok : PutOk n many
  · obtain ⟨k, m, rfl, rfl, h1, h2, h3, h4, h5⟩ := hok.nat
    clear hok
    go_enter Try.func7, Try.ntmps7
    go_wp2_with (first | (go_at_call 22; refine (DigitsPut_s_yes k m _ h1 h2 h5 h4).mono ?_; rintro e w1 ⟨rfl, hb1⟩) | (go_at_call 23; refine (DigitsPut_i_yes k m _ h1 h2 h5 h4).mono ?_; rintro e w2 ⟨rfl, hb2⟩))
    go_ret
    exact ⟨rfl, hb1.trans (hb2.mono hb1.size)⟩
  · have HO := Lib.hid hok
    clear hok
    go_enter Try.func7, Try.ntmps7
    go_wp2_with (first | (go_at_call 22; refine (DigitsPut_s_no n many _ HO.out).mono ?_; rintro e w' ⟨rfl, rfl⟩) | (go_at_call 23; refine (DigitsPut_i_no n many _ HO.out).mono ?_; rintro e w' ⟨rfl, rfl⟩))
    go_ret
    exact ⟨rfl, Below.refl _ _⟩
theorem walk_ExactClockValid (h m s l : Int) (w : World) (h0 : (Lit.int .i64 h).wf = true) (h1 : (Lit.int .i64 m).wf = true) (h2 : (Lit.int .i64 s).wf = true) (h3 : (Lit.int .i64 l).wf = true) :
    Calls Try.prog 4 #[.agg #[.int .i64 h, .int .i64 m, .int .i64 s, .int .i64 l]] w fun e w' => e = .returned (.bool true) ∧ Below w.heap.size w w' := by
  clear h0 h1 h2 h3
  by_cases hok : ClockOk h m s l
  · have HO := Lib.hid hok
    clear hok
    go_enter Try.func4, Try.ntmps4
    go_wp2_with fail
    refine (toClock_any _ _ _ _ _).mono ?_
    rintro e w1 ⟨rfl, hb1⟩
    go_wp2_with fail
    refine (ClockValid_s_yes _ _ _ _ _ HO.out).mono ?_
    rintro e w2 ⟨rfl, hb2⟩
    have hB := below2 hb1 hb2
    obtain ⟨d0, d1, d2, d3⟩ := agg4_keep hB
    clear hb1 hb2
    go_wp2_with fail
    refine (toClock_any _ _ _ _ _).mono ?_
    rintro e w3 ⟨rfl, hb3⟩
    go_wp2_with fail
    refine (ClockValid_i_yes _ _ _ _ _ HO.out).mono ?_
    rintro e w4 ⟨rfl, hb4⟩
    go_wp2_with fail
    go_ret
    exact ⟨rfl, below_alloc (below2 (below2 hB hb3) hb4)⟩
  · have HO := Lib.hid hok
    clear hok
    go_enter Try.func4, Try.ntmps4
    go_wp2_with fail
    refine (toClock_any _ _ _ _ _).mono ?_
    rintro e w1 ⟨rfl, hb1⟩
    go_wp2_with fail
    refine (ClockValid_s_no _ _ _ _ _ HO.out).mono ?_
    rintro e w2 ⟨rfl, hb2⟩
    have hB := below2 hb1 hb2
    obtain ⟨d0, d1, d2, d3⟩ := agg4_keep hB
    clear hb1 hb2
    go_wp2_with fail
    refine (toClock_any _ _ _ _ _).mono ?_
    rintro e w3 ⟨rfl, hb3⟩
    go_wp2_with fail
    refine (ClockValid_i_no _ _ _ _ _ HO.out).mono ?_
    rintro e w4 ⟨rfl, hb4⟩
    go_wp2_with fail
    go_ret
    exact ⟨rfl, below_alloc (below2 (below2 hB hb3) hb4)⟩
end Go.Proofs.Yteamcgolfopnoaa
