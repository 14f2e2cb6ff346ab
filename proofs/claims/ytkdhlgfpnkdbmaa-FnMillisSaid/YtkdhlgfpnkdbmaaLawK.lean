/-
  The walks of laws on times of a day and their numbers: each returns true, and nothing that was there is written. No conditions.
-/
import Derived.Test.YtkdhlgfpnkdbmaaDrawClk
namespace Go.Proofs.Ytkdhlgfpnkdbmaa
open Go.RowKit Go.PlainAid
set_option linter.unusedVariables false

theorem kdecf {p : Prop} [Decidable p] (h : ¬ p) : decide p = false := by simp [h]
theorem kdect {p : Prop} [Decidable p] (h : p) : decide p = true := by simp [h]
theorem cell4_lt {w w2 : World} {T : TypeId} {a b c d : Value} (hb : Below (w.alloc (.cells #[a, b, c, d] T)).heap.size (w.alloc (.cells #[a, b, c, d] T)) w2) : w.heap.size < w2.heap.size := by
  have := hb.size
  simp at this
  omega
theorem walk_ExactClockMillis (h m s l : Int) (w : World) (h0 : (Lit.int .i64 h).wf = true) (h1 : (Lit.int .i64 m).wf = true) (h2 : (Lit.int .i64 s).wf = true) (h3 : (Lit.int .i64 l).wf = true) : Calls Try.prog 4 #[.agg #[.int .i64 h, .int .i64 m, .int .i64 s, .int .i64 l]] w fun e w' => e = .returned (.bool true) ∧ Below w.heap.size w w' := by
  clear h0 h1 h2 h3
  go_enter Try.func4, Try.ntmps4
  go_wp2_with fail
  refine (toClock_any _ _ _ _ _).mono ?_
  rintro e w1 ⟨rfl, hb1⟩
  go_wp2_with fail
  by_cases hok : ClockOk h m s l
  · have HO := Lib.hid hok
    clear hok
    refine (ClockMillis_s_yes _ _ _ _ _ HO.out).mono ?_
    rintro e w2 ⟨rfl, hb2⟩
    have hB := below2 hb1 hb2
    obtain ⟨d0, d1, d2, d3⟩ := agg4_keep hB
    clear hb1 hb2
    go_wp2_with fail
    refine (toClock_any _ _ _ _ _).mono ?_
    rintro e w3 ⟨rfl, hb3⟩
    go_wp2_with fail
    have hB3 := below_alloc (below2 hB hb3)
    clear hB hb3 d0 d1 d2 d3
    refine (ClockMillis_i_yes _ _ _ _ _ HO.out).mono ?_
    rintro e w4 ⟨rfl, hb4⟩
    go_wp2_with fail
    go_ret
    exact ⟨rfl, below2 hB3 hb4⟩
  · have HO := Lib.hid hok
    clear hok
    refine (ClockMillis_s_no _ _ _ _ _ HO.out).mono ?_
    rintro e w2 ⟨rfl, hb2⟩
    have hB := below2 hb1 hb2
    obtain ⟨d0, d1, d2, d3⟩ := agg4_keep hB
    clear hb1 hb2
    go_wp2_with fail
    refine (toClock_any _ _ _ _ _).mono ?_
    rintro e w3 ⟨rfl, hb3⟩
    go_wp2_with fail
    have hB3 := below_alloc (below2 hB hb3)
    clear hB hb3 d0 d1 d2 d3
    refine (ClockMillis_i_no _ _ _ _ _ HO.out).mono ?_
    rintro e w4 ⟨rfl, hb4⟩
    go_wp2_with fail
    go_ret
    exact ⟨rfl, below2 hB3 hb4⟩
theorem walk_ExactClockOf (n : Int) (w : World) (h0 : (Lit.int .i64 n).wf = true) : Calls Try.prog 3 #[.int .i64 n] w fun e w' => e = .returned (.bool true) ∧ Below w.heap.size w w' := by
  clear h0
  go_enter Try.func3, Try.ntmps3
  go_wp2_with fail
  by_cases hok : n < 0 ∨ 86400000 < n
  · have HO := Lib.hid hok
    clear hok
    refine (ClockOf_s_no _ _ HO.out).mono ?_
    rintro e w1 ⟨rfl, hb1⟩
    go_wp2_with fail
    refine (ClockOf_i_no _ _ HO.out).mono ?_
    rintro e w2 ⟨rfl, hb2⟩
    obtain ⟨d0, d1, d2, d3⟩ := agg4_keep hb2
    have hlt := lt_of_cell d0
    have hne := Nat.ne_of_lt hlt
    have hne' := Nat.ne_of_gt hlt
    have hB2 := below2 hb1 (below_alloc hb2)
    clear hb1 hb2
    go_wp2_with fail
    refine (eqClock_same _ _ _ _ _).mono ?_
    rintro e w3 ⟨rfl, hb3⟩
    go_wp2_with fail
    go_ret
    exact ⟨rfl, below2 hB2 (below_alloc hb3)⟩
  · have HO := Lib.hid (show 0 ≤ n ∧ n ≤ 86400000 by omega)
    clear hok
    refine (ClockOf_s_yes _ _ HO.out.1 HO.out.2).mono ?_
    rintro e w1 ⟨rfl, hb1⟩
    go_wp2_with fail
    refine (ClockOf_i_yes _ _ HO.out.1 HO.out.2).mono ?_
    rintro e w2 ⟨rfl, hb2⟩
    obtain ⟨d0, d1, d2, d3⟩ := agg4_keep hb2
    have hlt := lt_of_cell d0
    have hne := Nat.ne_of_lt hlt
    have hne' := Nat.ne_of_gt hlt
    have hB2 := below2 hb1 (below_alloc hb2)
    clear hb1 hb2
    go_wp2_with fail
    refine (eqClock_same _ _ _ _ _).mono ?_
    rintro e w3 ⟨rfl, hb3⟩
    go_wp2_with fail
    go_ret
    exact ⟨rfl, below2 hB2 (below_alloc hb3)⟩
theorem walk_ClockOfWhen (a : Option Addr) (len cap : Nat) (z : List Int) (w : World) (h : IsRow .u8 w a len cap z) : Calls Try.prog 5 #[.slice a len cap] w fun e w' => e = .returned (.bool true) ∧ Below w.heap.size w w' := by
  obtain ⟨hl, hm⟩ := row_len h
  have hB := Bytes.of_row h
  clear h
  have hm' := hm
  unfold maxLen at hm'
  by_cases hbig : (1048576 : Int) < (len : Int)
  · go_enter Try.func5, Try.ntmps5
    go_wp2
    go_ret
    exact ⟨rfl, Below.refl _ _⟩
  · go_enter Try.func5, Try.ntmps5
    go_wp2_with fail
    refine (DrawClockOf_any a len cap w hl hm hB).mono ?_
    rintro e w1 ⟨n, n0, n1, rfl, hb1⟩
    clear hB
    by_cases hok : n < 0 ∨ 86400000 < n
    · skip
      have HO := Lib.hid hok
      go_wp2_with fail
      refine (ClockOf_i_no _ _ HO.out).mono ?_
      rintro e w2 ⟨rfl, hb2⟩
      have hb12 := below2 hb1 hb2
      clear hb1 hb2
      go_wp2_with fail
      refine (ClockOf_s_no _ _ HO.out).mono ?_
      rintro e w3 ⟨rfl, hb3⟩
      obtain ⟨c0, c1, c2, c3⟩ := agg4_keep hb3
      have hlt := cell4_lt hb3
      have hne := Nat.ne_of_lt hlt
      have hne' := Nat.ne_of_gt hlt
      have HB := Lib.hid (below2 hb12 (below_alloc hb3))
      clear hb12 hb3
      have qx := df_ (show n ≠ 86400000 by omega)
      rcases hok with hok | hok
      · have q := kdecf (show ¬ 0 ≤ n by omega)
        go_wp2_with fail
        go_ret
        exact ⟨rfl, HB.out.alloc HB.out.size _⟩
      · have q := kdect (show 0 ≤ n by omega)
        have q2 := kdecf (show ¬ n ≤ 86400000 by omega)
        go_wp2_with fail
        go_ret
        exact ⟨rfl, HB.out.alloc HB.out.size _⟩
    · have q := kdect (show 0 ≤ n by omega)
      have q2 := kdect (show n ≤ 86400000 by omega)
      by_cases hx : n = 86400000
      · have qx := dt_ hx
        have qy := dt_ (show n / 3600000 = 24 by omega)
        have Hx := Lib.hid hx
        have hy0 : 0 ≤ n := by omega
        have hy1 : n ≤ 86400000 := by omega
        clear hx
        have HO := Lib.hid (show 0 ≤ n ∧ n ≤ 86400000 by omega)
        go_wp2_with fail
        refine (ClockOf_i_yes _ _ HO.out.1 HO.out.2).mono ?_
        rintro e w2 ⟨rfl, hb2⟩
        have hb12 := below2 hb1 hb2
        clear hb1 hb2
        go_wp2_with fail
        refine (ClockOf_s_yes _ _ HO.out.1 HO.out.2).mono ?_
        rintro e w3 ⟨rfl, hb3⟩
        obtain ⟨c0, c1, c2, c3⟩ := agg4_keep hb3
        have HC := Lib.hid ((Cells4.new w2 23 (.int .i64 (n / 3600000)) (.int .i64 (n / 60000 % 60)) (.int .i64 (n / 1000 % 60)) (.int .i64 (n % 1000))).below hb3)
        have hlt := cell4_lt hb3
        have hne := Nat.ne_of_lt hlt
        have hne' := Nat.ne_of_gt hlt
        have HB := Lib.hid (below2 hb12 (below_alloc hb3))
        clear hb12 hb3
        go_wp2_with fail
        go_ret
        exact ⟨rfl, HB.out.alloc HB.out.size _⟩
      · have qx := df_ hx
        have qy := df_ (show n / 3600000 ≠ 24 by omega)
        have HO := Lib.hid (show 0 ≤ n ∧ n ≤ 86400000 by omega)
        go_wp2_with fail
        refine (ClockOf_i_yes _ _ HO.out.1 HO.out.2).mono ?_
        rintro e w2 ⟨rfl, hb2⟩
        have hb12 := below2 hb1 hb2
        clear hb1 hb2
        go_wp2_with fail
        refine (ClockOf_s_yes _ _ HO.out.1 HO.out.2).mono ?_
        rintro e w3 ⟨rfl, hb3⟩
        obtain ⟨c0, c1, c2, c3⟩ := agg4_keep hb3
        have HC := Lib.hid ((Cells4.new w2 23 (.int .i64 (n / 3600000)) (.int .i64 (n / 60000 % 60)) (.int .i64 (n / 1000 % 60)) (.int .i64 (n % 1000))).below hb3)
        have hlt := cell4_lt hb3
        have hne := Nat.ne_of_lt hlt
        have hne' := Nat.ne_of_gt hlt
        have HB := Lib.hid (below2 hb12 (below_alloc hb3))
        clear hb12 hb3
        go_wp2_with fail
        go_ret
        exact ⟨rfl, HB.out.alloc HB.out.size _⟩
theorem walk_ClockOf (a : Option Addr) (len cap : Nat) (z : List Int) (w : World) (h : IsRow .u8 w a len cap z) : Calls Try.prog 7 #[.slice a len cap] w fun e w' => e = .returned (.bool true) ∧ Below w.heap.size w w' := by
  obtain ⟨hl, hm⟩ := row_len h
  have hB := Bytes.of_row h
  clear h
  have hm' := hm
  unfold maxLen at hm'
  by_cases hbig : (1048576 : Int) < (len : Int)
  · go_enter Try.func7, Try.ntmps7
    go_wp2
    go_ret
    exact ⟨rfl, Below.refl _ _⟩
  · go_enter Try.func7, Try.ntmps7
    go_wp2_with fail
    refine (DrawClockOf_any a len cap w hl hm hB).mono ?_
    rintro e w1 ⟨n, n0, n1, rfl, hb1⟩
    clear hB
    by_cases hok : n < 0 ∨ 86400000 < n
    · skip
      have HO := Lib.hid hok
      go_wp2_with fail
      refine (ClockOf_i_no _ _ HO.out).mono ?_
      rintro e w2 ⟨rfl, hb2⟩
      have hb12 := below2 hb1 hb2
      clear hb1 hb2
      go_wp2_with fail
      refine (ClockOf_s_no _ _ HO.out).mono ?_
      rintro e w3 ⟨rfl, hb3⟩
      obtain ⟨c0, c1, c2, c3⟩ := agg4_keep hb3
      have hlt := cell4_lt hb3
      have hne := Nat.ne_of_lt hlt
      have hne' := Nat.ne_of_gt hlt
      have HB := Lib.hid (below2 hb12 (below_alloc hb3))
      clear hb12 hb3
      go_wp2_with fail
      go_ret
      exact ⟨rfl, HB.out.alloc HB.out.size _⟩
    · have hK := Lib.hid (clock_of (n := n) (by omega) (by omega))
      have HMs := Lib.hid (show ∀ w', Calls Try.prog 14 #[.agg #[.int .i64 (n / 3600000), .int .i64 (n / 60000 % 60), .int .i64 (n / 1000 % 60), .int .i64 (n % 1000)]] w' fun e w'' => e = .returned (.int .i64 n) ∧ Below w'.heap.size w' w'' from fun w' => by
        have := ClockMillis_i_yes _ _ _ _ w' hK.out.1
        rw [hK.out.2] at this
        exact this)
      have HO := Lib.hid (show 0 ≤ n ∧ n ≤ 86400000 by omega)
      go_wp2_with fail
      refine (ClockOf_i_yes _ _ HO.out.1 HO.out.2).mono ?_
      rintro e w2 ⟨rfl, hb2⟩
      have hb12 := below2 hb1 hb2
      clear hb1 hb2
      go_wp2_with fail
      refine (ClockOf_s_yes _ _ HO.out.1 HO.out.2).mono ?_
      rintro e w3 ⟨rfl, hb3⟩
      obtain ⟨c0, c1, c2, c3⟩ := agg4_keep hb3
      have HC := Lib.hid ((Cells4.new w2 23 (.int .i64 (n / 3600000)) (.int .i64 (n / 60000 % 60)) (.int .i64 (n / 1000 % 60)) (.int .i64 (n % 1000))).below hb3)
      have hlt := cell4_lt hb3
      have hne := Nat.ne_of_lt hlt
      have hne' := Nat.ne_of_gt hlt
      have HB := Lib.hid (below2 hb12 (below_alloc hb3))
      clear hb12 hb3
      go_wp2_with fail
      refine (ClockValid_i_yes _ _ _ _ _ hK.out.1).mono ?_
      rintro e w4 ⟨rfl, hb4⟩
      have HB4 := Lib.hid (below2 HB.out (below_alloc hb4))
      clear c0 c1 c2 c3 hlt hne hne'
      obtain ⟨⟨c0, c1, c2, c3⟩, -⟩ := (HC.out.alloc (.cells #[.int .i64 (n / 3600000), .int .i64 (n / 60000 % 60), .int .i64 (n / 1000 % 60), .int .i64 (n % 1000)] 23)).below hb4
      clear hb4 HC HB
      go_wp2_with fail
      refine (HMs.out _).mono ?_
      rintro e w5 ⟨rfl, hb5⟩
      go_wp2_with fail
      go_ret
      exact ⟨rfl, below2 HB4.out hb5⟩
theorem walk_Millis (a : Option Addr) (len cap : Nat) (z : List Int) (w : World) (h : IsRow .u8 w a len cap z) : Calls Try.prog 8 #[.slice a len cap] w fun e w' => e = .returned (.bool true) ∧ Below w.heap.size w w' := by
  obtain ⟨hl, hm⟩ := row_len h
  have hB := Bytes.of_row h
  clear h
  have hm' := hm
  unfold maxLen at hm'
  by_cases hbig : (1048576 : Int) < (len : Int)
  · go_enter Try.func8, Try.ntmps8
    go_wp2
    go_ret
    exact ⟨rfl, Below.refl _ _⟩
  · go_enter Try.func8, Try.ntmps8
    go_wp2_with fail
    refine (DrawClockMillis_any a len cap w hl hm hB).mono ?_
    rintro e w1 ⟨vh, vm, vs, vl, h0, h1, m0, m1, s0, s1, l0, l1, rfl, hb1⟩
    clear hB
    have hC := Cells4.new w1 23 (.int .i64 vh) (.int .i64 vm) (.int .i64 vs) (.int .i64 vl)
    by_cases hok : ClockOk vh vm vs vl
    · have HO := Lib.hid hok
      obtain ⟨n, hn⟩ : ∃ n, n = ((vh * 60 + vm) * 60 + vs) * 1000 + vl := ⟨_, rfl⟩
      have hms := hok.ms
      rw [← hn] at hms
      have HI := Lib.hid (show ∀ w', Calls Try.prog 14 #[.agg #[.int .i64 vh, .int .i64 vm, .int .i64 vs, .int .i64 vl]] w' fun e w'' => e = .returned (.int .i64 n) ∧ Below w'.heap.size w' w'' from fun w' => by rw [hn]; exact ClockMillis_i_yes _ _ _ _ w' HO.out)
      have HS := Lib.hid (show ∀ w', Calls Try.prog 12 #[.agg #[.int .i64 vh, .int .i64 vm, .int .i64 vs, .int .i64 vl]] w' fun e w'' => e = .returned (.int .i64 n) ∧ Below w'.heap.size w' w'' from fun w' => by rw [hn]; exact ClockMillis_s_yes _ _ _ _ w' HO.out)
      have HCo := Lib.hid (show ∀ w', Calls Try.prog 10 #[.int .i64 n] w' fun e w'' => e = .returned (.tuple #[.agg #[.int .i64 vh, .int .i64 vm, .int .i64 vs, .int .i64 vl], .bool true]) ∧ Below w'.heap.size w' w'' from fun w' => by
        have := ClockOf_i_yes n w' hms.1 hms.2
        obtain ⟨e1, e2, e3, e4⟩ := clock_at HO.out
        rw [← hn] at e1 e2 e3 e4
        rw [e1, e2, e3, e4] at this
        exact this)
      have qn := kdecf (show ¬ n < 0 by omega)
      have qm := kdect (show n ≤ 86400000 by omega)
      clear hok hn
      go_wp2_with fail
      refine (HI.out _).mono ?_
      rintro e w2 ⟨rfl, hb2⟩
      obtain ⟨c0, c1, c2, c3⟩ := agg4_keep hb2
      have hb12 := below2 hb1 (below_alloc hb2)
      have HC2 := Lib.hid (hC.below hb2)
      clear hb1 hb2 hC
      go_wp2_with fail
      refine (HS.out _).mono ?_
      rintro e w3 ⟨rfl, hb3⟩
      have HC3 := Lib.hid (HC2.out.below hb3)
      have hb13 := below2 hb12 hb3
      clear c0 c1 c2 c3 hb12 hb3 HC2
      go_wp2_with fail
      refine (HCo.out _).mono ?_
      rintro e w4 ⟨rfl, hb4⟩
      have HC4 := Lib.hid (HC3.out.below hb4)
      have hlt := HC4.out.lt
      have hne := Nat.ne_of_lt hlt
      have hne' := Nat.ne_of_gt hlt
      obtain ⟨⟨c0, c1, c2, c3⟩, -⟩ := HC4.out
      have HB := Lib.hid (below2 hb13 hb4)
      clear hb13 hb4 HC3
      go_wp2_with fail
      go_ret
      exact ⟨rfl, HB.out.alloc HB.out.size _⟩
    · have HO := Lib.hid hok
      clear hok
      go_wp2_with fail
      refine (ClockMillis_i_no _ _ _ _ _ HO.out).mono ?_
      rintro e w2 ⟨rfl, hb2⟩
      obtain ⟨c0, c1, c2, c3⟩ := agg4_keep hb2
      have hb12 := below2 hb1 (below_alloc hb2)
      clear hb1 hb2 hC
      go_wp2_with fail
      refine (ClockMillis_s_no _ _ _ _ _ HO.out).mono ?_
      rintro e w3 ⟨rfl, hb3⟩
      have hb13 := below2 hb12 hb3
      clear c0 c1 c2 c3 hb12 hb3
      go_wp2_with fail
      go_ret
      exact ⟨rfl, hb13⟩
set_option maxHeartbeats 800000 in
theorem walk_ClockPart (a : Option Addr) (len cap : Nat) (z : List Int) (w : World) (h : IsRow .u8 w a len cap z) : Calls Try.prog 6 #[.slice a len cap] w fun e w' => e = .returned (.bool true) ∧ Below w.heap.size w w' := by
  obtain ⟨hl, hm⟩ := row_len h
  have hB := Bytes.of_row h
  clear h
  have hm' := hm
  unfold maxLen at hm'
  by_cases hbig : (1048576 : Int) < (len : Int)
  · go_enter Try.func6, Try.ntmps6
    go_wp2
    go_ret
    exact ⟨rfl, Below.refl _ _⟩
  · go_enter Try.func6, Try.ntmps6
    go_wp2_with fail
    refine (DrawClockValid_any a len cap w hl hm hB).mono ?_
    rintro e w1 ⟨vh, vm, vs, vl, h0, h1, m0, m1, s0, s1, l0, l1, rfl, hb1⟩
    clear hB
    have hC := Cells4.new w1 23 (.int .i64 vh) (.int .i64 vm) (.int .i64 vs) (.int .i64 vl)
    by_cases hok : ClockOk vh vm vs vl
    · have HO := Lib.hid hok
      have HX := Lib.hid (show ¬ ClockOk vh vm 60 vl by unfold ClockOk; omega)
      have HY := Lib.hid (show ¬ ClockOk 25 vm vs vl by unfold ClockOk; omega)
      have HZ := Lib.hid (show ¬ ClockOk 24 1 vs vl by unfold ClockOk; omega)
      clear hok
      go_wp2_with fail
      refine (ClockValid_i_yes _ _ _ _ _ HO.out).mono ?_
      rintro e w2 ⟨rfl, hb2⟩
      obtain ⟨c0, c1, c2, c3⟩ := agg4_keep hb2
      have hb12 := below2 hb1 (below_alloc hb2)
      have HC2 := Lib.hid (hC.below hb2)
      clear hb1 hb2 hC
      go_wp2_with fail
      refine (ClockValid_s_yes _ _ _ _ _ HO.out).mono ?_
      rintro e w3 ⟨rfl, hb3⟩
      have HC3 := Lib.hid (HC2.out.below hb3)
      have hb13 := below2 hb12 hb3
      clear c0 c1 c2 c3 hb12 hb3 HC2
      obtain ⟨⟨c0, c1, c2, c3⟩, -⟩ := HC3.out
      have hlt := HC3.out.lt
      have hne := Nat.ne_of_lt hlt
      have hne' := Nat.ne_of_gt hlt
      go_wp2_with fail
      refine (ClockValid_i_no _ _ _ _ _ HX.out).mono ?_
      rintro e w4 ⟨rfl, hb4⟩
      have hy := ((Cells4.new (w3.alloc (.cells #[.int .i64 vh, .int .i64 vm, .int .i64 60, .int .i64 vl] 23)) 23 (.int .i64 25) (.int .i64 vm) (.int .i64 vs) (.int .i64 vl)).alloc (.cells #[.int .i64 24, .int .i64 1, .int .i64 vs, .int .i64 vl] 23)).below hb4
      have hz := (Cells4.new ((w3.alloc (.cells #[.int .i64 vh, .int .i64 vm, .int .i64 60, .int .i64 vl] 23)).alloc (.cells #[.int .i64 25, .int .i64 vm, .int .i64 vs, .int .i64 vl] 23)) 23 (.int .i64 24) (.int .i64 1) (.int .i64 vs) (.int .i64 vl)).below hb4
      rw [show (w3.alloc (.cells #[.int .i64 vh, .int .i64 vm, .int .i64 60, .int .i64 vl] 23)).heap.size = w3.heap.size + 1 by simp] at hy
      rw [show ((w3.alloc (.cells #[.int .i64 vh, .int .i64 vm, .int .i64 60, .int .i64 vl] 23)).alloc (.cells #[.int .i64 25, .int .i64 vm, .int .i64 vs, .int .i64 vl] 23)).heap.size = w3.heap.size + 1 + 1 by simp] at hz
      have hb14 := below2 hb13 (below_alloc (below_alloc (below_alloc hb4)))
      clear c0 c1 c2 c3 hlt hne hne' hb13 hb4 HC3
      obtain ⟨⟨c0, c1, c2, c3⟩, -⟩ := hy
      have HZc := Lib.hid hz
      clear hz
      go_wp2_with fail
      refine (ClockValid_i_no _ _ _ _ _ HY.out).mono ?_
      rintro e w5 ⟨rfl, hb5⟩
      have hb15 := below2 hb14 hb5
      clear c0 c1 c2 c3 hb14
      obtain ⟨⟨c0, c1, c2, c3⟩, -⟩ := HZc.out.below hb5
      clear hb5 HZc
      go_wp2_with fail
      refine (ClockValid_i_no _ _ _ _ _ HZ.out).mono ?_
      rintro e w6 ⟨rfl, hb6⟩
      go_wp2_with fail
      go_ret
      exact ⟨rfl, below2 hb15 hb6⟩
    · have HO := Lib.hid hok
      clear hok
      go_wp2_with fail
      refine (ClockValid_i_no _ _ _ _ _ HO.out).mono ?_
      rintro e w2 ⟨rfl, hb2⟩
      obtain ⟨c0, c1, c2, c3⟩ := agg4_keep hb2
      have hb12 := below2 hb1 (below_alloc hb2)
      clear hb1 hb2 hC
      go_wp2_with fail
      refine (ClockValid_s_no _ _ _ _ _ HO.out).mono ?_
      rintro e w3 ⟨rfl, hb3⟩
      have hb13 := below2 hb12 hb3
      clear c0 c1 c2 c3 hb12 hb3
      go_wp2_with fail
      go_ret
      exact ⟨rfl, hb13⟩
end Go.Proofs.Ytkdhlgfpnkdbmaa
