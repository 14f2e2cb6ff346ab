/-
  The walk of the law that a fraction has no zeros at its end: it returns true, and nothing that was there is written. No conditions.
-/
import Derived.Test.YtkdhlgfpnkdbmaaDoorLawM
namespace Go.Proofs.YtkdhlgfpnkdbmaaDoor
open Go.RowKit Go.PlainAid
set_option linter.unusedVariables false

theorem nbt {a b : Int} (h : a = b) : (a == b) = true ∧ (a != b) = false := ⟨beq_iff_eq.2 h, by simp [h]⟩
theorem nbf {a b : Int} (h : a ≠ b) : (a == b) = false ∧ (a != b) = true := ⟨beq_eq_false_iff_ne.2 h, bne_iff_ne.2 h⟩
set_option maxHeartbeats 1000000 in
theorem walk_ClockTextShort (a : Option Addr) (len cap : Nat) (z : List Int) (w : World) (h : IsRow .u8 w a len cap z) : Calls Tryd.prog 8 #[.slice a len cap] w fun e w' => e = .returned (.bool true) ∧ Below w.heap.size w w' := by
  obtain ⟨hl, hm⟩ := row_len h
  have hB := Bytes.of_row h
  clear h
  have hm' := hm
  unfold maxLen at hm'
  by_cases hbig : (1048576 : Int) < (len : Int)
  · go_enter Tryd.func8, Tryd.ntmps8
    go_wp2
    go_ret
    exact ⟨rfl, Below.refl _ _⟩
  · go_enter Tryd.func8, Tryd.ntmps8
    go_wp2_with fail
    refine (DrawClockText_any a len cap w hl hm hB).mono ?_
    rintro e w1 ⟨vh, vm, vs, vl, b, h0, h1, m0, m1, s0, s1, l0, l1, rfl, hb1⟩
    clear hB
    by_cases hok : ClockOk vh vm vs vl
    · obtain ⟨h, m, s, l, rfl, rfl, rfl, rfl⟩ := clock_nat hok
      have HO := Lib.hid hok
      have hC := Cells4.new w1 25 (.int .i64 h) (.int .i64 m) (.int .i64 s) (.int .i64 l)
      have qe := cp6_some b hok
      have hsz := cp6_size b hok
      have hgn := gapN_le b
      clear hok
      go_wp2_with fail
      refine (ClockText_i_yes _ _ _ _ _ _ HO.out).mono ?_
      rintro e w2 ⟨rfl, hb2⟩
      obtain ⟨c0, c1, c2, c3⟩ := agg4_keep hb2
      have hb12 := below2 hb1 (below_alloc hb2)
      have HC2 := Lib.hid (hC.below hb2)
      clear hb1 hb2 hC
      go_wp2_with fail
      refine (ClockText_s_yes _ _ _ _ _ _ HO.out).mono ?_
      rintro e w3 ⟨rfl, hb3⟩
      obtain ⟨⟨k0, k1, k2, k3⟩, -⟩ := HC2.out.below hb3
      have HB := Lib.hid (below2 hb12 hb3)
      clear c0 c1 c2 c3 hb12 hb3 HC2
      go_wp2_with fail
      have HRd := Lib.hid (cp6_rd b HO.out)
      have HL := Lib.hid (show l ≠ 0 → bt (cp6 h m s l b) ((cp6 h m s l b).size - 1) ≠ 48 from fun h0 => clk_last h0 (by have := HO.out.bd; omega) b)
      have HSz := Lib.hid hsz
      have hg1 := gapN_01 b
      have hT20 : (cp6 h m s l b).size ≤ 20 := by omega
      clear hsz
      generalize cp6 h m s l b = T at *
      go_loop [7, 8] (fun sm i => ∃ k : Nat, k ≤ T.size ∧ i = .int .i64 (k : Int) ∧ sm = .bool (decide (6 + 2 * gapN b < k))) (fun _ i => T.size - (intOf i).toNat)
      case atStart => exact ⟨0, Nat.zero_le _, rfl, by simp⟩
      case round =>
        obtain ⟨k, hk, rfl, rfl⟩ := hrel
        have hgb := get_bt T
        by_cases hlt : k < T.size
        · have hdot := HRd.out.dot hg1 hlt
          rcases Nat.lt_trichotomy k (6 + 2 * gapN b) with hc | hc | hc
          · rw [decide_eq_false (show ¬ 6 + 2 * gapN b < k by omega)]
            obtain ⟨q1, q2⟩ := nbf (show bt T k ≠ 46 from fun h => by have := hdot.1 h; omega)
            have HC := Lib.hid hc
            clear hdot hc
            go_wp2
            go_round
            case rel => exact ⟨k + 1, by omega, by go_num, by rw [decide_eq_false (show ¬ 6 + 2 * gapN b < k + 1 by have := HC.out; omega)]⟩
            case measure => simp [intOf]; omega
          · rw [decide_eq_false (show ¬ 6 + 2 * gapN b < k by omega)]
            obtain ⟨q1, q2⟩ := nbt (hdot.2 hc)
            have HC := Lib.hid hc
            clear hdot hc
            go_wp2
            go_round
            case rel => exact ⟨k + 1, by omega, by go_num, by rw [decide_eq_true (show 6 + 2 * gapN b < k + 1 by have := HC.out; omega)]⟩
            case measure => simp [intOf]; omega
          · rw [decide_eq_true hc]
            have HC := Lib.hid hc
            clear hdot hc
            go_wp2
            go_round
            case rel => exact ⟨k + 1, by omega, by go_num, by rw [decide_eq_true (show 6 + 2 * gapN b < k + 1 by have := HC.out; omega)]⟩
            case measure => simp [intOf]; omega
        · obtain rfl : k = T.size := by omega
          rcases HSz.out with ⟨hl0, hs0⟩ | ⟨hl0, hs0, hs1⟩
          · rw [decide_eq_false (show ¬ 6 + 2 * gapN b < T.size by omega)]
            have q1 : decide ((0 : Int) < (l : Int)) = false := decide_eq_false (by omega)
            have q1n : decide (0 < l) = false := decide_eq_false (by omega)
            clear hl0 hs0
            go_wp2
            go_ret
            exact ⟨rfl, HB.out⟩
          · rw [decide_eq_true (show 6 + 2 * gapN b < T.size by omega)]
            have q1 : decide ((0 : Int) < (l : Int)) = true := decide_eq_true (by omega)
            have q1n : decide (0 < l) = true := decide_eq_true (by omega)
            have q1p : 0 < l := by omega
            have hl := HL.out hl0
            obtain ⟨j, hj⟩ : ∃ j, T.size = j + 1 := ⟨T.size - 1, by omega⟩
            rw [hj] at hl
            obtain ⟨q2, q3⟩ := nbf (show bt T j ≠ 48 from by simpa using hl)
            have hj20 : j ≤ 20 := by omega
            clear hl0 hs0 hs1 hl hlt hk
            go_wp2
            go_ret
            exact ⟨rfl, HB.out⟩
    · have HO := Lib.hid hok
      have hC := Cells4.new w1 25 (.int .i64 vh) (.int .i64 vm) (.int .i64 vs) (.int .i64 vl)
      have qe : (bs []).toList.isEmpty = true := by rw [ByteArray.toList_eq, bs_data]; rfl
      clear hok
      go_wp2_with fail
      refine (ClockText_i_no _ _ _ _ _ _ HO.out).mono ?_
      rintro e w2 ⟨rfl, hb2⟩
      obtain ⟨c0, c1, c2, c3⟩ := agg4_keep hb2
      have hb12 := below2 hb1 (below_alloc hb2)
      clear hb1 hb2 hC
      go_wp2_with fail
      refine (ClockText_s_no _ _ _ _ _ _ HO.out).mono ?_
      rintro e w3 ⟨rfl, hb3⟩
      have hb13 := below2 hb12 hb3
      clear c0 c1 c2 c3 hb12 hb3
      go_wp2_with fail
      go_ret
      exact ⟨rfl, hb13⟩
end Go.Proofs.YtkdhlgfpnkdbmaaDoor
