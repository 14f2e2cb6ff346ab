/-
  The walk of the law that a further zero of a fraction changes nothing, over the contracts of the readings. Conditions: as it states.
-/
import Derived.Test.YtkdhlgfpnkdbmaaDoorLawQ
import Derived.Test.YtkdhlgfpnkdbmaaDoorDrawCF
namespace Go.Proofs.YtkdhlgfpnkdbmaaDoor
open Go.RowKit Go.PlainAid
set_option linter.unusedVariables false

theorem ite_step {p k n : Nat} (h : k ≠ p) : (if p < k + 1 then p else n) = if p < k then p else n := by
  by_cases h1 : p < k
  · rw [if_pos h1, if_pos (by omega)]
  · rw [if_neg h1, if_neg (by omega)]
set_option maxHeartbeats 1000000 in
theorem core_ClockFromZero (ci : ConI) (cs : ConS) (a : Option Addr) (len cap : Nat) (z : List Int) (w : World) (h : IsRow .u8 w a len cap z) (hE : EK w) : Calls Tryd.prog 3 #[.slice a len cap] w fun e w' => e = .returned (.bool true) ∧ Below w.heap.size w w' := by
  obtain ⟨hl, hm⟩ := row_len h
  have hB := Bytes.of_row h
  clear h
  have hm' := hm
  unfold maxLen at hm'
  have HE := Lib.hid hE
  clear hE
  by_cases hbig : (1048576 : Int) < (len : Int)
  · go_enter Tryd.func3, Tryd.ntmps3
    go_wp2
    go_ret
    exact ⟨rfl, Below.refl _ _⟩
  · go_enter Tryd.func3, Tryd.ntmps3
    go_wp2_with fail
    refine (DrawClockFrom_any a len cap w hl hm hB).mono ?_
    rintro e w1 ⟨s, hs60, rfl, hb1⟩
    clear hB
    obtain ⟨h, m, c, l, b, k, hd, hone⟩ := from_one s
    have HF := Lib.hid hone
    clear hone
    go_wp2_with fail
    refine (ci s _ (by omega) (HE.out.below hb1)).mono ?_
    intro e w2 hr
    obtain ⟨rfl, hb2⟩ := HF.out _ _ _ hr
    clear hr
    have hC := Cells4.new w2 25 (.int .i64 h) (.int .i64 m) (.int .i64 c) (.int .i64 l)
    have HB2 := Lib.hid (below2 hb1 hb2)
    clear hb1 hb2
    go_wp2_with fail
    refine (cs s _ (by omega)).mono ?_
    intro e w3 hr
    obtain ⟨rfl, hb3⟩ := HF.out _ _ _ hr
    clear hr
    have hC3 := hC.below hb3
    have HB3 := Lib.hid (below2 (HB2.out.alloc HB2.out.size _) hb3)
    have HC3 := Lib.hid hC3
    have hlt := hC3.lt
    have hne := Nat.ne_of_lt hlt
    have hne' := Nat.ne_of_gt hlt
    obtain ⟨⟨r0, r1, r2, r3⟩, t0, t1, t2, t3⟩ := hC3
    clear hb3 hC HB2
    rcases hd with ⟨rfl, hr, hk⟩ | ⟨rfl, rfl, rfl, rfl, rfl, rfl⟩
    · obtain ⟨p, hp⟩ : ∃ p, p = 6 + 2 * gapN b := ⟨_, rfl⟩
      have HDot := Lib.hid (show ∀ i, i < s.size → (bt s i = 46 ↔ i = p) from fun i hi => by rw [hp]; exact hr.dot (gapN_01 b) hi)
      have HZ := Lib.hid (show p < s.size → s.size ≤ p + 3 → ∀ (W : World) (e : Ending) (W' : World), FromRes (s ++ ⟨#[48]⟩) W e W' → e = .returned (.tuple #[.agg #[.int .i64 h, .int .i64 m, .int .i64 c, .int .i64 l], .bool b, .bool true]) ∧ Below W.heap.size W W' from fun h1 h2 => from_is (hr.zero (by omega) (by omega)) hk)
      clear hr hk hp
      cases b
      all_goals
        go_wp2_with fail
        go_loop [10, 11] (fun at_ i => ∃ k : Nat, k ≤ s.size ∧ i = .int .i64 (k : Int) ∧ at_ = .int .i64 ((if p < k then p else s.size : Nat) : Int)) (fun _ i => s.size - (intOf i).toNat)
        case atStart => exact ⟨0, Nat.zero_le _, rfl, by simp⟩
        case round =>
          obtain ⟨k, hk, rfl, rfl⟩ := hrel
          have hgb := get_bt s
          by_cases hkl : k < s.size
          · by_cases hkp : k = p
            · obtain ⟨q1, q2⟩ := nbt_ ((HDot.out k hkl).2 hkp)
              have HK := Lib.hid hkp
              clear hkp
              go_wp2
              go_round
              case rel => exact ⟨k + 1, by omega, by go_num, by rw [if_pos (by have := HK.out; omega), HK.out]⟩
              case measure => simp [intOf]; omega
            · obtain ⟨q1, q2⟩ := nbf_ (fun hq => hkp ((HDot.out k hkl).1 hq))
              have HK := Lib.hid hkp
              clear hkp
              go_wp2
              go_round
              case rel => exact ⟨k + 1, by omega, by go_num, by rw [ite_step HK.out]⟩
              case measure => simp [intOf]; omega
          · obtain rfl : k = s.size := by omega
            clear hgb
            by_cases hps : p < s.size
            · rw [if_pos hps]
              by_cases hp3 : s.size ≤ p + 3
              · have HF2 := Lib.hid (HZ.out hps hp3)
                have hadd := addc_law (P := Tryd.prog) (a := s) (b := ⟨#[48]⟩) (by show s.size + 1 ≤ _; omega)
                have hsz : (s ++ (⟨#[48]⟩ : ByteArray)).size ≤ 61 := by rw [addc_size]; show s.size + 1 ≤ _; omega
                obtain ⟨q1, q2⟩ := nbf_ (show (p : Int) ≠ (s.size : Int) by omega)
                go_wp2_with fail
                clear hlt hne hne' r0 r1 r2 r3 t0 t1 t2 t3 hadd q1 q2
                have hB3 := HB3.out.alloc HB3.out.size (.cells #[.int .i64 h, .int .i64 m, .int .i64 c, .int .i64 l] 25)
                have hC3 := HC3.out.alloc (.cells #[.int .i64 h, .int .i64 m, .int .i64 c, .int .i64 l] 25)
                generalize w3.alloc (.cells #[.int .i64 h, .int .i64 m, .int .i64 c, .int .i64 l] 25) = W3 at *
                generalize s ++ (⟨#[48]⟩ : ByteArray) = s2 at *
                refine (ci s2 _ (by omega) (HE.out.below hB3)).mono ?_
                intro e w4 hr
                obtain ⟨rfl, hb4⟩ := HF2.out _ _ _ hr
                clear hr
                have hC4 := hC3.below hb4
                have HB4 := Lib.hid (below2 hB3 hb4)
                clear hb4 hC3 hB3
                have hlt := hC4.lt
                have hne := Nat.ne_of_lt hlt
                have hne' := Nat.ne_of_gt hlt
                obtain ⟨⟨r0, r1, r2, r3⟩, t0, t1, t2, t3⟩ := hC4
                go_wp2_with fail
                go_ret
                exact ⟨rfl, HB4.out.alloc HB4.out.size _⟩
              · obtain ⟨q1, q2⟩ := nbf_ (show (p : Int) ≠ (s.size : Int) by omega)
                go_wp2_with fail
                go_ret
                exact ⟨rfl, HB3.out.alloc HB3.out.size _⟩
            · rw [if_neg hps]
              go_wp2_with fail
              go_ret
              exact ⟨rfl, HB3.out.alloc HB3.out.size _⟩
    · go_wp2_with fail
      go_ret
      exact ⟨rfl, HB3.out.alloc HB3.out.size _⟩
end Go.Proofs.YtkdhlgfpnkdbmaaDoor
