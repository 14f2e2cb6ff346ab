/-
  The walk of the law that a time is read as it is written, over the contracts of the readings. Conditions: as it states.
-/
import Derived.Test.YtkdhlgfpnkdbmaaDoorLawQ
import Derived.Test.YtkdhlgfpnkdbmaaDoorDrawCF
namespace Go.Proofs.YtkdhlgfpnkdbmaaDoor
open Go.RowKit Go.PlainAid
set_option linter.unusedVariables false

/-- What reads as a time has that time's text at its head; behind it are zeros, or a point and zeros. -/
theorem tail_use {s : ByteArray} {h m c l : Nat} {b : Bool} (a : ClkRd s (gapN b) h m c l) : (cp6 h m c l b).size ≤ s.size ∧ s.extract 0 (cp6 h m c l b).size = cp6 h m c l b ∧ ∀ i, (cp6 h m c l b).size ≤ i → i < s.size → bt s i = 48 ∨ (bt s i = 46 ∧ i = (cp6 h m c l b).size) := by
  obtain ⟨Z, hz, rfl⟩ := a.tail
  have e1 : (cp6 h m c l b).size = (clkL h m c l b).length := by rw [cp6, bs_size]
  refine ⟨by rw [e1, bs_size]; simp, ?_, fun i h1 h2 => ?_⟩
  · rw [e1, cp6]
    apply ByteArray.ext
    rw [ByteArray.data_extract]
    apply Array.toList_inj.1
    simp [bs]
  · rw [e1] at h1
    rw [bs_size] at h2
    rw [e1, bt_bs, dif_pos h2, List.getElem_append_right h1]
    have hi : i - (clkL h m c l b).length < Z.length := by simp at h2; omega
    rcases hz _ hi with h | ⟨h, h0⟩
    · left
      rw [h]
      rfl
    · right
      rw [h]
      exact ⟨rfl, by omega⟩
set_option maxHeartbeats 1000000 in
theorem core_ClockFrom (ci : ConI) (cs : ConS) (a : Option Addr) (len cap : Nat) (z : List Int) (w : World) (h : IsRow .u8 w a len cap z) (hE : EK w) : Calls Tryd.prog 5 #[.slice a len cap] w fun e w' => e = .returned (.bool true) ∧ Below w.heap.size w w' := by
  obtain ⟨hl, hm⟩ := row_len h
  have hB := Bytes.of_row h
  clear h
  have hm' := hm
  unfold maxLen at hm'
  have HE := Lib.hid hE
  clear hE
  by_cases hbig : (1048576 : Int) < (len : Int)
  · go_enter Tryd.func5, Tryd.ntmps5
    go_wp2
    go_ret
    exact ⟨rfl, Below.refl _ _⟩
  · go_enter Tryd.func5, Tryd.ntmps5
    go_wp2_with fail
    refine (DrawClockFrom_any a len cap w hl hm hB).mono ?_
    rintro e w1 ⟨s, hs60, rfl, hb1⟩
    clear hB
    obtain ⟨h, m, c, l, b, k, hd, hone⟩ := from_one s
    have HF := Lib.hid hone
    clear hone
    go_wp2_with fail
    refine (ci s _ (by omega) (HE.out.below hb1)).mono ?_
    intro e w2 hr
    obtain ⟨rfl, hb2⟩ := HF.out _ _ _ hr
    clear hr
    have hC := Cells4.new w2 25 (.int .i64 h) (.int .i64 m) (.int .i64 c) (.int .i64 l)
    have HB2 := Lib.hid (below2 hb1 hb2)
    clear hb1 hb2
    go_wp2_with fail
    refine (cs s _ (by omega)).mono ?_
    intro e w3 hr
    obtain ⟨rfl, hb3⟩ := HF.out _ _ _ hr
    clear hr
    have hC3 := hC.below hb3
    have HB3 := Lib.hid (below2 (HB2.out.alloc HB2.out.size _) hb3)
    have HC3 := Lib.hid hC3
    have hlt := hC3.lt
    have hne := Nat.ne_of_lt hlt
    have hne' := Nat.ne_of_gt hlt
    obtain ⟨⟨r0, r1, r2, r3⟩, t0, t1, t2, t3⟩ := hC3
    clear hb3 hC HB2
    rcases hd with ⟨rfl, hr, hk⟩ | ⟨rfl, rfl, rfl, rfl, rfl, rfl⟩
    · have HO := Lib.hid hk
      have HT := Lib.hid (tail_use hr)
      clear hr hk
      cases b
      all_goals
        go_wp2_with fail
        refine (ClockText_i_yes _ _ _ _ _ _ HO.out).mono ?_
        rintro e w4 ⟨rfl, hb4⟩
        have HB4 := Lib.hid (below2 (HB3.out.alloc HB3.out.size _) hb4)
        have HC4 := Lib.hid ((HC3.out.alloc _).below hb4)
        clear hb4 HB3 HC3 hlt hne hne' r0 r1 r2 r3 t0 t1 t2 t3
        obtain ⟨hx, hext, htl⟩ := HT.out
        have HTl := Lib.hid htl
        clear htl HT
        have hx60 : (cp6 h m c l _).size ≤ 60 := Nat.le_trans hx hs60
        generalize cp6 h m c l _ = X at *
        have hlt : decide ((s.size : Int) < (X.size : Int)) = false := decide_eq_false (by omega)
        go_wp2_with fail
        go_loop [11] (fun i => ∃ k : Nat, X.size ≤ k ∧ k ≤ s.size ∧ i = .int .i64 (k : Int)) (fun i => s.size - (intOf i).toNat)
        case atStart => exact ⟨X.size, Nat.le_refl _, hx, rfl⟩
        case round =>
          obtain ⟨k, hk0, hk, rfl⟩ := hrel
          clear hlt
          have hgb := get_bt s
          by_cases hkl : k < s.size
          · rcases HTl.out k hk0 hkl with q | ⟨q, hkx⟩
            · obtain ⟨q1, q2⟩ := nbt_ q
              clear q
              go_wp2
              go_round
              case rel => exact ⟨k + 1, by omega, by omega, by go_num⟩
              case measure => simp [intOf]; omega
            · subst hkx
              obtain ⟨q1, q2⟩ := nbt_ q
              obtain ⟨q3, q4⟩ := nbf_ (show bt s X.size ≠ 48 by omega)
              clear q
              go_wp2
              go_round
              case rel => exact ⟨X.size + 1, by omega, by omega, by go_num⟩
              case measure => simp [intOf]; omega
          · obtain rfl : k = s.size := by omega
            obtain ⟨⟨r0, r1, r2, r3⟩, t0, t1, t2, t3⟩ := HC4.out
            go_wp2_with fail
            refine (ClockValid_i_yes _ _ _ _ _ HO.out).mono ?_
            rintro e w5 ⟨rfl, hb5⟩
            go_wp2_with fail
            go_ret
            exact ⟨rfl, below2 HB4.out hb5⟩
    · go_wp2_with fail
      go_ret
      exact ⟨rfl, HB3.out.alloc HB3.out.size _⟩
end Go.Proofs.YtkdhlgfpnkdbmaaDoor
