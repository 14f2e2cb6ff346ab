/-
  The walk of the law that a text has its time, over the contract of the reading. Conditions: as it states.
-/
import Derived.Test.YtkdhlgfpnkdbmaaDoorLawO
namespace Go.Proofs.YtkdhlgfpnkdbmaaDoor
open Go.RowKit Go.PlainAid
set_option linter.unusedVariables false

theorem nbt_ {a b : Int} (h : a = b) : (a == b) = true ∧ (a != b) = false := ⟨beq_iff_eq.2 h, by simp [h]⟩
theorem nbf_ {a b : Int} (h : a ≠ b) : (a == b) = false ∧ (a != b) = true := ⟨beq_eq_false_iff_ne.2 h, bne_iff_ne.2 h⟩
/-- What a text that reads as a time is read as. -/
theorem from_is {s : ByteArray} {b : Bool} {h m c l : Nat} (hr : ClkRd s (gapN b) h m c l) (hk : ClockOk h m c l) : ∀ (w : World) (e : Ending) (w' : World), FromRes s w e w' → e = .returned (.tuple #[.agg #[.int .i64 h, .int .i64 m, .int .i64 c, .int .i64 l], .bool b, .bool true]) ∧ Below w.heap.size w w' := by
  intro w e w' hf
  obtain ⟨h', m', c', l', b', k', hd, hone⟩ := from_one s
  obtain ⟨he, hb⟩ := hone w e w' hf
  refine ⟨?_, hb⟩
  obtain ⟨-, ⟨b2, h2, m2, c2, l2, hr2, hk2, rfl⟩ | ⟨hno, rfl⟩⟩ := hf
  · have : b2 = b := by
      cases b
      · cases b2
        · rfl
        · exact (hr.excl hr2).elim
      · cases b2
        · exact (hr2.excl hr).elim
        · rfl
    subst this
    obtain ⟨rfl, rfl, rfl, rfl⟩ := hr.uniq hr2
    rfl
  · exact absurd hk (hno b h m c l hr)
set_option maxHeartbeats 1000000 in
theorem core_ClockText (ci : ConI) (a : Option Addr) (len cap : Nat) (z : List Int) (w : World) (h : IsRow .u8 w a len cap z) (hE : EK w) : Calls Tryd.prog 4 #[.slice a len cap] w fun e w' => e = .returned (.bool true) ∧ Below w.heap.size w w' := by
  obtain ⟨hl, hm⟩ := row_len h
  have hB := Bytes.of_row h
  clear h
  have hm' := hm
  unfold maxLen at hm'
  have HE := Lib.hid hE
  clear hE
  by_cases hbig : (1048576 : Int) < (len : Int)
  · go_enter Tryd.func4, Tryd.ntmps4
    go_wp2
    go_ret
    exact ⟨rfl, Below.refl _ _⟩
  · go_enter Tryd.func4, Tryd.ntmps4
    go_wp2_with fail
    refine (DrawClockText_any a len cap w hl hm hB).mono ?_
    rintro e w1 ⟨vh, vm, vs, vl, b, h0, h1, m0, m1, s0, s1, l0, l1, rfl, hb1⟩
    clear hB
    by_cases hok : ClockOk vh vm vs vl
    · obtain ⟨h, m, s, l, rfl, rfl, rfl, rfl⟩ := clock_nat hok
      have HO := Lib.hid hok
      have hC := Cells4.new w1 25 (.int .i64 h) (.int .i64 m) (.int .i64 s) (.int .i64 l)
      have qe := cp6_some b hok
      have hsz := cp6_size b hok
      have hgn := gapN_le b
      clear hok
      go_wp2_with fail
      refine (ClockText_i_yes _ _ _ _ _ _ HO.out).mono ?_
      rintro e w2 ⟨rfl, hb2⟩
      obtain ⟨c0, c1, c2, c3⟩ := agg4_keep hb2
      have hb12 := below2 hb1 (below_alloc hb2)
      have HC2 := Lib.hid (hC.below hb2)
      clear hb1 hb2 hC
      go_wp2_with fail
      refine (ClockText_s_yes _ _ _ _ _ _ HO.out).mono ?_
      rintro e w3 ⟨rfl, hb3⟩
      have HC3 := Lib.hid (HC2.out.below hb3)
      have HB := Lib.hid (below2 hb12 hb3)
      clear c0 c1 c2 c3 hb12 hb3 HC2
      have HF := Lib.hid (from_is (cp6_rd b HO.out) HO.out)
      have hT20 : (cp6 h m s l b).size ≤ 20 := by omega
      clear hsz hgn
      generalize cp6 h m s l b = T at *
      go_wp2_with fail
      refine (ci T _ (by omega) (HE.out.below HB.out)).mono ?_
      intro e w4 hr
      obtain ⟨rfl, hb4⟩ := HF.out _ _ _ hr
      clear hr
      have hC4 := HC3.out.below hb4
      have HB4 := Lib.hid (below2 HB.out hb4)
      have hlt := hC4.lt
      have hne := Nat.ne_of_lt hlt
      have hne' := Nat.ne_of_gt hlt
      obtain ⟨⟨r0, r1, r2, r3⟩, t0, t1, t2, t3⟩ := hC4
      clear hb4 HC3 HB
      cases b
      all_goals
        go_wp2_with fail
        go_ret
        exact ⟨rfl, HB4.out.alloc HB4.out.size _⟩
    · have HO := Lib.hid hok
      have hC := Cells4.new w1 25 (.int .i64 vh) (.int .i64 vm) (.int .i64 vs) (.int .i64 vl)
      have qe : (bs []).toList.isEmpty = true := by rw [ByteArray.toList_eq, bs_data]; rfl
      clear hok
      go_wp2_with fail
      refine (ClockText_i_no _ _ _ _ _ _ HO.out).mono ?_
      rintro e w2 ⟨rfl, hb2⟩
      obtain ⟨c0, c1, c2, c3⟩ := agg4_keep hb2
      have hb12 := below2 hb1 (below_alloc hb2)
      clear hb1 hb2 hC
      go_wp2_with fail
      refine (ClockText_s_no _ _ _ _ _ _ HO.out).mono ?_
      rintro e w3 ⟨rfl, hb3⟩
      have hb13 := below2 hb12 hb3
      clear c0 c1 c2 c3 hb12 hb3
      go_wp2_with fail
      go_ret
      exact ⟨rfl, hb13⟩
end Go.Proofs.YtkdhlgfpnkdbmaaDoor
