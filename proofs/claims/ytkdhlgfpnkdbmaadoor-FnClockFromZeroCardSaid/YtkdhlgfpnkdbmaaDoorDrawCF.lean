/-
  Contract of the draw of a text that may be a time: it returns a short text and leaves what was there. Conditions: as it states.
-/
import Derived.Test.YtkdhlgfpnkdbmaaDoorLawM
import Derived.Test.YtkdhlgfpnkdbmaaDoorDrawDig
namespace Go.Proofs.YtkdhlgfpnkdbmaaDoor
open Go.RowKit Go.PlainAid
set_option linter.unusedVariables false

theorem addc_law {P : Program} {a b : ByteArray} (h : a.size + b.size ≤ 1000000) (w : World) : (Op.stringOp .add a b).run P w = .ok (.string (a ++ b)) w := run_string_add_sum w a b (by omega)
theorem addc_size (a b : ByteArray) : (a ++ b).size = a.size + b.size := by simp
/-- A time's text is short. -/
theorem ClockText_s_any (h m s l : Int) (b : Bool) (w : World) : Calls Tryd.prog 14 #[.agg #[.int .i64 h, .int .i64 m, .int .i64 s, .int .i64 l], .bool b] w fun e w' => (∃ t : ByteArray, t.size ≤ 20 ∧ e = .returned (.string t)) ∧ Below w.heap.size w w' := by
  by_cases hok : ClockOk h m s l
  · obtain ⟨h, m, s, l, rfl, rfl, rfl, rfl⟩ := clock_nat hok
    refine (ClockText_s_yes _ _ _ _ _ _ hok).mono ?_
    rintro e w1 ⟨rfl, hb1⟩
    exact ⟨⟨_, by have := cp6_size b hok; have := gapN_le b; omega, rfl⟩, hb1⟩
  · refine (ClockText_s_no _ _ _ _ _ _ hok).mono ?_
    rintro e w1 ⟨rfl, hb1⟩
    exact ⟨⟨_, by rw [bs_size]; simp, rfl⟩, hb1⟩
/-- A short text; what was there is as it was. -/
def CfPost (w : World) (e : Ending) (w' : World) : Prop := ∃ s : ByteArray, s.size ≤ 60 ∧ e = .returned (.string s) ∧ Below w.heap.size w w'
set_option maxHeartbeats 1000000 in
theorem DrawClockFrom_any (a : Option Addr) (len cap : Nat) (w : World) (hl : len ≤ cap) (hm : cap ≤ maxLen) (h : Bytes w.heap.size w a len) : Calls Tryd.prog 9 #[.slice a len cap] w (CfPost w) := by
  go_enter Tryd.func9, Tryd.ntmps9
  go_wp2_with fail
  refine (l6Open_any a len cap w hl hm h).mono ?_
  rintro e w1 ⟨rfl, hR1, hb1⟩
  clear h
  have hs1 := hb1.size
  obtain ⟨g, hg⟩ : ∃ g, g = w.heap.size := ⟨_, rfl⟩
  rw [← hg] at hR1 ⊢
  have hgl : w.heap.size ≤ g := by omega
  rw [← hg] at hs1
  clear hg
  go_wp2_with fail
  refine (l91Clock_any g g 0 w1 hR1 (by omega) (by omega)).mono ?_
  rintro e w2 ⟨vh, vm, vs, vl, h0, h1, m0, m1, s0, s1, l0, l1, rfl, ⟨p2, hp2, hR2⟩, hu2⟩
  have hB2 := hb1.trans (hu2.below (by omega) (by omega))
  clear hR1 hb1 hu2 hs1
  go_wp2_with fail
  refine (pick_any g g p2 2 _ hR2 (by omega) (by omega) (by omega)).mono ?_
  rintro e w3 ⟨x, x0, x1, rfl, hR3, hu3⟩
  have hB3 := hB2.trans (hu3.below hgl hB2.size)
  clear hR2 hB2 hu3
  go_wp2_with fail
  refine (ClockText_s_any _ _ _ _ _ _).mono ?_
  rintro e w4 ⟨⟨t, ht, rfl⟩, hb4⟩
  have hR4 := hR3.below hb4
  have hB4 := below2 hB3 hb4
  clear hR3 hB3 hb4
  go_wp2_with fail
  refine (pick_any g g _ 8 _ hR4 (by omega) (by omega) (by omega)).mono ?_
  rintro e w5 ⟨k, k0, k1, rfl, hR5, hu5⟩
  have hB5 := hB4.trans (hu5.below hgl hB4.size)
  clear hR4 hB4 hu5
  by_cases g0 : k = 0
  · have q0 := dt_ g0
    clear g0 k0 k1
    go_wp2_with fail
    refine (of_any g g _ _ _ _ (hR5.alloc _) (strRow_alloc w5 [⟨#[48]⟩, ⟨#[46]⟩, ⟨#[90]⟩, ⟨#[46, 53]⟩, ⟨#[46, 49, 50, 51, 52]⟩, ⟨#[46, 53, 48, 48]⟩] 9 (by decide)) (by have := hR5.lt; omega) (by omega) (by decide) (by decide)).mono ?_
    rintro e w6 ⟨s2, hs2, rfl, -, hu6⟩
    have hadd := addc_law (P := Tryd.prog) (a := t) (b := s2) (by omega)
    have HP := Lib.hid (show CfPost w (.returned (.string (t ++ s2))) w6 from ⟨_, by rw [addc_size]; omega, rfl, hB5.trans ((((Upd.refl g w5).alloc _).trans hu6).below hgl hB5.size)⟩)
    clear hR5 hB5 hu6
    go_wp2_with fail
    go_ret
    exact HP.out
  · have q0 := df_ g0
    by_cases g1 : k = 1
    · have q1 := dt_ g1
      clear g0 g1 k0 k1
      go_wp2_with fail
      refine (of_any g g _ _ _ _ (hR5.alloc _) (strRow_alloc w5 [⟨#[50, 52, 58, 48, 48, 58, 48, 48]⟩, ⟨#[50, 52, 58, 48, 48, 58, 48, 49]⟩, ⟨#[49, 50, 58, 54, 48, 58, 48, 48]⟩, ⟨#[49, 50, 58, 48, 58, 48, 48]⟩, ⟨#[49, 50, 48, 48]⟩, ⟨#[49, 50, 58, 48, 48]⟩, ⟨#[50, 51, 53, 57, 53, 57]⟩, ⟨#[49, 50, 58, 51, 52, 53, 54]⟩, ⟨#[48, 48, 58, 48, 48, 58, 48, 48, 46, 48, 48, 48]⟩, ⟨#[]⟩] 9 (by decide)) (by have := hR5.lt; omega) (by omega) (by decide) (by decide)).mono ?_
      rintro e w6 ⟨s2, hs2, rfl, -, hu6⟩
      have HP := Lib.hid (show CfPost w (.returned (.string s2)) w6 from ⟨_, by omega, rfl, hB5.trans ((((Upd.refl g w5).alloc _).trans hu6).below hgl hB5.size)⟩)
      clear hR5 hB5 hu6
      go_wp2_with fail
      go_ret
      exact HP.out
    · have q1 := df_ g1
      clear g0 g1 k0 k1
      have HP := Lib.hid (show CfPost w (.returned (.string t)) w5 from ⟨_, by omega, rfl, hB5⟩)
      go_wp2_with fail
      go_ret
      exact HP.out
end Go.Proofs.YtkdhlgfpnkdbmaaDoor
