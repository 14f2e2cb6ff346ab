/-
  The walks of laws on the texts of times: each returns true, and nothing that was there is written. No conditions.
-/
import Derived.Test.YtkdhlgfpnkdbmaaDoorClkV
import Derived.Test.YtkdhlgfpnkdbmaaDoorDrawClk
namespace Go.Proofs.YtkdhlgfpnkdbmaaDoor
open Go.RowKit Go.PlainAid
set_option linter.unusedVariables false

theorem clock_nat {h m s l : Int} (hk : ClockOk h m s l) : ∃ a b c d : Nat, h = (a : Int) ∧ m = (b : Int) ∧ s = (c : Int) ∧ l = (d : Int) := by
  obtain ⟨a1, a2, a3, a4, a5, a6, a7, a8⟩ := hk.bd
  exact ⟨h.toNat, m.toNat, s.toNat, l.toNat, by omega, by omega, by omega, by omega⟩
theorem cp6_rd {h m s l : Nat} (b : Bool) (hk : ClockOk h m s l) : ClkRd (cp6 h m s l b) (gapN b) h m s l := by
  have := hk.bd
  exact clk_rd (by omega) (by omega) (by omega) (by omega) b
theorem cp6_size {h m s l : Nat} (b : Bool) (hk : ClockOk h m s l) : (l = 0 ∧ (cp6 h m s l b).size = 6 + 2 * gapN b) ∨ (l ≠ 0 ∧ 8 + 2 * gapN b ≤ (cp6 h m s l b).size ∧ (cp6 h m s l b).size ≤ 10 + 2 * gapN b) := by
  have := hk.bd
  exact clk_size (by omega) b
theorem gapN_le (b : Bool) : gapN b ≤ 1 := by cases b <;> simp [gapN]
theorem gapN_01 (b : Bool) : gapN b = 0 ∨ gapN b = 1 := by cases b <;> simp [gapN]
theorem notEmpty {s : ByteArray} (h : s.size ≠ 0) : s.toList.isEmpty = false := by
  rw [ByteArray.toList_eq, List.isEmpty_eq_false_iff]
  intro e
  apply h
  have := congrArg List.length e
  simpa using this
theorem cp6_some {h m s l : Nat} (b : Bool) (hk : ClockOk h m s l) : (cp6 h m s l b).toList.isEmpty = false := notEmpty (by rcases cp6_size b hk with h | h <;> omega)
theorem mdecf {p : Prop} [Decidable p] (h : ¬ p) : decide p = false := by simp [h]
theorem mdect {p : Prop} [Decidable p] (h : p) : decide p = true := by simp [h]
theorem walk_ExactClockText (h m s l : Int) (b : Bool) (w : World) (h0 : (Lit.int .i64 h).wf = true) (h1 : (Lit.int .i64 m).wf = true) (h2 : (Lit.int .i64 s).wf = true) (h3 : (Lit.int .i64 l).wf = true) : Calls Tryd.prog 7 #[.agg #[.int .i64 h, .int .i64 m, .int .i64 s, .int .i64 l], .bool b] w fun e w' => e = .returned (.bool true) ∧ Below w.heap.size w w' := by
  clear h0 h1 h2 h3
  by_cases hok : ClockOk h m s l
  · obtain ⟨h, m, s, l, rfl, rfl, rfl, rfl⟩ := clock_nat hok
    have HO := Lib.hid hok
    clear hok
    go_enter Tryd.func7, Tryd.ntmps7
    go_wp2_with fail
    refine (toClock_any _ _ _ _ _).mono ?_
    rintro e w1 ⟨rfl, hb1⟩
    go_wp2_with fail
    refine (ClockText_s_yes _ _ _ _ _ _ HO.out).mono ?_
    rintro e w2 ⟨rfl, hb2⟩
    have hB := below2 hb1 hb2
    obtain ⟨d0, d1, d2, d3⟩ := agg4_keep hB
    clear hb1 hb2
    go_wp2_with fail
    refine (toClock_any _ _ _ _ _).mono ?_
    rintro e w3 ⟨rfl, hb3⟩
    go_wp2_with fail
    have hB3 := below_alloc (below2 hB hb3)
    clear hB hb3 d0 d1 d2 d3
    refine (ClockText_i_yes _ _ _ _ _ _ HO.out).mono ?_
    rintro e w4 ⟨rfl, hb4⟩
    go_wp2_with fail
    go_ret
    exact ⟨rfl, below2 hB3 hb4⟩
  · have HO := Lib.hid hok
    clear hok
    go_enter Tryd.func7, Tryd.ntmps7
    go_wp2_with fail
    refine (toClock_any _ _ _ _ _).mono ?_
    rintro e w1 ⟨rfl, hb1⟩
    go_wp2_with fail
    refine (ClockText_s_no _ _ _ _ _ _ HO.out).mono ?_
    rintro e w2 ⟨rfl, hb2⟩
    have hB := below2 hb1 hb2
    obtain ⟨d0, d1, d2, d3⟩ := agg4_keep hB
    clear hb1 hb2
    go_wp2_with fail
    refine (toClock_any _ _ _ _ _).mono ?_
    rintro e w3 ⟨rfl, hb3⟩
    go_wp2_with fail
    have hB3 := below_alloc (below2 hB hb3)
    clear hB hb3 d0 d1 d2 d3
    refine (ClockText_i_no _ _ _ _ _ _ HO.out).mono ?_
    rintro e w4 ⟨rfl, hb4⟩
    go_wp2_with fail
    go_ret
    exact ⟨rfl, below2 hB3 hb4⟩
theorem keep4_upd {w0 W w1 : World} {g b : Nat} {v0 v1 v2 v3 : Value} (hu : Upd g W w1) (hn : b ≠ g) (hg : w0.heap.size ≤ g) (h : W.cell? ⟨b, 0, none⟩ = some v0 ∧ W.cell? ⟨b, 1, none⟩ = some v1 ∧ W.cell? ⟨b, 2, none⟩ = some v2 ∧ W.cell? ⟨b, 3, none⟩ = some v3 ∧ Below w0.heap.size w0 W) :
    w1.cell? ⟨b, 0, none⟩ = some v0 ∧ w1.cell? ⟨b, 1, none⟩ = some v1 ∧ w1.cell? ⟨b, 2, none⟩ = some v2 ∧ w1.cell? ⟨b, 3, none⟩ = some v3 ∧ Below w0.heap.size w0 w1 :=
  ⟨hu.cell (lt_of_cell h.1) hn h.1, hu.cell (lt_of_cell h.1) hn h.2.1, hu.cell (lt_of_cell h.1) hn h.2.2.1, hu.cell (lt_of_cell h.1) hn h.2.2.2.1, h.2.2.2.2.trans (hu.below hg h.2.2.2.2.size)⟩
theorem keep4_set {w0 W : World} {r b : Nat} {v0 v1 v2 v3 : Value} (hr : w0.heap.size ≤ r) (hn : r ≠ b) (a1 a2 a3 a4 : Value) (h : W.cell? ⟨b, 0, none⟩ = some v0 ∧ W.cell? ⟨b, 1, none⟩ = some v1 ∧ W.cell? ⟨b, 2, none⟩ = some v2 ∧ W.cell? ⟨b, 3, none⟩ = some v3 ∧ Below w0.heap.size w0 W) :
    ((((W.setCell ⟨r, 0, none⟩ a1).setCell ⟨r, 1, none⟩ a2).setCell ⟨r, 2, none⟩ a3).setCell ⟨r, 3, none⟩ a4).cell? ⟨b, 0, none⟩ = some v0 ∧ ((((W.setCell ⟨r, 0, none⟩ a1).setCell ⟨r, 1, none⟩ a2).setCell ⟨r, 2, none⟩ a3).setCell ⟨r, 3, none⟩ a4).cell? ⟨b, 1, none⟩ = some v1 ∧ ((((W.setCell ⟨r, 0, none⟩ a1).setCell ⟨r, 1, none⟩ a2).setCell ⟨r, 2, none⟩ a3).setCell ⟨r, 3, none⟩ a4).cell? ⟨b, 2, none⟩ = some v2 ∧ ((((W.setCell ⟨r, 0, none⟩ a1).setCell ⟨r, 1, none⟩ a2).setCell ⟨r, 2, none⟩ a3).setCell ⟨r, 3, none⟩ a4).cell? ⟨b, 3, none⟩ = some v3 ∧ Below w0.heap.size w0 ((((W.setCell ⟨r, 0, none⟩ a1).setCell ⟨r, 1, none⟩ a2).setCell ⟨r, 2, none⟩ a3).setCell ⟨r, 3, none⟩ a4) :=
  ⟨(cfar2 hn).trans ((cfar2 hn).trans ((cfar2 hn).trans ((cfar2 hn).trans h.1))), (cfar2 hn).trans ((cfar2 hn).trans ((cfar2 hn).trans ((cfar2 hn).trans h.2.1))), (cfar2 hn).trans ((cfar2 hn).trans ((cfar2 hn).trans ((cfar2 hn).trans h.2.2.1))), (cfar2 hn).trans ((cfar2 hn).trans ((cfar2 hn).trans ((cfar2 hn).trans h.2.2.2.1))), set4 h.2.2.2.2 hr _ _ _ _⟩
/-- A small time and a bool; what was there is as it was. -/
def ClkBPost (w : World) (e : Ending) (w' : World) : Prop := ∃ (h m s l : Int) (b : Bool), -10 ≤ h ∧ h ≤ 100 ∧ -10 ≤ m ∧ m ≤ 100 ∧ -10 ≤ s ∧ s ≤ 100 ∧ -10 ≤ l ∧ l ≤ 1000 ∧ e = .returned (.tuple #[.agg #[.int .i64 h, .int .i64 m, .int .i64 s, .int .i64 l], .bool b]) ∧ Below w.heap.size w w'
set_option maxHeartbeats 400000 in
theorem DrawClockText_any (a : Option Addr) (len cap : Nat) (w : World) (hl : len ≤ cap) (hm : cap ≤ maxLen) (h : Bytes w.heap.size w a len) : Calls Tryd.prog 12 #[.slice a len cap] w (ClkBPost w) := by
  go_enter Tryd.func12, Tryd.ntmps12
  go_wp2_with fail
  refine (l6Open_any a len cap _ hl hm (cbytes_alloc h _)).mono ?_
  rintro e w1 ⟨rfl, hR1, hb1⟩
  have hB0 := below_alloc hb1
  have hC := (Cells4.new w 25 (.int .i64 0) (.int .i64 0) (.int .i64 0) (.int .i64 0)).below hb1
  have hs1 := hb1.size
  have hsz : (w.alloc (.cells #[.int .i64 0, .int .i64 0, .int .i64 0, .int .i64 0] 25)).heap.size = w.heap.size + 1 := by simp
  rw [hsz] at hR1 hs1
  rw [hsz]
  obtain ⟨g, hg⟩ : ∃ g, g = w.heap.size + 1 := ⟨_, rfl⟩
  rw [← hg] at hR1 hs1 ⊢
  have hgl : w.heap.size < g := by omega
  clear hb1 hsz h hg
  go_wp2_with fail
  refine (l91Clock_any g g 0 w1 hR1 hs1 (by omega)).mono ?_
  rintro e w2 ⟨vh, vm, vs, vl, h0, h1, m0, m1, s0, s1, l0, l1, rfl, ⟨p2, hp2, hR2⟩, hu2⟩
  have hC2 := hC.upd hu2 (by omega)
  have hg2 := rd_lt hR2
  have hB2 := hB0.trans (hu2.below (by omega) (by omega))
  clear hC hB0 hs1 hu2
  go_wp2_with fail
  have hR3 := rd_alloc hR2 (.cells #[.int .i64 vh, .int .i64 vm, .int .i64 vs, .int .i64 vl] 25)
  have hC3 := hC2.alloc (.cells #[.int .i64 vh, .int .i64 vm, .int .i64 vs, .int .i64 vl] 25)
  have hS := of4 (Cells4.new w2 25 (.int .i64 vh) (.int .i64 vm) (.int .i64 vs) (.int .i64 vl)) (hB2.alloc hB2.size (.cells #[.int .i64 vh, .int .i64 vm, .int .i64 vs, .int .i64 vl] 25))
  generalize w2.alloc (.cells #[.int .i64 vh, .int .i64 vm, .int .i64 vs, .int .i64 vl] 25) = W at *
  have hbl : w.heap.size < w2.heap.size := by omega
  generalize w2.heap.size = b at *
  have HR := Lib.hid (show Rd g W.drew g p2 from hR3)
  have HC3 := Lib.hid (show Cells4 W.drew _ _ _ _ _ from hC3)
  have HS := Lib.hid hS
  clear hR2 hC2 hB2 hR3 hC3 hS
  go_region_held3 (fun w' => w'.cell? ⟨b, 0, none⟩ = some (.int .i64 vh) ∧ w'.cell? ⟨b, 1, none⟩ = some (.int .i64 vm) ∧ w'.cell? ⟨b, 2, none⟩ = some (.int .i64 vs) ∧ w'.cell? ⟨b, 3, none⟩ = some (.int .i64 vl) ∧ Below w.heap.size w w') (first | (with_reducible exact HS.out) | (with_reducible exact keep4_drew HS.out) | (with_reducible exact keep4_upd hu3 (by omega) (by omega) (keep4_drew HS.out)) | (with_reducible exact keep4_set (Nat.le_refl _) (by omega) _ _ _ _ (keep4_upd hu3 (by omega) (by omega) (keep4_drew HS.out)))) ((go_at_call 20; refine (pick_any g g p2 2 _ HR.out (by omega) (by omega) (by omega)).mono ?_; rintro e w3 ⟨x, x0, x1, rfl, hR3, hu3⟩; obtain ⟨⟨r0, r1, r2, r3⟩, t0, t1, t2, t3⟩ := HC3.out.upd hu3 (by omega)))
  have HB := Lib.hid (keep4_set (r := w.heap.size) (Nat.le_refl _) (by omega) (.int .i64 vh) (.int .i64 vm) (.int .i64 vs) (.int .i64 vl) (keep4_upd hu3 (by omega) (by omega) (keep4_drew HS.out))).2.2.2.2
  clear hR3 hu3
  go_wp2
  exact bodyPost_ret (v := .tuple #[.agg #[.int .i64 vh, .int .i64 vm, .int .i64 vs, .int .i64 vl], .bool (x == 0)]) (by simp [results, Tryd.results12, go_sem, r0, r1, r2, r3]) rfl ⟨vh, vm, vs, vl, _, h0, h1, m0, m1, s0, s1, l0, l1, rfl, HB.out⟩
end Go.Proofs.YtkdhlgfpnkdbmaaDoor
