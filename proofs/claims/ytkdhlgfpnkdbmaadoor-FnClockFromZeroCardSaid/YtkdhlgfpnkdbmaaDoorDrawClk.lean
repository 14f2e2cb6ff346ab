/-
  Contracts of the draws of times: each returns something small and leaves what was there. Conditions: as each states.
-/
import Derived.Test.YtkdhlgfpnkdbmaaDoorClk2
import Derived.Test.YtkdhlgfpnkdbmaaDoorDrawYear
import Derived.Deep.RegionWith
namespace Go.Proofs.YtkdhlgfpnkdbmaaDoor
open Go.RowKit Go.PlainAid
set_option linter.unusedVariables false

/-- A small time, and a reader some picks further. -/
def ClkDraw (B g p q : Nat) (w : World) (e : Ending) (w' : World) : Prop := ∃ h m s l : Int, -10 ≤ h ∧ h ≤ 100 ∧ -10 ≤ m ∧ m ≤ 100 ∧ -10 ≤ s ∧ s ≤ 100 ∧ -10 ≤ l ∧ l ≤ 1000 ∧ e = .returned (.agg #[.int .i64 h, .int .i64 m, .int .i64 s, .int .i64 l]) ∧ (∃ p', p' ≤ p + q ∧ Rd B w' g p') ∧ Upd g w w'
theorem crd_far {B g p b o : Nat} {w : World} {v : Value} (h : Rd B w g p) (hb : b ≠ g) (hB : B ≤ b) : Rd B (w.setCell ⟨b, o, none⟩ v) g p := by
  obtain ⟨h1, h2, h3, h4, a, len, cap, h5, h6, h7, h8⟩ := h
  have hne : ∀ j, (⟨b, o, none⟩ : Addr) ≠ ⟨g, j, none⟩ := fun j e => hb (congrArg Addr.block e)
  refine ⟨h1, by simpa [World.setCell] using h2, by rw [World.frozen?_setCell]; exact h3, by rw [World.cell?_setCell_other _ _ _ _ (hne 1)]; exact h4, a, len, cap, h5, h6, by rw [World.cell?_setCell_other _ _ _ _ (hne 0)]; exact h7, h8.below ((Below.refl B w).setCell (p := ⟨b, o, none⟩) hB _)⟩
theorem cupd_new {g b o : Nat} {w0 w : World} {v : Value} (h : Upd g w0 w) (hb : w0.heap.size ≤ b) : Upd g w0 (w.setCell ⟨b, o, none⟩ v) :=
  ⟨h.os, h.tape, h.output, by simpa [World.setCell] using h.size, fun k hk hn => (Below.heap_setCell w ⟨b, o, none⟩ v k (by show k ≠ b; omega)).trans (h.block k hk hn)⟩
theorem cfar2 {w : World} {b r o j : Nat} {v : Value} (h : b ≠ r) : (w.setCell ⟨b, o, none⟩ v).cell? ⟨r, j, none⟩ = w.cell? ⟨r, j, none⟩ :=
  World.cell?_setCell_other _ _ _ _ (fun e => h (congrArg Addr.block e))
theorem Cells4.far {w : World} {r b o : Nat} {x y z u v : Value} (h : Cells4 w r x y z u) (hn : b ≠ r) : Cells4 (w.setCell ⟨b, o, none⟩ v) r x y z u := by
  obtain ⟨⟨h0, h1, h2, h3⟩, h4, h5, h6, h7⟩ := h
  exact ⟨⟨(cfar2 hn).trans h0, (cfar2 hn).trans h1, (cfar2 hn).trans h2, (cfar2 hn).trans h3⟩, by rw [World.frozen?_setCell]; exact h4, by rw [World.frozen?_setCell]; exact h5, by rw [World.frozen?_setCell]; exact h6, by rw [World.frozen?_setCell]; exact h7⟩
theorem Cells4.set0 {w : World} {r : Nat} {x y z u : Value} (h : Cells4 w r x y z u) (v : Value) : Cells4 (w.setCell ⟨r, 0, none⟩ v) r v y z u := by
  obtain ⟨⟨h0, h1, h2, h3⟩, h4, h5, h6, h7⟩ := h
  exact ⟨⟨World.cell?_setCell_same _ _ _ h0, by rw [World.cell?_setCell_other _ _ _ _ (by simp)]; exact h1, by rw [World.cell?_setCell_other _ _ _ _ (by simp)]; exact h2, by rw [World.cell?_setCell_other _ _ _ _ (by simp)]; exact h3⟩, by rw [World.frozen?_setCell]; exact h4, by rw [World.frozen?_setCell]; exact h5, by rw [World.frozen?_setCell]; exact h6, by rw [World.frozen?_setCell]; exact h7⟩
theorem Cells4.set2 {w : World} {r : Nat} {x y z u : Value} (h : Cells4 w r x y z u) (v : Value) : Cells4 (w.setCell ⟨r, 2, none⟩ v) r x y v u := by
  obtain ⟨⟨h0, h1, h2, h3⟩, h4, h5, h6, h7⟩ := h
  exact ⟨⟨by rw [World.cell?_setCell_other _ _ _ _ (by simp)]; exact h0, by rw [World.cell?_setCell_other _ _ _ _ (by simp)]; exact h1, World.cell?_setCell_same _ _ _ h2, by rw [World.cell?_setCell_other _ _ _ _ (by simp)]; exact h3⟩, by rw [World.frozen?_setCell]; exact h4, by rw [World.frozen?_setCell]; exact h5, by rw [World.frozen?_setCell]; exact h6, by rw [World.frozen?_setCell]; exact h7⟩
/-- What the draw of a time holds: a reader in block g, the time in block b, its result's cells in block r. -/
structure LC (B g p r b : Nat) (h m s l : Int) (w0 w : World) : Prop where
  rd : Rd B w g p
  upd : Upd g w0 w
  rg : r ≠ g
  bg : b ≠ g
  rb : r ≠ b
  lr : w0.heap.size ≤ r
  lb : w0.heap.size ≤ b
  cb : Cells4 w b (.int .i64 h) (.int .i64 m) (.int .i64 s) (.int .i64 l)
  cr : Cells4 w r (.int .i64 0) (.int .i64 0) (.int .i64 0) (.int .i64 0)
theorem LC.step {B g p p1 r b : Nat} {h m s l : Int} {w0 w w1 : World} (H : LC B g p r b h m s l w0 w) (hu : Upd g w w1) (hR : Rd B w1 g p1) : LC B g p1 r b h m s l w0 w1 :=
  { H with rd := hR, upd := H.upd.trans hu, cb := H.cb.upd hu H.bg, cr := H.cr.upd hu H.rg }
theorem LC.s0 {B g p r b : Nat} {h m s l : Int} {w0 w : World} (H : LC B g p r b h m s l w0 w) (hB : B ≤ w0.heap.size) (v : Int) : LC B g p r b v m s l w0 (w.setCell ⟨b, 0, none⟩ (.int .i64 v)) :=
  { H with rd := crd_far H.rd H.bg (Nat.le_trans hB H.lb), upd := cupd_new H.upd H.lb, cb := H.cb.set0 _, cr := H.cr.far H.rb.symm }
theorem LC.s2 {B g p r b : Nat} {h m s l : Int} {w0 w : World} (H : LC B g p r b h m s l w0 w) (hB : B ≤ w0.heap.size) (v : Int) : LC B g p r b h m v l w0 (w.setCell ⟨b, 2, none⟩ (.int .i64 v)) :=
  { H with rd := crd_far H.rd H.bg (Nat.le_trans hB H.lb), upd := cupd_new H.upd H.lb, cb := H.cb.set2 _, cr := H.cr.far H.rb.symm }
theorem LC.fin {B g p r b : Nat} {h m s l : Int} {w0 w : World} (H : LC B g p r b h m s l w0 w) (hB : B ≤ w0.heap.size) (x y z u : Value) :
    Rd B ((((w.setCell ⟨r, 0, none⟩ x).setCell ⟨r, 1, none⟩ y).setCell ⟨r, 2, none⟩ z).setCell ⟨r, 3, none⟩ u) g p ∧ Upd g w0 ((((w.setCell ⟨r, 0, none⟩ x).setCell ⟨r, 1, none⟩ y).setCell ⟨r, 2, none⟩ z).setCell ⟨r, 3, none⟩ u) := by
  have hr := Nat.le_trans hB H.lr
  exact ⟨crd_far (crd_far (crd_far (crd_far H.rd H.rg hr) H.rg hr) H.rg hr) H.rg hr, cupd_new (cupd_new (cupd_new (cupd_new H.upd H.lr) H.lr) H.lr) H.lr⟩
set_option maxHeartbeats 2000000 in
theorem l91Clock_any (B g p : Nat) (w : World) (hR : Rd B w g p) (hB : B ≤ w.heap.size) (hp : p ≤ 1000) : Calls Tryd.prog 19 #[.pointer (some ⟨g, 0, none⟩)] w (ClkDraw B g p 12 w) := by
  have hg := rd_lt hR
  have hgr : w.heap.size ≠ g := by omega
  have hCr := Lib.hid (Cells4.new w 25 (.int .i64 0) (.int .i64 0) (.int .i64 0) (.int .i64 0))
  have hU0 := Lib.hid ((Upd.refl g w).alloc (.cells #[.int .i64 0, .int .i64 0, .int .i64 0, .int .i64 0] 25))
  go_enter Tryd.func19, Tryd.ntmps19
  go_wp2_with fail
  refine (pick_any B g p 24 _ (rd_alloc hR _) (by omega) (by omega) (by omega)).mono ?_
  rintro e w1 ⟨vh, h0, h1, rfl, hR1, hu1⟩
  go_wp2_with fail
  refine (pick_any B g _ 60 _ hR1 (by omega) (by omega) (by omega)).mono ?_
  rintro e w2 ⟨vm, m0, m1, rfl, hR2, hu2⟩
  go_wp2_with fail
  refine (pick_any B g _ 60 _ hR2 (by omega) (by omega) (by omega)).mono ?_
  rintro e w3 ⟨vs, s0, s1, rfl, hR3, hu3⟩
  go_wp2_with fail
  refine (pick_any B g _ 10 _ hR3 (by omega) (by omega) (by omega)).mono ?_
  rintro e w4 ⟨a4, x0, x1, rfl, hR4, hu4⟩
  go_wp2_with fail
  refine (pick_any B g _ 100 _ hR4 (by omega) (by omega) (by omega)).mono ?_
  rintro e w5 ⟨a5, y0, y1, rfl, hR5, hu5⟩
  go_wp2_with fail
  refine (pick_any B g _ 250 _ hR5 (by omega) (by omega) (by omega)).mono ?_
  rintro e w6 ⟨a6, z0, z1, rfl, hR6, hu6⟩
  go_wp2_with fail
  refine (pick_any B g _ 250 _ hR6 (by omega) (by omega) (by omega)).mono ?_
  rintro e w7 ⟨a7, u0, u1, rfl, hR7, hu7⟩
  have hu17 := Lib.hid (((((((hU0.out.trans hu1).trans hu2).trans hu3).trans hu4).trans hu5).trans hu6).trans hu7)
  have hC7 := Lib.hid (hCr.out.upd ((((((hu1.trans hu2).trans hu3).trans hu4).trans hu5).trans hu6).trans hu7) hgr)
  have hs7 := hC7.out.lt
  have hg7 := rd_lt hR7
  clear hR1 hR2 hR3 hR4 hR5 hR6 hu1 hu2 hu3 hu4 hu5 hu6 hu7 hCr hU0 hR
  have HI := Lib.hid (intRow_alloc w7 [0, 0, 100 * a4, 10 * a5, a6 * 4 % 1000, 1 + a7] 3 0 999 (by
    intro v hv
    simp at hv
    omega))
  have hpr0 : 0 ≤ a6 * 4 % 1000 := Int.emod_nonneg _ (by omega)
  have hpr1 : a6 * 4 % 1000 < 1000 := Int.emod_lt_of_pos _ (by omega)
  go_wp2_with fail
  refine (pick_any B g _ 6 _ (rd_alloc hR7 _) (by omega) (by omega) (by omega)).mono ?_
  rintro e w8 ⟨i8, j0, j1, rfl, hR8, hu8⟩
  obtain ⟨i, rfl⟩ := Int.eq_ofNat_of_zero_le j0
  obtain ⟨vl, l0, l1, hc⟩ := HI.out.upd hu8 (by omega) i (by show i < 6; omega)
  have hu18 := Lib.hid ((hu17.out.alloc _).trans hu8)
  have hC8 := Lib.hid ((hC7.out.alloc _).upd hu8 hgr)
  have hs8 := hC8.out.lt
  have hg8 := rd_lt hR8
  have hb8 := hu8.size
  clear hR7 hu8 hu17 hC7 HI hpr0 hpr1
  have H : LC B g (p + 1 + 1 + 1 + 1 + 1 + 1 + 1 + 1) w.heap.size w8.heap.size vh vm vs vl w (w8.alloc (.cells #[.int .i64 vh, .int .i64 vm, .int .i64 vs, .int .i64 vl] 25)) :=
    { rd := rd_alloc hR8 _, upd := hu18.out.alloc _, rg := hgr, bg := by omega, rb := by omega, lr := Nat.le_refl _, lb := by omega, cb := Cells4.new w8 25 _ _ _ _, cr := hC8.out.alloc _ }
  clear hR8 hu18 hC8 hb8 x0 x1 y0 y1 z0 z1 u0 u1
  go_wp2_with fail
  clear hc hs7 hs8 hg7 hg8
  refine (pick_any B g _ 20 _ H.rd (by omega) (by omega) (by omega)).mono ?_
  rintro e w9 ⟨k, k0, k1, rfl, hR9, hu9⟩
  replace H := H.step hu9 hR9
  clear hR9 hu9
  generalize w8.heap.size = bb at *
  by_cases g0 : k = 0
  · have q0 := dt_ g0
    clear g0 k0 k1
    have hF := H.fin hB (.int .i64 24) (.int .i64 0) (.int .i64 0) (.int .i64 0)
    obtain ⟨⟨c0, c1, c2, c3⟩, f0, f1, f2, f3⟩ := H.cb
    obtain ⟨⟨r0, r1, r2, r3⟩, t0, t1, t2, t3⟩ := H.cr
    have rb := H.rb
    have rb' := H.rb.symm
    clear H
    have HF := Lib.hid hF
    clear hF
    go_wp2
    refine bodyPost_ret (v := .agg #[.int .i64 24, .int .i64 0, .int .i64 0, .int .i64 0]) (by simp [results, Tryd.results19, go_sem, r0, r1, r2, r3]) rfl ⟨24, 0, 0, 0, by omega, by omega, by omega, by omega, by omega, by omega, by omega, by omega, rfl, ⟨_, by omega, HF.out.1⟩, HF.out.2⟩
  · have q0 := df_ g0
    by_cases g1 : k = 1
    · have q1 := dt_ g1
      clear g0 g1 k0 k1
      go_wp2_with fail
      refine (pick_any B g _ 2 _ H.rd (by omega) (by omega) (by omega)).mono ?_
      rintro e wa ⟨x, x0, x1, rfl, hRa, hua⟩
      replace H := H.step hua hRa
      clear hRa hua
      have H' := H.s0 hB (24 + x)
      obtain ⟨⟨c0, c1, c2, c3⟩, f0, f1, f2, f3⟩ := H.cb
      obtain ⟨⟨r0, r1, r2, r3⟩, t0, t1, t2, t3⟩ := H.cr
      have rb := H.rb
      have rb' := H.rb.symm
      go_wp2_with fail
      clear c0 c1 c2 c3 f0 f1 f2 f3 r0 r1 r2 r3 t0 t1 t2 t3 rb rb'
      clear H h0 h1
      have h0 : 0 ≤ 24 + x := by omega
      have h1 : 24 + x < 26 := by omega
      have H := H'
      clear H' x0 x1
      generalize 24 + x = vh at *
      have hF := H.fin hB (.int .i64 vh) (.int .i64 vm) (.int .i64 vs) (.int .i64 vl)
      obtain ⟨⟨c0, c1, c2, c3⟩, f0, f1, f2, f3⟩ := H.cb
      obtain ⟨⟨r0, r1, r2, r3⟩, t0, t1, t2, t3⟩ := H.cr
      have rb := H.rb
      have rb' := H.rb.symm
      clear H
      have HF := Lib.hid hF
      clear hF
      go_wp2
      refine bodyPost_ret (v := .agg #[.int .i64 vh, .int .i64 vm, .int .i64 vs, .int .i64 vl]) (by simp [results, Tryd.results19, go_sem, r0, r1, r2, r3]) rfl ⟨vh, vm, vs, vl, by omega, by omega, by omega, by omega, by omega, by omega, by omega, by omega, rfl, ⟨_, by omega, HF.out.1⟩, HF.out.2⟩
    · have q1 := df_ g1
      by_cases g2 : k = 2
      · have q2 := dt_ g2
        clear g0 g1 g2 k0 k1
        go_wp2_with fail
        refine (pick_any B g _ 2 _ H.rd (by omega) (by omega) (by omega)).mono ?_
        rintro e wa ⟨x, x0, x1, rfl, hRa, hua⟩
        replace H := H.step hua hRa
        clear hRa hua
        have H' := H.s2 hB (60 - x)
        obtain ⟨⟨c0, c1, c2, c3⟩, f0, f1, f2, f3⟩ := H.cb
        obtain ⟨⟨r0, r1, r2, r3⟩, t0, t1, t2, t3⟩ := H.cr
        have rb := H.rb
        have rb' := H.rb.symm
        go_wp2_with fail
        clear c0 c1 c2 c3 f0 f1 f2 f3 r0 r1 r2 r3 t0 t1 t2 t3 rb rb'
        clear H s0 s1
        have s0 : 0 ≤ 60 - x := by omega
        have s1 : 60 - x ≤ 60 := by omega
        have H := H'
        clear H' x0 x1
        generalize 60 - x = vs at *
        have hF := H.fin hB (.int .i64 vh) (.int .i64 vm) (.int .i64 vs) (.int .i64 vl)
        obtain ⟨⟨c0, c1, c2, c3⟩, f0, f1, f2, f3⟩ := H.cb
        obtain ⟨⟨r0, r1, r2, r3⟩, t0, t1, t2, t3⟩ := H.cr
        have rb := H.rb
        have rb' := H.rb.symm
        clear H
        have HF := Lib.hid hF
        clear hF
        go_wp2
        refine bodyPost_ret (v := .agg #[.int .i64 vh, .int .i64 vm, .int .i64 vs, .int .i64 vl]) (by simp [results, Tryd.results19, go_sem, r0, r1, r2, r3]) rfl ⟨vh, vm, vs, vl, by omega, by omega, by omega, by omega, by omega, by omega, by omega, by omega, rfl, ⟨_, by omega, HF.out.1⟩, HF.out.2⟩
      · have q2 := df_ g2
        by_cases g3 : k = 3
        · have q3 := dt_ g3
          clear g0 g1 g2 g3 k0 k1
          have hF := H.fin hB (.int .i64 0) (.int .i64 0) (.int .i64 0) (.int .i64 0)
          obtain ⟨⟨c0, c1, c2, c3⟩, f0, f1, f2, f3⟩ := H.cb
          obtain ⟨⟨r0, r1, r2, r3⟩, t0, t1, t2, t3⟩ := H.cr
          have rb := H.rb
          have rb' := H.rb.symm
          clear H
          have HF := Lib.hid hF
          clear hF
          go_wp2
          refine bodyPost_ret (v := .agg #[.int .i64 0, .int .i64 0, .int .i64 0, .int .i64 0]) (by simp [results, Tryd.results19, go_sem, r0, r1, r2, r3]) rfl ⟨0, 0, 0, 0, by omega, by omega, by omega, by omega, by omega, by omega, by omega, by omega, rfl, ⟨_, by omega, HF.out.1⟩, HF.out.2⟩
        · have q3 := df_ g3
          clear g0 g1 g2 g3 k0 k1
          have hF := H.fin hB (.int .i64 vh) (.int .i64 vm) (.int .i64 vs) (.int .i64 vl)
          obtain ⟨⟨c0, c1, c2, c3⟩, f0, f1, f2, f3⟩ := H.cb
          obtain ⟨⟨r0, r1, r2, r3⟩, t0, t1, t2, t3⟩ := H.cr
          have rb := H.rb
          have rb' := H.rb.symm
          clear H
          have HF := Lib.hid hF
          clear hF
          go_wp2
          refine bodyPost_ret (v := .agg #[.int .i64 vh, .int .i64 vm, .int .i64 vs, .int .i64 vl]) (by simp [results, Tryd.results19, go_sem, r0, r1, r2, r3]) rfl ⟨vh, vm, vs, vl, by omega, by omega, by omega, by omega, by omega, by omega, by omega, by omega, rfl, ⟨_, by omega, HF.out.1⟩, HF.out.2⟩
/-- A small time; what was there is as it was. -/
def ClkPost (w : World) (e : Ending) (w' : World) : Prop := ∃ h m s l : Int, -10 ≤ h ∧ h ≤ 100 ∧ -10 ≤ m ∧ m ≤ 100 ∧ -10 ≤ s ∧ s ≤ 100 ∧ -10 ≤ l ∧ l ≤ 1000 ∧ e = .returned (.agg #[.int .i64 h, .int .i64 m, .int .i64 s, .int .i64 l]) ∧ Below w.heap.size w w'
theorem cbytes_alloc {w : World} {a : Option Addr} {len : Nat} (h : Bytes w.heap.size w a len) (o : Obj) : Bytes (w.alloc o).heap.size (w.alloc o) a len := by
  rcases h with h | ⟨b, off, ha, hlt, hc⟩
  · exact .inl h
  · exact .inr ⟨b, off, ha, by simp; omega, fun i hi => by
      obtain ⟨v, h0, h1, h2⟩ := hc i hi
      exact ⟨v, h0, h1, (World.cell?_alloc_lt _ _ ⟨b, off + i, none⟩ hlt).trans h2⟩⟩
end Go.Proofs.YtkdhlgfpnkdbmaaDoor
