/-
  Contracts of the draws of dates: each returns something small and leaves what was there. Conditions: as each states.
-/
import Derived.Test.YtjgpfadoebnchaaDoorDrawYear
import Derived.Test.YtjgpfadoebnchaaDoorDay3
namespace Go.Proofs.YtjgpfadoebnchaaDoor
open Go.RowKit Go.PlainAid
set_option linter.unusedVariables false

/-- What the draw of a date holds: a reader in block g, the date in block b, its result's cells in block r. -/
structure LD (B g p r b : Nat) (y m d : Int) (w0 w : World) : Prop where
  rd : Rd B w g p
  upd : Upd g w0 w
  rg : r ≠ g
  bg : b ≠ g
  rb : r ≠ b
  lr : w0.heap.size ≤ r
  lb : w0.heap.size ≤ b
  sr : r < w.heap.size
  sb : b < w.heap.size
  c0 : w.cell? ⟨b, 0, none⟩ = some (.int .i64 y)
  c1 : w.cell? ⟨b, 1, none⟩ = some (.int .i64 m)
  c2 : w.cell? ⟨b, 2, none⟩ = some (.int .i64 d)
  f1 : w.frozen? ⟨b, 1, none⟩ = false
  f2 : w.frozen? ⟨b, 2, none⟩ = false
  r0 : w.cell? ⟨r, 0, none⟩ = some (.int .i64 0)
  r1 : w.cell? ⟨r, 1, none⟩ = some (.int .i64 0)
  r2 : w.cell? ⟨r, 2, none⟩ = some (.int .i64 0)
  q0 : w.frozen? ⟨r, 0, none⟩ = false
  q1 : w.frozen? ⟨r, 1, none⟩ = false
  q2 : w.frozen? ⟨r, 2, none⟩ = false
theorem LD.step {B g p p1 r b : Nat} {y m d : Int} {w0 w w1 : World} (h : LD B g p r b y m d w0 w) (hu : Upd g w w1) (hR : Rd B w1 g p1) : LD B g p1 r b y m d w0 w1 where
  rd := hR
  upd := h.upd.trans hu
  rg := h.rg
  bg := h.bg
  rb := h.rb
  lr := h.lr
  lb := h.lb
  sr := Nat.lt_of_lt_of_le h.sr hu.size
  sb := Nat.lt_of_lt_of_le h.sb hu.size
  c0 := hu.cell h.sb h.bg h.c0
  c1 := hu.cell h.sb h.bg h.c1
  c2 := hu.cell h.sb h.bg h.c2
  f1 := (hu.frozen h.sb h.bg 1).trans h.f1
  f2 := (hu.frozen h.sb h.bg 2).trans h.f2
  r0 := hu.cell h.sr h.rg h.r0
  r1 := hu.cell h.sr h.rg h.r1
  r2 := hu.cell h.sr h.rg h.r2
  q0 := (hu.frozen h.sr h.rg 0).trans h.q0
  q1 := (hu.frozen h.sr h.rg 1).trans h.q1
  q2 := (hu.frozen h.sr h.rg 2).trans h.q2
theorem LD.al {B g p r b : Nat} {y m d : Int} {w0 w : World} (h : LD B g p r b y m d w0 w) (o : Obj) : LD B g p r b y m d w0 (w.alloc o) :=
  h.step ((Upd.refl g w).alloc o) (rd_alloc h.rd o)
theorem rd_far {B g p b o : Nat} {w : World} {v : Value} (h : Rd B w g p) (hb : b ≠ g) (hB : B ≤ b) : Rd B (w.setCell ⟨b, o, none⟩ v) g p := by
  obtain ⟨h1, h2, h3, h4, a, len, cap, h5, h6, h7, h8⟩ := h
  have hne : ∀ j, (⟨b, o, none⟩ : Addr) ≠ ⟨g, j, none⟩ := fun j e => hb (congrArg Addr.block e)
  refine ⟨h1, by simpa [World.setCell] using h2, by rw [World.frozen?_setCell]; exact h3, by rw [World.cell?_setCell_other _ _ _ _ (hne 1)]; exact h4, a, len, cap, h5, h6, by rw [World.cell?_setCell_other _ _ _ _ (hne 0)]; exact h7, h8.below ((Below.refl B w).setCell (p := ⟨b, o, none⟩) hB _)⟩
theorem upd_new {g b o : Nat} {w0 w : World} {v : Value} (h : Upd g w0 w) (hb : w0.heap.size ≤ b) : Upd g w0 (w.setCell ⟨b, o, none⟩ v) :=
  ⟨h.os, h.tape, h.output, by simpa [World.setCell] using h.size, fun k hk hn => (Below.heap_setCell w ⟨b, o, none⟩ v k (by show k ≠ b; omega)).trans (h.block k hk hn)⟩
theorem far2 {w : World} {b r o j : Nat} {v : Value} (h : b ≠ r) : (w.setCell ⟨b, o, none⟩ v).cell? ⟨r, j, none⟩ = w.cell? ⟨r, j, none⟩ :=
  World.cell?_setCell_other _ _ _ _ (fun e => h (congrArg Addr.block e))
theorem LD.set (i : Nat) {B g p r b : Nat} {y m d : Int} {w0 w : World} (h : LD B g p r b y m d w0 w) (hB : B ≤ w0.heap.size) (v y' m' d' : Int)
    (k0 : (w.setCell ⟨b, i, none⟩ (.int .i64 v)).cell? ⟨b, 0, none⟩ = some (.int .i64 y')) (k1 : (w.setCell ⟨b, i, none⟩ (.int .i64 v)).cell? ⟨b, 1, none⟩ = some (.int .i64 m')) (k2 : (w.setCell ⟨b, i, none⟩ (.int .i64 v)).cell? ⟨b, 2, none⟩ = some (.int .i64 d')) :
    LD B g p r b y' m' d' w0 (w.setCell ⟨b, i, none⟩ (.int .i64 v)) where
  rd := rd_far h.rd h.bg (Nat.le_trans hB h.lb)
  upd := upd_new h.upd h.lb
  rg := h.rg
  bg := h.bg
  rb := h.rb
  lr := h.lr
  lb := h.lb
  sr := by simpa [World.setCell] using h.sr
  sb := by simpa [World.setCell] using h.sb
  c0 := k0
  c1 := k1
  c2 := k2
  f1 := by rw [World.frozen?_setCell]; exact h.f1
  f2 := by rw [World.frozen?_setCell]; exact h.f2
  r0 := (far2 h.rb.symm).trans h.r0
  r1 := (far2 h.rb.symm).trans h.r1
  r2 := (far2 h.rb.symm).trans h.r2
  q0 := by rw [World.frozen?_setCell]; exact h.q0
  q1 := by rw [World.frozen?_setCell]; exact h.q1
  q2 := by rw [World.frozen?_setCell]; exact h.q2
theorem LD.s1 {B g p r b : Nat} {y m d : Int} {w0 w : World} (h : LD B g p r b y m d w0 w) (hB : B ≤ w0.heap.size) (v : Int) : LD B g p r b y v d w0 (w.setCell ⟨b, 1, none⟩ (.int .i64 v)) :=
  h.set 1 hB v y v d (by rw [World.cell?_setCell_other _ _ _ _ (by simp)]; exact h.c0) (World.cell?_setCell_same _ _ _ h.c1) (by rw [World.cell?_setCell_other _ _ _ _ (by simp)]; exact h.c2)
theorem LD.s2 {B g p r b : Nat} {y m d : Int} {w0 w : World} (h : LD B g p r b y m d w0 w) (hB : B ≤ w0.heap.size) (v : Int) : LD B g p r b y m v w0 (w.setCell ⟨b, 2, none⟩ (.int .i64 v)) :=
  h.set 2 hB v y m v (by rw [World.cell?_setCell_other _ _ _ _ (by simp)]; exact h.c0) (by rw [World.cell?_setCell_other _ _ _ _ (by simp)]; exact h.c1) (World.cell?_setCell_same _ _ _ h.c2)
/-- A small date, and a reader some picks further. -/
def DateDraw (B g p q : Nat) (w : World) (e : Ending) (w' : World) : Prop := ∃ y m d : Int, -10 ≤ y ∧ y ≤ 10000 ∧ -10 ≤ m ∧ m ≤ 100 ∧ -10 ≤ d ∧ d ≤ 100 ∧ e = .returned (.agg #[.int .i64 y, .int .i64 m, .int .i64 d]) ∧ (∃ p', p' ≤ p + q ∧ Rd B w' g p') ∧ Upd g w w'
theorem LD.fin {B g p r b : Nat} {y m d : Int} {w0 w : World} (h : LD B g p r b y m d w0 w) (hB : B ≤ w0.heap.size) (a x c : Value) : Rd B (((w.setCell ⟨r, 0, none⟩ a).setCell ⟨r, 1, none⟩ x).setCell ⟨r, 2, none⟩ c) g p ∧ Upd g w0 (((w.setCell ⟨r, 0, none⟩ a).setCell ⟨r, 1, none⟩ x).setCell ⟨r, 2, none⟩ c) := by
  have hr := Nat.le_trans hB h.lr
  exact ⟨rd_far (rd_far (rd_far h.rd h.rg hr) h.rg hr) h.rg hr, upd_new (upd_new (upd_new h.upd h.lr) h.lr) h.lr⟩
set_option maxHeartbeats 4000000 in
theorem l91Date_any (B g p : Nat) (w : World) (hR : Rd B w g p) (hB : B ≤ w.heap.size) (hp : p ≤ 1000) : Calls Tryd.prog 48 #[.pointer (some ⟨g, 0, none⟩)] w (DateDraw B g p 12 w) := by
  have hg := rd_lt hR
  go_enter Tryd.func48, Tryd.ntmps48
  go_wp2_with fail
  refine (l91Year_any B g p _ (rd_alloc hR _) (by omega)).mono ?_
  rintro e w1 ⟨yy, hy0, hy1, rfl, ⟨p1, hp1, hR1⟩, hu1⟩
  have hv1 := ((Upd.refl g w).alloc (.cells #[.int .i64 0, .int .i64 0, .int .i64 0] 25)).trans hu1
  have hcr0 := hu1.cell (b := w.heap.size) (o := 0) (v := .int .i64 0) (by simp) (by omega) (by simp)
  have hcr1 := hu1.cell (b := w.heap.size) (o := 1) (v := .int .i64 0) (by simp) (by omega) (by simp)
  have hcr2 := hu1.cell (b := w.heap.size) (o := 2) (v := .int .i64 0) (by simp) (by omega) (by simp)
  have hfr : ∀ o, w1.frozen? ⟨w.heap.size, o, none⟩ = false := fun o => (hu1.frozen (b := w.heap.size) (by simp) (by omega) o).trans (by simp)
  clear hR hu1
  have HC := Lib.hid (And.intro hcr0 (And.intro hcr1 (And.intro hcr2 hfr)))
  clear hcr0 hcr1 hcr2 hfr
  go_wp2_with fail
  refine (pick_any B g _ _ _ hR1 (by omega) (by omega) (by omega)).mono ?_
  rintro e w2 ⟨k2, k20, k21, rfl, hR2, hu2⟩
  go_wp2_with fail
  refine (pick_any B g _ _ _ hR2 (by omega) (by omega) (by omega)).mono ?_
  rintro e w3 ⟨k3, k30, k31, rfl, hR3, hu3⟩
  have hu23 := hu2.trans hu3
  have hs1 := lt_of_cell HC.out.1
  have hs3 := hu23.size
  obtain ⟨hc0, hc1, hc2, hfr⟩ := HC.out
  have hx0 := hu23.cell hs1 (by omega) hc0
  have hx1 := hu23.cell hs1 (by omega) hc1
  have hx2 := hu23.cell hs1 (by omega) hc2
  have hxf : ∀ o, w3.frozen? ⟨w.heap.size, o, none⟩ = false := fun o => (hu23.frozen hs1 (by omega) o).trans (hfr o)
  have hg3 := rd_lt hR3
  have H : LD B g (p1 + 1 + 1) w.heap.size w3.heap.size yy (1 + k2) (1 + k3) w (w3.alloc (.cells #[.int .i64 yy, .int .i64 (1 + k2), .int .i64 (1 + k3)] 25)) :=
    { rd := rd_alloc hR3 _, upd := (hv1.trans hu23).alloc _, rg := by omega, bg := by omega, rb := by omega, lr := Nat.le_refl _, lb := by omega, sr := by simp; omega, sb := by simp, c0 := by simp, c1 := by simp, c2 := by simp, f1 := by simp, f2 := by simp,
      r0 := (World.cell?_alloc_lt _ _ ⟨w.heap.size, 0, none⟩ (by show w.heap.size < w3.heap.size; omega)).trans hx0, r1 := (World.cell?_alloc_lt _ _ ⟨w.heap.size, 1, none⟩ (by show w.heap.size < w3.heap.size; omega)).trans hx1, r2 := (World.cell?_alloc_lt _ _ ⟨w.heap.size, 2, none⟩ (by show w.heap.size < w3.heap.size; omega)).trans hx2,
      q0 := (World.frozen?_alloc_old _ _ _ (by show w.heap.size ≠ w3.heap.size; omega)).trans (hxf 0), q1 := (World.frozen?_alloc_old _ _ _ (by show w.heap.size ≠ w3.heap.size; omega)).trans (hxf 1), q2 := (World.frozen?_alloc_old _ _ _ (by show w.heap.size ≠ w3.heap.size; omega)).trans (hxf 2) }
  have hbw : w3.heap.size ≠ w.heap.size := by omega
  clear hc0 hc1 hc2 hfr hx0 hx1 hx2 hxf hu23 hu2 hu3 hR2 hR3 hR1 hv1 HC hs1 hs3
  go_wp2_with fail
  refine (pick_any B g _ _ _ H.rd (by omega) (by omega) (by omega)).mono ?_
  rintro e w4 ⟨k, k0, k1, rfl, hR4, hu4⟩
  replace H := H.step hu4 hR4
  clear hR4 hu4
  obtain ⟨mm, hmm⟩ : ∃ mm, mm = 1 + k2 := ⟨_, rfl⟩
  obtain ⟨dd, hdd⟩ : ∃ dd, dd = 1 + k3 := ⟨_, rfl⟩
  rw [← hmm, ← hdd] at H
  have hm0 : 1 ≤ mm := by omega
  have hm1 : mm ≤ 12 := by omega
  have hd0 : 1 ≤ dd := by omega
  have hd1 : dd ≤ 28 := by omega
  clear hmm hdd
  generalize w3.heap.size = bb at *
  by_cases h0 : k = 0
  · have q0 := dt_ h0
    clear h0 k0 k1
    go_wp2_with fail
    refine (pick_any B g _ _ _ H.rd (by omega) (by omega) (by omega)).mono ?_
    rintro e w5 ⟨x, x0, x1, rfl, hR5, hu5⟩
    replace H := H.step hu5 hR5
    clear hR5 hu5
    have H' := H.s2 hB (29 + x)
    have c0 := H.c0
    have c1 := H.c1
    have c2 := H.c2
    have f1 := H.f1
    have f2 := H.f2
    have r0 := H.r0
    have r1 := H.r1
    have r2 := H.r2
    have t0 := H.q0
    have t1 := H.q1
    have t2 := H.q2
    have rb := H.rb
    have rb' := H.rb.symm
    go_wp2_with fail
    clear c0 c1 c2 f1 f2 r0 r1 r2 t0 t1 t2 rb rb'
    clear H hd0 hd1
    have hd0 : 1 ≤ 29 + x := by omega
    have hd1 : 29 + x ≤ 31 := by omega
    have H := H'
    clear H' x0 x1
    generalize 29 + x = dd at *
    refine (pick_any B g _ _ _ H.rd (by omega) (by omega) (by omega)).mono ?_
    rintro e wa ⟨ka, ka0, ka1, rfl, hRa, hua⟩
    replace H := H.step hua hRa
    clear hRa hua
    by_cases hka : ka = 0
    · have qa := dt_ hka
      clear hka ka0 ka1
      have c0 := H.c0
      have c1 := H.c1
      have c2 := H.c2
      have f1 := H.f1
      have f2 := H.f2
      have r0 := H.r0
      have r1 := H.r1
      have r2 := H.r2
      have t0 := H.q0
      have t1 := H.q1
      have t2 := H.q2
      have rb := H.rb
      have rb' := H.rb.symm
      go_wp2_with fail
      refine (pick_any B g _ _ _ H.rd (by omega) (by omega) (by omega)).mono ?_
      rintro e wb ⟨kb, kb0, kb1, rfl, hRb, hub⟩
      replace H := H.step hub hRb
      clear c0 c1 c2 f1 f2 r0 r1 r2 t0 t1 t2 rb rb'
      clear hRb hub
      have H2 := H.s1 (Nat.le_of_lt_succ (by omega)) (kb - 1)
      have hF := H2.fin (Nat.le_of_lt_succ (by omega)) (.int .i64 yy) (.int .i64 (kb - 1)) (.int .i64 dd)
      have c0 := H.c0
      have c1 := H.c1
      have c2 := H.c2
      have f1 := H.f1
      have f2 := H.f2
      have r0 := H.r0
      have r1 := H.r1
      have r2 := H.r2
      have t0 := H.q0
      have t1 := H.q1
      have t2 := H.q2
      have rb := H.rb
      have rb' := H.rb.symm
      clear H H2
      have HF := Lib.hid hF
      clear hF
      go_wp2
      refine bodyPost_ret (v := .agg #[.int .i64 yy, .int .i64 (kb - 1), .int .i64 dd]) (by simp [results, Tryd.results48, go_sem, r0, r1, r2]) rfl ⟨yy, kb - 1, dd, by omega, by omega, by omega, by omega, by omega, by omega, rfl, ⟨_, by omega, HF.out.1⟩, HF.out.2⟩
    · have qa := df_ hka
      clear hka ka0 ka1
      have hF := H.fin (Nat.le_of_lt_succ (by omega)) (.int .i64 yy) (.int .i64 mm) (.int .i64 dd)
      have c0 := H.c0
      have c1 := H.c1
      have c2 := H.c2
      have f1 := H.f1
      have f2 := H.f2
      have r0 := H.r0
      have r1 := H.r1
      have r2 := H.r2
      have t0 := H.q0
      have t1 := H.q1
      have t2 := H.q2
      have rb := H.rb
      have rb' := H.rb.symm
      clear H
      have HF := Lib.hid hF
      clear hF
      go_wp2
      refine bodyPost_ret (v := .agg #[.int .i64 yy, .int .i64 mm, .int .i64 dd]) (by simp [results, Tryd.results48, go_sem, r0, r1, r2]) rfl ⟨yy, mm, dd, by omega, by omega, by omega, by omega, by omega, by omega, rfl, ⟨_, by omega, HF.out.1⟩, HF.out.2⟩
  · by_cases h1 : k = 1
    · have q0 := df_ h0
      have q1 := dt_ h1
      clear h0 h1 k0 k1
      have HI := Lib.hid (intRow_alloc w4 [1, 12] 3 1 12 (by decide))
      have hsb := H.sb
      have hgw := rd_lt H.rd
      go_wp2_with fail
      refine (pick_any B g _ _ _ (H.al _).rd (by omega) (by omega) (by omega)).mono ?_
      rintro e w5 ⟨x, x0, x1, rfl, hR5, hu5⟩
      obtain ⟨i, rfl⟩ := Int.eq_ofNat_of_zero_le x0
      obtain ⟨v, hv0, hv1, hc⟩ := HI.out.upd hu5 (by omega) i (by show i < 2; omega)
      have hz5 := hu5.size
      replace H := (H.al _).step hu5 hR5
      clear hR5 hu5 HI
      have H' := H.s1 hB v
      have HI2 := intRow_alloc (w5.setCell ⟨bb, 1, none⟩ (.int .i64 v)) [1, 2, 3, 28, 29, 30, 31] 3 1 31 (by decide)
      rw [show (w5.setCell ⟨bb, 1, none⟩ (.int .i64 v)).heap.size = w5.heap.size from by simp] at HI2
      replace HI2 := Lib.hid HI2
      have hgw5 := rd_lt H.rd
      have c0 := H.c0
      have c1 := H.c1
      have c2 := H.c2
      have f1 := H.f1
      have f2 := H.f2
      have r0 := H.r0
      have r1 := H.r1
      have r2 := H.r2
      have t0 := H.q0
      have t1 := H.q1
      have t2 := H.q2
      have rb := H.rb
      have rb' := H.rb.symm
      go_wp2_with fail
      clear c0 c1 c2 f1 f2 r0 r1 r2 t0 t1 t2 rb rb'
      clear H hc hz5
      refine (pick_any B g _ _ _ (H'.al _).rd (by omega) (by omega) (by omega)).mono ?_
      rintro e w6 ⟨x2, y0, y1, rfl, hR6, hu6⟩
      obtain ⟨j, rfl⟩ := Int.eq_ofNat_of_zero_le y0
      obtain ⟨v2, hu0, hu1, hc2⟩ := HI2.out.upd hu6 (by omega) j (by show j < 7; omega)
      have H := (H'.al _).step hu6 hR6
      clear hR6 hu6 HI2 H'
      have H' := H.s2 hB v2
      have c0 := H.c0
      have c1 := H.c1
      have c2 := H.c2
      have f1 := H.f1
      have f2 := H.f2
      have r0 := H.r0
      have r1 := H.r1
      have r2 := H.r2
      have t0 := H.q0
      have t1 := H.q1
      have t2 := H.q2
      have rb := H.rb
      have rb' := H.rb.symm
      go_wp2_with fail
      clear c0 c1 c2 f1 f2 r0 r1 r2 t0 t1 t2 rb rb'
      clear H hc2 hm0 hm1 hd0 hd1
      have H := H'
      clear H'
      generalize v = mm at *
      generalize v2 = dd at *
      refine (pick_any B g _ _ _ H.rd (by omega) (by omega) (by omega)).mono ?_
      rintro e wa ⟨ka, ka0, ka1, rfl, hRa, hua⟩
      replace H := H.step hua hRa
      clear hRa hua
      by_cases hka : ka = 0
      · have qa := dt_ hka
        clear hka ka0 ka1
        have c0 := H.c0
        have c1 := H.c1
        have c2 := H.c2
        have f1 := H.f1
        have f2 := H.f2
        have r0 := H.r0
        have r1 := H.r1
        have r2 := H.r2
        have t0 := H.q0
        have t1 := H.q1
        have t2 := H.q2
        have rb := H.rb
        have rb' := H.rb.symm
        go_wp2_with fail
        refine (pick_any B g _ _ _ H.rd (by omega) (by omega) (by omega)).mono ?_
        rintro e wb ⟨kb, kb0, kb1, rfl, hRb, hub⟩
        replace H := H.step hub hRb
        clear c0 c1 c2 f1 f2 r0 r1 r2 t0 t1 t2 rb rb'
        clear hRb hub
        have H2 := H.s1 (Nat.le_of_lt_succ (by omega)) (kb - 1)
        have hF := H2.fin (Nat.le_of_lt_succ (by omega)) (.int .i64 yy) (.int .i64 (kb - 1)) (.int .i64 dd)
        have c0 := H.c0
        have c1 := H.c1
        have c2 := H.c2
        have f1 := H.f1
        have f2 := H.f2
        have r0 := H.r0
        have r1 := H.r1
        have r2 := H.r2
        have t0 := H.q0
        have t1 := H.q1
        have t2 := H.q2
        have rb := H.rb
        have rb' := H.rb.symm
        clear H H2
        have HF := Lib.hid hF
        clear hF
        go_wp2
        refine bodyPost_ret (v := .agg #[.int .i64 yy, .int .i64 (kb - 1), .int .i64 dd]) (by simp [results, Tryd.results48, go_sem, r0, r1, r2]) rfl ⟨yy, kb - 1, dd, by omega, by omega, by omega, by omega, by omega, by omega, rfl, ⟨_, by omega, HF.out.1⟩, HF.out.2⟩
      · have qa := df_ hka
        clear hka ka0 ka1
        have hF := H.fin (Nat.le_of_lt_succ (by omega)) (.int .i64 yy) (.int .i64 mm) (.int .i64 dd)
        have c0 := H.c0
        have c1 := H.c1
        have c2 := H.c2
        have f1 := H.f1
        have f2 := H.f2
        have r0 := H.r0
        have r1 := H.r1
        have r2 := H.r2
        have t0 := H.q0
        have t1 := H.q1
        have t2 := H.q2
        have rb := H.rb
        have rb' := H.rb.symm
        clear H
        have HF := Lib.hid hF
        clear hF
        go_wp2
        refine bodyPost_ret (v := .agg #[.int .i64 yy, .int .i64 mm, .int .i64 dd]) (by simp [results, Tryd.results48, go_sem, r0, r1, r2]) rfl ⟨yy, mm, dd, by omega, by omega, by omega, by omega, by omega, by omega, rfl, ⟨_, by omega, HF.out.1⟩, HF.out.2⟩
    · by_cases h2 : k = 2
      · have q0 := df_ h0
        have q1 := df_ h1
        have q2 := dt_ h2
        clear h0 h1 h2 k0 k1
        have H' := H.s1 hB 2
        have c0 := H.c0
        have c1 := H.c1
        have c2 := H.c2
        have f1 := H.f1
        have f2 := H.f2
        have r0 := H.r0
        have r1 := H.r1
        have r2 := H.r2
        have t0 := H.q0
        have t1 := H.q1
        have t2 := H.q2
        have rb := H.rb
        have rb' := H.rb.symm
        go_wp2_with fail
        clear c0 c1 c2 f1 f2 r0 r1 r2 t0 t1 t2 rb rb'
        clear H
        refine (pick_any B g _ _ _ H'.rd (by omega) (by omega) (by omega)).mono ?_
        rintro e w5 ⟨x, x0, x1, rfl, hR5, hu5⟩
        have H := H'.step hu5 hR5
        clear hR5 hu5 H'
        have H' := H.s2 hB (28 + x)
        have c0 := H.c0
        have c1 := H.c1
        have c2 := H.c2
        have f1 := H.f1
        have f2 := H.f2
        have r0 := H.r0
        have r1 := H.r1
        have r2 := H.r2
        have t0 := H.q0
        have t1 := H.q1
        have t2 := H.q2
        have rb := H.rb
        have rb' := H.rb.symm
        go_wp2_with fail
        clear c0 c1 c2 f1 f2 r0 r1 r2 t0 t1 t2 rb rb'
        clear H hd0 hd1 hm0 hm1
        have hd0 : 1 ≤ 28 + x := by omega
        have hd1 : 28 + x ≤ 31 := by omega
        have H := H'
        clear H' x0 x1
        generalize 28 + x = dd at *
        obtain ⟨mm, hmm⟩ : ∃ mm : Int, mm = 2 := ⟨_, rfl⟩
        rw [← hmm] at H
        have hm0 : 1 ≤ mm := by omega
        have hm1 : mm ≤ 12 := by omega
        clear hmm
        refine (pick_any B g _ _ _ H.rd (by omega) (by omega) (by omega)).mono ?_
        rintro e wa ⟨ka, ka0, ka1, rfl, hRa, hua⟩
        replace H := H.step hua hRa
        clear hRa hua
        by_cases hka : ka = 0
        · have qa := dt_ hka
          clear hka ka0 ka1
          have c0 := H.c0
          have c1 := H.c1
          have c2 := H.c2
          have f1 := H.f1
          have f2 := H.f2
          have r0 := H.r0
          have r1 := H.r1
          have r2 := H.r2
          have t0 := H.q0
          have t1 := H.q1
          have t2 := H.q2
          have rb := H.rb
          have rb' := H.rb.symm
          go_wp2_with fail
          refine (pick_any B g _ _ _ H.rd (by omega) (by omega) (by omega)).mono ?_
          rintro e wb ⟨kb, kb0, kb1, rfl, hRb, hub⟩
          replace H := H.step hub hRb
          clear c0 c1 c2 f1 f2 r0 r1 r2 t0 t1 t2 rb rb'
          clear hRb hub
          have H2 := H.s1 (Nat.le_of_lt_succ (by omega)) (kb - 1)
          have hF := H2.fin (Nat.le_of_lt_succ (by omega)) (.int .i64 yy) (.int .i64 (kb - 1)) (.int .i64 dd)
          have c0 := H.c0
          have c1 := H.c1
          have c2 := H.c2
          have f1 := H.f1
          have f2 := H.f2
          have r0 := H.r0
          have r1 := H.r1
          have r2 := H.r2
          have t0 := H.q0
          have t1 := H.q1
          have t2 := H.q2
          have rb := H.rb
          have rb' := H.rb.symm
          clear H H2
          have HF := Lib.hid hF
          clear hF
          go_wp2
          refine bodyPost_ret (v := .agg #[.int .i64 yy, .int .i64 (kb - 1), .int .i64 dd]) (by simp [results, Tryd.results48, go_sem, r0, r1, r2]) rfl ⟨yy, kb - 1, dd, by omega, by omega, by omega, by omega, by omega, by omega, rfl, ⟨_, by omega, HF.out.1⟩, HF.out.2⟩
        · have qa := df_ hka
          clear hka ka0 ka1
          have hF := H.fin (Nat.le_of_lt_succ (by omega)) (.int .i64 yy) (.int .i64 mm) (.int .i64 dd)
          have c0 := H.c0
          have c1 := H.c1
          have c2 := H.c2
          have f1 := H.f1
          have f2 := H.f2
          have r0 := H.r0
          have r1 := H.r1
          have r2 := H.r2
          have t0 := H.q0
          have t1 := H.q1
          have t2 := H.q2
          have rb := H.rb
          have rb' := H.rb.symm
          clear H
          have HF := Lib.hid hF
          clear hF
          go_wp2
          refine bodyPost_ret (v := .agg #[.int .i64 yy, .int .i64 mm, .int .i64 dd]) (by simp [results, Tryd.results48, go_sem, r0, r1, r2]) rfl ⟨yy, mm, dd, by omega, by omega, by omega, by omega, by omega, by omega, rfl, ⟨_, by omega, HF.out.1⟩, HF.out.2⟩
      · have q0 := df_ h0
        have q1 := df_ h1
        have q2 := df_ h2
        clear h0 h1 h2 k0 k1
        go_wp2_with fail
        refine (pick_any B g _ _ _ H.rd (by omega) (by omega) (by omega)).mono ?_
        rintro e wa ⟨ka, ka0, ka1, rfl, hRa, hua⟩
        replace H := H.step hua hRa
        clear hRa hua
        by_cases hka : ka = 0
        · have qa := dt_ hka
          clear hka ka0 ka1
          have c0 := H.c0
          have c1 := H.c1
          have c2 := H.c2
          have f1 := H.f1
          have f2 := H.f2
          have r0 := H.r0
          have r1 := H.r1
          have r2 := H.r2
          have t0 := H.q0
          have t1 := H.q1
          have t2 := H.q2
          have rb := H.rb
          have rb' := H.rb.symm
          go_wp2_with fail
          refine (pick_any B g _ _ _ H.rd (by omega) (by omega) (by omega)).mono ?_
          rintro e wb ⟨kb, kb0, kb1, rfl, hRb, hub⟩
          replace H := H.step hub hRb
          clear c0 c1 c2 f1 f2 r0 r1 r2 t0 t1 t2 rb rb'
          clear hRb hub
          have H2 := H.s1 (Nat.le_of_lt_succ (by omega)) (kb - 1)
          have hF := H2.fin (Nat.le_of_lt_succ (by omega)) (.int .i64 yy) (.int .i64 (kb - 1)) (.int .i64 dd)
          have c0 := H.c0
          have c1 := H.c1
          have c2 := H.c2
          have f1 := H.f1
          have f2 := H.f2
          have r0 := H.r0
          have r1 := H.r1
          have r2 := H.r2
          have t0 := H.q0
          have t1 := H.q1
          have t2 := H.q2
          have rb := H.rb
          have rb' := H.rb.symm
          clear H H2
          have HF := Lib.hid hF
          clear hF
          go_wp2
          refine bodyPost_ret (v := .agg #[.int .i64 yy, .int .i64 (kb - 1), .int .i64 dd]) (by simp [results, Tryd.results48, go_sem, r0, r1, r2]) rfl ⟨yy, kb - 1, dd, by omega, by omega, by omega, by omega, by omega, by omega, rfl, ⟨_, by omega, HF.out.1⟩, HF.out.2⟩
        · have qa := df_ hka
          clear hka ka0 ka1
          have hF := H.fin (Nat.le_of_lt_succ (by omega)) (.int .i64 yy) (.int .i64 mm) (.int .i64 dd)
          have c0 := H.c0
          have c1 := H.c1
          have c2 := H.c2
          have f1 := H.f1
          have f2 := H.f2
          have r0 := H.r0
          have r1 := H.r1
          have r2 := H.r2
          have t0 := H.q0
          have t1 := H.q1
          have t2 := H.q2
          have rb := H.rb
          have rb' := H.rb.symm
          clear H
          have HF := Lib.hid hF
          clear hF
          go_wp2
          refine bodyPost_ret (v := .agg #[.int .i64 yy, .int .i64 mm, .int .i64 dd]) (by simp [results, Tryd.results48, go_sem, r0, r1, r2]) rfl ⟨yy, mm, dd, by omega, by omega, by omega, by omega, by omega, by omega, rfl, ⟨_, by omega, HF.out.1⟩, HF.out.2⟩
end Go.Proofs.YtjgpfadoebnchaaDoor
