/-
  Contracts of the reader of a time: what a text reads as. Conditions: as each states.
-/
import Derived.Test.YtkdhlgfpnkdbmaaDoorClkR
import Derived.Test.YtkdhlgfpnkdbmaaDoorDrawClk
import Derived.Deep.RegionHeld3
namespace Go.Proofs.YtkdhlgfpnkdbmaaDoor
open Go.RowKit Go.PlainAid
set_option linter.unusedVariables false

/-- Three cells that lie there and may be written. -/
def C3 (w : World) (r : Nat) (a b c : Value) : Prop := (w.cell? ⟨r, 0, none⟩ = some a ∧ w.cell? ⟨r, 1, none⟩ = some b ∧ w.cell? ⟨r, 2, none⟩ = some c) ∧ (w.frozen? ⟨r, 0, none⟩ = false ∧ w.frozen? ⟨r, 1, none⟩ = false ∧ w.frozen? ⟨r, 2, none⟩ = false)
theorem C3.lt {w : World} {r : Nat} {a b c : Value} (h : C3 w r a b c) : r < w.heap.size := lt_of_cell h.1.1
theorem C3.upd {g : Nat} {w w' : World} {r : Nat} {a b c : Value} (h : C3 w r a b c) (hu : Upd g w w') (hn : r ≠ g) : C3 w' r a b c := by
  have hl := h.lt
  have hf : ∀ o, w'.frozen? ⟨r, o, none⟩ = w.frozen? ⟨r, o, none⟩ := fun o => World.frozen?_of_block (w := w) (w' := w') (a := ⟨r, o, none⟩) (hu.block r hl hn)
  obtain ⟨⟨h0, h1, h2⟩, h4, h5, h6⟩ := h
  exact ⟨⟨hu.cell hl hn h0, hu.cell hl hn h1, hu.cell hl hn h2⟩, (hf 0).trans h4, (hf 1).trans h5, (hf 2).trans h6⟩
theorem C3.set0 {w : World} {r : Nat} {x y z : Value} (h : C3 w r x y z) (v : Value) : C3 (w.setCell ⟨r, 0, none⟩ v) r v y z := by
  obtain ⟨⟨h0, h1, h2⟩, h4, h5, h6⟩ := h
  exact ⟨⟨World.cell?_setCell_same _ _ _ h0, by rw [World.cell?_setCell_other _ _ _ _ (by simp)]; exact h1, by rw [World.cell?_setCell_other _ _ _ _ (by simp)]; exact h2⟩, by rw [World.frozen?_setCell]; exact h4, by rw [World.frozen?_setCell]; exact h5, by rw [World.frozen?_setCell]; exact h6⟩
theorem C3.set1 {w : World} {r : Nat} {x y z : Value} (h : C3 w r x y z) (v : Value) : C3 (w.setCell ⟨r, 1, none⟩ v) r x v z := by
  obtain ⟨⟨h0, h1, h2⟩, h4, h5, h6⟩ := h
  exact ⟨⟨by rw [World.cell?_setCell_other _ _ _ _ (by simp)]; exact h0, World.cell?_setCell_same _ _ _ h1, by rw [World.cell?_setCell_other _ _ _ _ (by simp)]; exact h2⟩, by rw [World.frozen?_setCell]; exact h4, by rw [World.frozen?_setCell]; exact h5, by rw [World.frozen?_setCell]; exact h6⟩
theorem C3.set2 {w : World} {r : Nat} {x y z : Value} (h : C3 w r x y z) (v : Value) : C3 (w.setCell ⟨r, 2, none⟩ v) r x y v := by
  obtain ⟨⟨h0, h1, h2⟩, h4, h5, h6⟩ := h
  exact ⟨⟨by rw [World.cell?_setCell_other _ _ _ _ (by simp)]; exact h0, by rw [World.cell?_setCell_other _ _ _ _ (by simp)]; exact h1, World.cell?_setCell_same _ _ _ h2⟩, by rw [World.frozen?_setCell]; exact h4, by rw [World.frozen?_setCell]; exact h5, by rw [World.frozen?_setCell]; exact h6⟩
theorem C3.new (w : World) (T : TypeId) (a b c : Value) : C3 (w.alloc (.cells #[a, b, c] T)) w.heap.size a b c := ⟨⟨by simp, by simp, by simp⟩, by simp, by simp, by simp⟩
theorem rds_far {w : World} {g b o : Nat} {s : ByteArray} {a : Int} {v : Value} (h : RdS w g s a) (hn : b ≠ g) : RdS (w.setCell ⟨b, o, none⟩ v) g s a :=
  ⟨(cfar2 hn).trans h.1, (cfar2 hn).trans h.2.1, by rw [World.frozen?_setCell]; exact h.2.2⟩
/-- What the reading of a time holds: the reader in block g at place k, the result's cells in block r, the parts in block q. -/
structure RC (w : World) (g r q : Nat) (s : ByteArray) (p0 p1 p2 : Int) (k : Nat) (W : World) : Prop where
  rd : RdS W g s (k : Int)
  up : Upd g w W
  cr : Cells4 W r (.int .i64 0) (.int .i64 0) (.int .i64 0) (.int .i64 0)
  cp : C3 W q (.int .i64 p0) (.int .i64 p1) (.int .i64 p2)
  rg : r ≠ g
  qg : q ≠ g
  rq : r ≠ q
  lr : w.heap.size ≤ r
  lq : w.heap.size ≤ q
theorem RC.move {w W W' : World} {g r q : Nat} {s : ByteArray} {p0 p1 p2 : Int} {k k' : Nat} (h : RC w g r q s p0 p1 p2 k W) (hr : RdS W' g s (k' : Int)) (hu : Upd g W W') : RC w g r q s p0 p1 p2 k' W' :=
  { h with rd := hr, up := h.up.trans hu, cr := h.cr.upd hu h.rg, cp := h.cp.upd hu h.qg }
theorem RC.at {w W : World} {g r q : Nat} {s : ByteArray} {p0 p1 p2 : Int} {k : Nat} (h : RC w g r q s p0 p1 p2 k W) : ∃ P : Int, W.cell? ⟨g, 1, none⟩ = some (.int .i64 P) ∧ Upd g w W := ⟨_, h.rd.2.1, h.up⟩
theorem RC.alloc {w W : World} {g r q : Nat} {s : ByteArray} {p0 p1 p2 : Int} {k : Nat} (h : RC w g r q s p0 p1 p2 k W) (o : Obj) : RC w g r q s p0 p1 p2 k (W.alloc o) := h.move (h.rd.below ((Below.refl _ _).alloc (Nat.le_refl _) o)) ((Upd.refl _ _).alloc o)
theorem RC.below {w W W' : World} {g r q : Nat} {s : ByteArray} {p0 p1 p2 : Int} {k : Nat} (h : RC w g r q s p0 p1 p2 k W) (hb : Below W.heap.size W W') : RC w g r q s p0 p1 p2 k W' := h.move (h.rd.below hb) (Upd.of_below hb)
theorem bt_lt {s : ByteArray} {k : Nat} {c : Int} (h : bt s k = c) (hc : c ≠ 0) : k < s.size := by
  by_cases hk : k < s.size
  · exact hk
  · have := bt_end s (Nat.le_of_not_lt hk)
    omega
theorem RC.drewN {w W : World} {g r q : Nat} {s : ByteArray} {p0 p1 p2 : Int} {k : Nat} (h : RC w g r q s p0 p1 p2 k W) (n : Nat) : RC w g r q s p0 p1 p2 k (W.drewN n) := h.move (h.rd.drewN n) ((Upd.refl _ _).drewN n)
theorem RC.set0 {w W : World} {g r q : Nat} {s : ByteArray} {p0 p1 p2 : Int} {k : Nat} (h : RC w g r q s p0 p1 p2 k W) (v : Int) : RC w g r q s v p1 p2 k (W.setCell ⟨q, 0, none⟩ (.int .i64 v)) :=
  { h with rd := rds_far h.rd h.qg, up := cupd_new h.up h.lq, cr := h.cr.far h.rq.symm, cp := h.cp.set0 _ }
theorem RC.set1 {w W : World} {g r q : Nat} {s : ByteArray} {p0 p1 p2 : Int} {k : Nat} (h : RC w g r q s p0 p1 p2 k W) (v : Int) : RC w g r q s p0 v p2 k (W.setCell ⟨q, 1, none⟩ (.int .i64 v)) :=
  { h with rd := rds_far h.rd h.qg, up := cupd_new h.up h.lq, cr := h.cr.far h.rq.symm, cp := h.cp.set1 _ }
theorem RC.set2 {w W : World} {g r q : Nat} {s : ByteArray} {p0 p1 p2 : Int} {k : Nat} (h : RC w g r q s p0 p1 p2 k W) (v : Int) : RC w g r q s p0 p1 v k (W.setCell ⟨q, 2, none⟩ (.int .i64 v)) :=
  { h with rd := rds_far h.rd h.qg, up := cupd_new h.up h.lq, cr := h.cr.far h.rq.symm, cp := h.cp.set2 _ }
theorem RC.start {w : World} {g : Nat} {s : ByteArray} (T U : TypeId) (h : RdS w g s 0) : RC w g w.heap.size (w.heap.size + 1) s 0 0 0 0 ((w.alloc (.cells #[.int .i64 0, .int .i64 0, .int .i64 0, .int .i64 0] T)).alloc (.cells #[.int .i64 0, .int .i64 0, .int .i64 0] U)) := by
  have hl := h.lt
  have hb : Below w.heap.size w ((w.alloc (.cells #[.int .i64 0, .int .i64 0, .int .i64 0, .int .i64 0] T)).alloc (.cells #[.int .i64 0, .int .i64 0, .int .i64 0] U)) := ((Below.refl _ _).alloc (Nat.le_refl _) _).alloc (by simp) _
  have hp := C3.new (w.alloc (.cells #[.int .i64 0, .int .i64 0, .int .i64 0, .int .i64 0] T)) U (.int .i64 0) (.int .i64 0) (.int .i64 0)
  rw [show (w.alloc (.cells #[.int .i64 0, .int .i64 0, .int .i64 0, .int .i64 0] T)).heap.size = w.heap.size + 1 by simp] at hp
  exact ⟨h.below hb, Upd.of_below hb, (Cells4.new w T _ _ _ _).alloc _, hp, by omega, by omega, by omega, Nat.le_refl _, Nat.le_succ _⟩
/-- What a region that tells of no time reads: the reader's place. -/
theorem kf_drew {w W : World} {g : Nat} {v : Value} (h : W.cell? ⟨g, 1, none⟩ = some v ∧ Upd g w W) : W.drew.cell? ⟨g, 1, none⟩ = some v ∧ Upd g w W.drew := ⟨h.1, h.2.drew⟩
theorem kf_alloc {w W : World} {g : Nat} {v : Value} (o : Obj) (h : W.cell? ⟨g, 1, none⟩ = some v ∧ Upd g w W) : (W.alloc o).cell? ⟨g, 1, none⟩ = some v ∧ Upd g w (W.alloc o) :=
  ⟨(World.cell?_alloc_lt _ _ ⟨g, 1, none⟩ (lt_of_cell h.1)).trans h.1, h.2.alloc o⟩
theorem kf_set {w W : World} {g r : Nat} {v : Value} (hn : r ≠ g) (hr : w.heap.size ≤ r) (a b c d : Value) (h : W.cell? ⟨g, 1, none⟩ = some v ∧ Upd g w W) :
    ((((W.setCell ⟨r, 0, none⟩ a).setCell ⟨r, 1, none⟩ b).setCell ⟨r, 2, none⟩ c).setCell ⟨r, 3, none⟩ d).cell? ⟨g, 1, none⟩ = some v ∧ Upd g w ((((W.setCell ⟨r, 0, none⟩ a).setCell ⟨r, 1, none⟩ b).setCell ⟨r, 2, none⟩ c).setCell ⟨r, 3, none⟩ d) :=
  ⟨(cfar2 hn).trans ((cfar2 hn).trans ((cfar2 hn).trans ((cfar2 hn).trans h.1))), cupd_new (cupd_new (cupd_new (cupd_new h.2 hr) hr) hr) hr⟩
/-- What the reading of a time answers. -/
def ClkRes (w : World) (g : Nat) (s : ByteArray) (b : Bool) (e : Ending) (w' : World) : Prop :=
  Upd g w w' ∧ ((∃ h m c l : Nat, ClkRd s (gapN b) h m c l ∧ ClockOk h m c l ∧ e = .returned (.tuple #[.agg #[.int .i64 h, .int .i64 m, .int .i64 c, .int .i64 l], .nilIface])) ∨
    ((∀ h m c l : Nat, ClkRd s (gapN b) h m c l → ¬ ClockOk h m c l) ∧ ∃ n : Nat, e = .returned (.tuple #[.agg #[.int .i64 0, .int .i64 0, .int .i64 0, .int .i64 0], .iface 52 (.pointer (some ⟨n, 0, none⟩))])))
theorem Cells4.drew {w : World} {r : Nat} {a b c d : Value} (h : Cells4 w r a b c d) : Cells4 w.drew r a b c d := h
theorem Cells4.set1 {w : World} {r : Nat} {x y z u : Value} (h : Cells4 w r x y z u) (v : Value) : Cells4 (w.setCell ⟨r, 1, none⟩ v) r x v z u := by
  obtain ⟨⟨h0, h1, h2, h3⟩, h4, h5, h6, h7⟩ := h
  exact ⟨⟨by rw [World.cell?_setCell_other _ _ _ _ (by simp)]; exact h0, World.cell?_setCell_same _ _ _ h1, by rw [World.cell?_setCell_other _ _ _ _ (by simp)]; exact h2, by rw [World.cell?_setCell_other _ _ _ _ (by simp)]; exact h3⟩, by rw [World.frozen?_setCell]; exact h4, by rw [World.frozen?_setCell]; exact h5, by rw [World.frozen?_setCell]; exact h6, by rw [World.frozen?_setCell]; exact h7⟩
theorem Cells4.set3 {w : World} {r : Nat} {x y z u : Value} (h : Cells4 w r x y z u) (v : Value) : Cells4 (w.setCell ⟨r, 3, none⟩ v) r x y z v := by
  obtain ⟨⟨h0, h1, h2, h3⟩, h4, h5, h6, h7⟩ := h
  exact ⟨⟨by rw [World.cell?_setCell_other _ _ _ _ (by simp)]; exact h0, by rw [World.cell?_setCell_other _ _ _ _ (by simp)]; exact h1, by rw [World.cell?_setCell_other _ _ _ _ (by simp)]; exact h2, World.cell?_setCell_same _ _ _ h3⟩, by rw [World.frozen?_setCell]; exact h4, by rw [World.frozen?_setCell]; exact h5, by rw [World.frozen?_setCell]; exact h6, by rw [World.frozen?_setCell]; exact h7⟩
theorem Cells4.zero {w : World} {r : Nat} (h : Cells4 w r (.int .i64 0) (.int .i64 0) (.int .i64 0) (.int .i64 0)) : Cells4 ((((w.setCell ⟨r, 0, none⟩ (.int .i64 0)).setCell ⟨r, 1, none⟩ (.int .i64 0)).setCell ⟨r, 2, none⟩ (.int .i64 0)).setCell ⟨r, 3, none⟩ (.int .i64 0)) r (.int .i64 0) (.int .i64 0) (.int .i64 0) (.int .i64 0) := (((h.set0 _).set1 _).set2 _).set3 _
theorem Cells4.all {w : World} {r : Nat} {x y z u : Value} (a b c d : Value) (h : Cells4 w r x y z u) : Cells4 ((((w.setCell ⟨r, 0, none⟩ a).setCell ⟨r, 1, none⟩ b).setCell ⟨r, 2, none⟩ c).setCell ⟨r, 3, none⟩ d) r a b c d := (((h.set0 a).set1 b).set2 c).set3 d
theorem C3.far {w : World} {r b o : Nat} {x y z v : Value} (h : C3 w r x y z) (hn : b ≠ r) : C3 (w.setCell ⟨b, o, none⟩ v) r x y z := by
  obtain ⟨⟨h0, h1, h2⟩, h4, h5, h6⟩ := h
  exact ⟨⟨(cfar2 hn).trans h0, (cfar2 hn).trans h1, (cfar2 hn).trans h2⟩, by rw [World.frozen?_setCell]; exact h4, by rw [World.frozen?_setCell]; exact h5, by rw [World.frozen?_setCell]; exact h6⟩
theorem RC.cset {w W : World} {g r q cb o : Nat} {s : ByteArray} {p0 p1 p2 : Int} {k : Nat} {v : Value} (h : RC w g r q s p0 p1 p2 k W) (hg : cb ≠ g) (hr : cb ≠ r) (hq : cb ≠ q) (hl : w.heap.size ≤ cb) : RC w g r q s p0 p1 p2 k (W.setCell ⟨cb, o, none⟩ v) :=
  { h with rd := rds_far h.rd hg, up := cupd_new h.up hl, cr := h.cr.far hr, cp := h.cp.far hq }
/-- A number with so many zeros behind it. -/
def mj (n j : Nat) : Nat := n * 10 ^ j
theorem mj_succ (n j : Nat) : ((mj n j : Nat) : Int) * 10 = ((mj n (j + 1) : Nat) : Int) := by
  unfold mj
  rw [Nat.pow_succ]
  push_cast
  rw [Int.mul_assoc]
theorem mj_bd {n j : Nat} (hn : n < 1000) (hj : j ≤ 1) : mj n j ≤ 100000 := by
  unfold mj
  obtain rfl | rfl : j = 0 ∨ j = 1 := by omega
  all_goals simp; omega
theorem nofr_neg_true {s : ByteArray} {h m c l : Nat} (hx : ClkRd s (gapN true) h m c l) (D : bt s 8 ≠ 46) (E : 8 ≠ s.size) : ¬ ClockOk h m c l := by
  exfalso
  rcases hx.frac with ⟨z1, -⟩ | ⟨kk, z1, z2, z3, z4, z5, -⟩
  · simp [gapN] at z1
    omega
  · exact D z4
theorem nofr_in_true {s : ByteArray} {h m c l K : Nat} (hx : ClkRd s (gapN true) h m c l) (D : bt s 8 = 46) (hK : K = runN s 9) (hb : ¬ (1 ≤ K ∧ K ≤ 3)) : ¬ ClockOk h m c l := by
  exfalso
  have hlt := bt_lt D (by omega)
  have hle := runN_le s 9
  rcases hx.frac with ⟨z1, -⟩ | ⟨kk, z1, z2, z3, z4, z5, -⟩
  · simp [gapN] at z1
    omega
  · simp [gapN] at z3 z5
    omega
theorem nofr_pos_true {s : ByteArray} {h m c l K : Nat} (hx : ClkRd s (gapN true) h m c l) (D : bt s 8 = 46) (hK : K = runN s 9) (hs : K ≤ s.size - 9) (E : 9 + K ≠ s.size) : ¬ ClockOk h m c l := by
  exfalso
  have hlt := bt_lt D (by omega)
  rcases hx.frac with ⟨z1, -⟩ | ⟨kk, z1, z2, z3, z4, z5, -⟩
  · simp [gapN] at z1
    omega
  · simp [gapN] at z3 z5
    omega
theorem nofr_neg_false {s : ByteArray} {h m c l : Nat} (hx : ClkRd s (gapN false) h m c l) (D : bt s 6 ≠ 46) (E : 6 ≠ s.size) : ¬ ClockOk h m c l := by
  exfalso
  rcases hx.frac with ⟨z1, -⟩ | ⟨kk, z1, z2, z3, z4, z5, -⟩
  · simp [gapN] at z1
    omega
  · exact D z4
theorem nofr_in_false {s : ByteArray} {h m c l K : Nat} (hx : ClkRd s (gapN false) h m c l) (D : bt s 6 = 46) (hK : K = runN s 7) (hb : ¬ (1 ≤ K ∧ K ≤ 3)) : ¬ ClockOk h m c l := by
  exfalso
  have hlt := bt_lt D (by omega)
  have hle := runN_le s 7
  rcases hx.frac with ⟨z1, -⟩ | ⟨kk, z1, z2, z3, z4, z5, -⟩
  · simp [gapN] at z1
    omega
  · simp [gapN] at z3 z5
    omega
theorem nofr_pos_false {s : ByteArray} {h m c l K : Nat} (hx : ClkRd s (gapN false) h m c l) (D : bt s 6 = 46) (hK : K = runN s 7) (hs : K ≤ s.size - 7) (E : 7 + K ≠ s.size) : ¬ ClockOk h m c l := by
  exfalso
  have hlt := bt_lt D (by omega)
  rcases hx.frac with ⟨z1, -⟩ | ⟨kk, z1, z2, z3, z4, z5, -⟩
  · simp [gapN] at z1
    omega
  · simp [gapN] at z3 z5
    omega
/-- The post at the reader's end, kept shut: so the walk stops at it at once. -/
def ClkEnd (w : World) (g : Nat) (s : ByteArray) (b : Bool) : Exit → Act → World → Prop := bodyPost Tryd.prog Tryd.f22 (ClkRes w g s b)
theorem clk_shut {w : World} {g : Nat} {s : ByteArray} {b : Bool} (e : Exit) (a : Act) (W : World) (h : ClkEnd w g s b e a W) : bodyPost Tryd.prog Tryd.f22 (ClkRes w g s b) e a W := h
theorem clk_end (w : World) (g r : Nat) (s : ByteArray) (b : Bool) (h m c l : Int) (v : Value) (a : Act) (Wf : World) (hC : Cells4 Wf r (.int .i64 h) (.int .i64 m) (.int .i64 c) (.int .i64 l)) (hd : a.defers = [])
    (h4 : a.tmps[4]?.getD undef = .pointer (some ⟨r, 0, none⟩)) (h5 : a.tmps[5]?.getD undef = v) (hQ : ClkRes w g s b (.returned (.tuple #[.agg #[.int .i64 h, .int .i64 m, .int .i64 c, .int .i64 l], v])) Wf) :
    ClkEnd w g s b Exit.ret a Wf := by
  obtain ⟨⟨r0, r1, r2, r3⟩, -⟩ := hC
  unfold ClkEnd
  refine bodyPost_ret (v := .tuple #[.agg #[.int .i64 h, .int .i64 m, .int .i64 c, .int .i64 l], v]) ?_ hd hQ
  simp [results, Tryd.results22, go_sem, r0, r1, r2, r3, h4, h5]
end Go.Proofs.YtkdhlgfpnkdbmaaDoor
