/-
  Contracts of the draws of days: each returns something small and leaves what was there. Conditions: as each states.
-/
import Derived.Test.YtdpjhgkiccmnoaaDoorDrawDate
import Derived.Test.YtdpjhgkiccmnoaaDoorDay4
namespace Go.Proofs.YtdpjhgkiccmnoaaDoor
open Go.RowKit Go.PlainAid
set_option linter.unusedVariables false

/-- A new block's cells, behind what leaves all but block g. -/
theorem upd3_keep {g : Nat} {w w1 : World} {T : TypeId} {a b c : Value} (hu : Upd g (w.alloc (.cells #[a, b, c] T)) w1) (hg : g ≠ w.heap.size) :
    w1.cell? ⟨w.heap.size, 0, none⟩ = some a ∧ w1.cell? ⟨w.heap.size, 1, none⟩ = some b ∧ w1.cell? ⟨w.heap.size, 2, none⟩ = some c ∧
      w1.frozen? ⟨w.heap.size, 0, none⟩ = false ∧ w1.frozen? ⟨w.heap.size, 1, none⟩ = false ∧ w1.frozen? ⟨w.heap.size, 2, none⟩ = false :=
  ⟨hu.cell (by simp) hg.symm (by simp), hu.cell (by simp) hg.symm (by simp), hu.cell (by simp) hg.symm (by simp), (hu.frozen (by simp) hg.symm 0).trans (by simp), (hu.frozen (by simp) hg.symm 1).trans (by simp), (hu.frozen (by simp) hg.symm 2).trans (by simp)⟩
/-- Three cells that lie there and may be written. -/
def Cells3 (w : World) (r : Nat) (a b c : Value) : Prop := w.cell? ⟨r, 0, none⟩ = some a ∧ w.cell? ⟨r, 1, none⟩ = some b ∧ w.cell? ⟨r, 2, none⟩ = some c ∧ w.frozen? ⟨r, 0, none⟩ = false ∧ w.frozen? ⟨r, 1, none⟩ = false ∧ w.frozen? ⟨r, 2, none⟩ = false
theorem Cells3.lt {w : World} {r : Nat} {a b c : Value} (h : Cells3 w r a b c) : r < w.heap.size := lt_of_cell h.1
theorem Cells3.below {w w' : World} {r : Nat} {a b c : Value} (h : Cells3 w r a b c) (hb : Below w.heap.size w w') : Cells3 w' r a b c := by
  have hl := h.lt
  obtain ⟨h0, h1, h2, h3, h4, h5⟩ := h
  exact ⟨(hb.cell hl).trans h0, (hb.cell hl).trans h1, (hb.cell hl).trans h2, (hb.frozen hl).trans h3, (hb.frozen hl).trans h4, (hb.frozen hl).trans h5⟩
theorem Cells3.upd {g : Nat} {w w' : World} {r : Nat} {a b c : Value} (h : Cells3 w r a b c) (hu : Upd g w w') (hn : r ≠ g) : Cells3 w' r a b c := by
  have hl := h.lt
  obtain ⟨h0, h1, h2, h3, h4, h5⟩ := h
  exact ⟨hu.cell hl hn h0, hu.cell hl hn h1, hu.cell hl hn h2, (hu.frozen hl hn 0).trans h3, (hu.frozen hl hn 1).trans h4, (hu.frozen hl hn 2).trans h5⟩
theorem Cells3.alloc {w : World} {r : Nat} {a b c : Value} (h : Cells3 w r a b c) (o : Obj) : Cells3 (w.alloc o) r a b c := h.below ((Below.refl _ _).alloc (Nat.le_refl _) o)
theorem Cells3.new (w : World) (T : TypeId) (a b c : Value) : Cells3 (w.alloc (.cells #[a, b, c] T)) w.heap.size a b c := ⟨by simp, by simp, by simp, by simp, by simp, by simp⟩
/-- A date that there is; what lies below block B is as it was. -/
def GoodDraw (B : Nat) (w : World) (e : Ending) (w' : World) : Prop := ∃ y m d : Int, Cal.Ok y m d ∧ e = .returned (.agg #[.int .i64 y, .int .i64 m, .int .i64 d]) ∧ Below B w w'
theorem l91Good_any (B g p : Nat) (w : World) (hR : Rd B w g p) (hBg : B ≤ g) (hB : B ≤ w.heap.size) (hp : p ≤ 1000) : Calls Tryd.prog 43 #[.pointer (some ⟨g, 0, none⟩)] w (GoodDraw B w) := by
  have hg := rd_lt hR
  go_enter Tryd.func43, Tryd.ntmps43
  go_wp2_with fail
  refine (l91Date_any B g p _ (rd_alloc hR _) (by simp; omega) (by omega)).mono ?_
  rintro e w1 ⟨yy, mm, dd, -, -, -, -, -, -, rfl, -, hu1⟩
  have hC : Cells3 w1 w.heap.size (.int .i64 0) (.int .i64 0) (.int .i64 0) := (Cells3.new w 25 _ _ _).upd hu1 (by omega)
  have hb1 : Below B w w1 := ((Upd.refl g w).alloc _).trans hu1 |>.below hBg hB
  have hC2 := hC.alloc (.cells #[.int .i64 yy, .int .i64 mm, .int .i64 dd] 25)
  have hlt := hC.lt
  clear hR hu1 hC
  have HC := Lib.hid hC2
  have HB := Lib.hid hb1
  clear hC2 hb1
  go_wp2_with fail
  by_cases hok : Cal.Ok yy mm dd
  · have HO := Lib.hid hok
    clear hok
    refine (DateValid_s_yes _ _ _ _ HO.out).mono ?_
    rintro e w2 ⟨rfl, hb2⟩
    obtain ⟨d0, d1, d2⟩ := agg3_keep hb2
    obtain ⟨r0, r1, r2, t0, t1, t2⟩ := HC.out.below hb2
    have HB2 := Lib.hid (HB.out.trans ((below_alloc hb2).mono (Nat.le_trans hB (by omega))))
    clear hb2 HB
    go_wp2
    exact bodyPost_ret (v := .agg #[.int .i64 yy, .int .i64 mm, .int .i64 dd]) (by simp [results, Tryd.results43, go_sem, r0, r1, r2]) rfl ⟨yy, mm, dd, HO.out, rfl, ((HB2.out.setCell (by exact hB) _).setCell (by exact hB) _).setCell (by exact hB) _⟩
  · have HO := Lib.hid hok
    clear hok
    refine (DateValid_s_no _ _ _ _ HO.out).mono ?_
    rintro e w2 ⟨rfl, hb2⟩
    obtain ⟨r0, r1, r2, t0, t1, t2⟩ := HC.out.below hb2
    have HB2 := Lib.hid (HB.out.trans ((below_alloc hb2).mono (Nat.le_trans hB (by omega))))
    clear hb2 HB
    go_wp2
    exact bodyPost_ret (v := .agg #[.int .i64 2000, .int .i64 2, .int .i64 29]) (by simp [results, Tryd.results43, go_sem, r0, r1, r2]) rfl ⟨2000, 2, 29, ⟨by decide, by decide, by decide, by decide, by decide, by decide⟩, rfl, ((HB2.out.setCell (by exact hB) _).setCell (by exact hB) _).setCell (by exact hB) _⟩
/-- A small date; what was there is as it was. -/
def DatePost (w : World) (e : Ending) (w' : World) : Prop := ∃ y m d : Int, -10 ≤ y ∧ y ≤ 10000 ∧ -10 ≤ m ∧ m ≤ 100 ∧ -10 ≤ d ∧ d ≤ 100 ∧ e = .returned (.agg #[.int .i64 y, .int .i64 m, .int .i64 d]) ∧ Below w.heap.size w w'
theorem bytes_alloc {w : World} {a : Option Addr} {len : Nat} (h : Bytes w.heap.size w a len) (o : Obj) : Bytes (w.alloc o).heap.size (w.alloc o) a len := by
  rcases h with h | ⟨b, off, ha, hlt, hc⟩
  · exact .inl h
  · exact .inr ⟨b, off, ha, by simp; omega, fun i hi => by
      obtain ⟨v, h0, h1, h2⟩ := hc i hi
      exact ⟨v, h0, h1, (World.cell?_alloc_lt _ _ ⟨b, off + i, none⟩ hlt).trans h2⟩⟩
theorem DrawDayNumber_any (a : Option Addr) (len cap : Nat) (w : World) (hl : len ≤ cap) (hm : cap ≤ maxLen) (h : Bytes w.heap.size w a len) : Calls Tryd.prog 22 #[.slice a len cap] w (DatePost w) := by
  go_enter Tryd.func22, Tryd.ntmps22
  go_wp2_with fail
  refine (l6Open_any a len cap _ hl hm (bytes_alloc h _)).mono ?_
  rintro e w1 ⟨rfl, hR1, hb1⟩
  have hB0 := below_alloc hb1
  have hC := (Cells3.new w 25 (.int .i64 0) (.int .i64 0) (.int .i64 0)).below hb1
  have hs1 := hb1.size
  have hsz : (w.alloc (.cells #[.int .i64 0, .int .i64 0, .int .i64 0] 25)).heap.size = w.heap.size + 1 := by simp
  rw [hsz] at hR1 hs1
  rw [hsz]
  clear hb1 hsz h
  go_wp2_with fail
  refine (l91Date_any (w.heap.size + 1) (w.heap.size + 1) 0 w1 hR1 hs1 (by omega)).mono ?_
  rintro e w2 ⟨yy, mm, dd, y0, y1, m0, m1, q0, q1, rfl, -, hu2⟩
  obtain ⟨r0, r1, r2, t0, t1, t2⟩ := hC.upd hu2 (by omega)
  have HB := Lib.hid (hB0.trans (hu2.below (by omega) (by omega)))
  clear hR1 hu2 hC hs1 hB0
  go_wp2
  refine bodyPost_ret (v := .agg #[.int .i64 yy, .int .i64 mm, .int .i64 dd]) (by simp [results, Tryd.results22, go_sem, r0, r1, r2]) rfl ?_
  clear r0 r1 r2 t0 t1 t2
  refine ⟨yy, mm, dd, y0, y1, m0, m1, q0, q1, rfl, ?_⟩
  exact set3 HB.out _ _ _
theorem DrawOrdinalOf_any (a : Option Addr) (len cap : Nat) (w : World) (hl : len ≤ cap) (hm : cap ≤ maxLen) (h : Bytes w.heap.size w a len) : Calls Tryd.prog 30 #[.slice a len cap] w (DatePost w) := by
  go_enter Tryd.func30, Tryd.ntmps30
  go_wp2_with fail
  refine (l6Open_any a len cap _ hl hm (bytes_alloc h _)).mono ?_
  rintro e w1 ⟨rfl, hR1, hb1⟩
  have hB0 := below_alloc hb1
  have hC := (Cells3.new w 25 (.int .i64 0) (.int .i64 0) (.int .i64 0)).below hb1
  have hs1 := hb1.size
  have hsz : (w.alloc (.cells #[.int .i64 0, .int .i64 0, .int .i64 0] 25)).heap.size = w.heap.size + 1 := by simp
  rw [hsz] at hR1 hs1
  rw [hsz]
  clear hb1 hsz h
  go_wp2_with fail
  refine (l91Date_any (w.heap.size + 1) (w.heap.size + 1) 0 w1 hR1 hs1 (by omega)).mono ?_
  rintro e w2 ⟨yy, mm, dd, y0, y1, m0, m1, q0, q1, rfl, -, hu2⟩
  obtain ⟨r0, r1, r2, t0, t1, t2⟩ := hC.upd hu2 (by omega)
  have HB := Lib.hid (hB0.trans (hu2.below (by omega) (by omega)))
  clear hR1 hu2 hC hs1 hB0
  go_wp2
  refine bodyPost_ret (v := .agg #[.int .i64 yy, .int .i64 mm, .int .i64 dd]) (by simp [results, Tryd.results30, go_sem, r0, r1, r2]) rfl ?_
  clear r0 r1 r2 t0 t1 t2
  refine ⟨yy, mm, dd, y0, y1, m0, m1, q0, q1, rfl, ?_⟩
  exact set3 HB.out _ _ _
theorem DrawDateOf_any (a : Option Addr) (len cap : Nat) (w : World) (hl : len ≤ cap) (hm : cap ≤ maxLen) (h : Bytes w.heap.size w a len) : Calls Tryd.prog 23 #[.slice a len cap] w (OnePost w) := by
  go_enter Tryd.func23, Tryd.ntmps23
  go_wp2_with fail
  refine (l6Open_any a len cap w hl hm h).mono ?_
  rintro e w0 ⟨rfl, hR0, hb0⟩
  clear h
  go_wp2_with fail
  refine (pick_any _ _ _ _ _ hR0 (by omega) (by omega) (by omega)).mono ?_
  rintro e w1 ⟨k, hk0, hk1, rfl, hR1, hu1⟩
  have hb1 := hb0.trans (hu1.below (Nat.le_refl _) hb0.size)
  clear hR0 hb0 hu1
  by_cases h0 : k = 0
  · have q0 := dt_ h0
    clear h0 hk0 hk1
    have HI := Lib.hid (intRow_alloc w1 [-1, 0, 1, 3652057, 3652058, 3652059] 3 (-1) 3652059 (by decide))
    have hgw := rd_lt hR1
    go_wp2_with fail
    refine (pick_any w.heap.size w.heap.size _ _ _ (rd_alloc hR1 _) (by omega) (by omega) (by omega)).mono ?_
    rintro e w2 ⟨x, x0, x1, rfl, hR2, hu2⟩
    obtain ⟨i, rfl⟩ := Int.eq_ofNat_of_zero_le x0
    obtain ⟨v, hv0, hv1, hc⟩ := HI.out.upd hu2 (by omega) i (by show i < 6; omega)
    have hb2 := hb1.trans ((((Upd.refl w.heap.size w1).alloc _).trans hu2).below (Nat.le_refl _) hb1.size)
    clear hR1 hb1 hu2 hR2 HI
    go_wp2_with fail
    go_ret
    exact ⟨v, by omega, by omega, rfl, hb2⟩
  · have q0 := df_ h0
    clear h0 hk0 hk1
    go_wp2_with fail
    refine (l91Good_any w.heap.size w.heap.size _ _ hR1 (Nat.le_refl _) hb1.size (by omega)).mono ?_
    rintro e w2 ⟨y, m, d, hok, rfl, hb2⟩
    have HO := Lib.hid hok
    have hbd := Cal.num_bd hok
    have hb12 := hb1.trans hb2
    clear hok hR1 hb1 hb2
    go_wp2_with fail
    refine (DayNumber_s_yes _ _ _ _ HO.out).mono ?_
    rintro e w3 ⟨rfl, hb3⟩
    go_wp2_with fail
    go_ret
    exact ⟨Cal.num y m d, by omega, by omega, rfl, below2 hb12 hb3⟩
end Go.Proofs.YtdpjhgkiccmnoaaDoor
