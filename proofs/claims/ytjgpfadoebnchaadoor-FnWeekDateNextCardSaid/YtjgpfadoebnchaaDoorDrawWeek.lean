/-
  Contracts of the draws of years and days of weeks: each returns something small and leaves what was there. Conditions: as each states.
-/
import Derived.Test.YtjgpfadoebnchaaDoorDrawDate2
import Derived.Test.YtjgpfadoebnchaaDoorDrawWeekA
namespace Go.Proofs.YtjgpfadoebnchaaDoor
open Go.RowKit Go.PlainAid
set_option linter.unusedVariables false

theorem DrawWeekday_any (a : Option Addr) (len cap : Nat) (w : World) (hl : len ≤ cap) (hm : cap ≤ maxLen) (h : Bytes w.heap.size w a len) : Calls Tryd.prog 28 #[.slice a len cap] w (DatePost w) := by
  go_enter Tryd.func28, Tryd.ntmps28
  go_wp2_with fail
  refine (l6Open_any a len cap _ hl hm (bytes_alloc h _)).mono ?_
  rintro e w1 ⟨rfl, hR1, hb1⟩
  have hB0 := below_alloc hb1
  have hC := (Cells3.new w 25 (.int .i64 0) (.int .i64 0) (.int .i64 0)).below hb1
  have hs1 := hb1.size
  have hsz : (w.alloc (.cells #[.int .i64 0, .int .i64 0, .int .i64 0] 25)).heap.size = w.heap.size + 1 := by simp
  rw [hsz] at hR1 hs1
  rw [hsz]
  clear hb1 hsz h
  go_wp2_with fail
  refine (l91Date_any (w.heap.size + 1) (w.heap.size + 1) 0 w1 hR1 hs1 (by omega)).mono ?_
  rintro e w2 ⟨yy, mm, dd, y0, y1, m0, m1, q0, q1, rfl, -, hu2⟩
  obtain ⟨r0, r1, r2, t0, t1, t2⟩ := hC.upd hu2 (by omega)
  have HB := Lib.hid (hB0.trans (hu2.below (by omega) (by omega)))
  clear hR1 hu2 hC hs1 hB0
  go_wp2
  refine bodyPost_ret (v := .agg #[.int .i64 yy, .int .i64 mm, .int .i64 dd]) (by simp [results, Tryd.results28, go_sem, r0, r1, r2]) rfl ?_
  clear r0 r1 r2 t0 t1 t2
  refine ⟨yy, mm, dd, y0, y1, m0, m1, q0, q1, rfl, ?_⟩
  exact set3 HB.out _ _ _
theorem DrawWeekOf_any (a : Option Addr) (len cap : Nat) (w : World) (hl : len ≤ cap) (hm : cap ≤ maxLen) (h : Bytes w.heap.size w a len) : Calls Tryd.prog 31 #[.slice a len cap] w (DatePost w) := by
  go_enter Tryd.func31, Tryd.ntmps31
  go_wp2_with fail
  refine (l6Open_any a len cap _ hl hm (bytes_alloc h _)).mono ?_
  rintro e w1 ⟨rfl, hR1, hb1⟩
  have hB0 := below_alloc hb1
  have hC := (Cells3.new w 25 (.int .i64 0) (.int .i64 0) (.int .i64 0)).below hb1
  have hs1 := hb1.size
  have hsz : (w.alloc (.cells #[.int .i64 0, .int .i64 0, .int .i64 0] 25)).heap.size = w.heap.size + 1 := by simp
  rw [hsz] at hR1 hs1
  rw [hsz]
  clear hb1 hsz h
  go_wp2_with fail
  refine (l91Date_any (w.heap.size + 1) (w.heap.size + 1) 0 w1 hR1 hs1 (by omega)).mono ?_
  rintro e w2 ⟨yy, mm, dd, y0, y1, m0, m1, q0, q1, rfl, -, hu2⟩
  obtain ⟨r0, r1, r2, t0, t1, t2⟩ := hC.upd hu2 (by omega)
  have HB := Lib.hid (hB0.trans (hu2.below (by omega) (by omega)))
  clear hR1 hu2 hC hs1 hB0
  go_wp2
  refine bodyPost_ret (v := .agg #[.int .i64 yy, .int .i64 mm, .int .i64 dd]) (by simp [results, Tryd.results31, go_sem, r0, r1, r2]) rfl ?_
  clear r0 r1 r2 t0 t1 t2
  refine ⟨yy, mm, dd, y0, y1, m0, m1, q0, q1, rfl, ?_⟩
  exact set3 HB.out _ _ _
end Go.Proofs.YtjgpfadoebnchaaDoor
