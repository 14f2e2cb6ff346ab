/-
  Contracts: the week of a day, the week of a date, the date of a day of a week, by the program and by the reference. Conditions: as each states.
-/
import Derived.Test.YtjgpfadoebnchaaDoorWeek
import Derived.Test.YtjgpfadoebnchaaDoorDay4
import Derived.Test.YtjgpfadoebnchaaDoorDrawDate2
namespace Go.Proofs.YtjgpfadoebnchaaDoor
open Go.RowKit Go.PlainAid
set_option linter.unusedVariables false

theorem eqWeek_same (y m d : Int) (w : World) : Calls Tryd.prog 20 #[.agg #[.int .i64 y, .int .i64 m, .int .i64 d], .agg #[.int .i64 y, .int .i64 m, .int .i64 d]] w fun e w' => e = .returned (.bool true) ∧ Below w.heap.size w w' := by
  go_enter Tryd.func20, Tryd.ntmps20
  go_wp2
  go_ret
  exact ⟨rfl, by go_grown⟩
theorem toWeek_any (y m d : Int) (w : World) : Calls Tryd.prog 22 #[.agg #[.int .i64 y, .int .i64 m, .int .i64 d]] w fun e w' => e = .returned (.agg #[.int .i64 y, .int .i64 m, .int .i64 d]) ∧ Below w.heap.size w w' := by
  go_enter Tryd.func22, Tryd.ntmps22
  go_wp2
  refine bodyPost_ret (v := .agg #[.int .i64 y, .int .i64 m, .int .i64 d]) (by simp [results, Tryd.results22, go_sem]) rfl ⟨rfl, ?_⟩
  go_grown
theorem wnumber_any (y k d : Int) (w : World) (h : Cal.WOk y k d) : Calls Tryd.prog 43 #[.agg #[.int .i64 y, .int .i64 k, .int .i64 d]] w fun e w' => e = .returned (.int .i64 (Cal.wnum y k d)) ∧ Below w.heap.size w w' := by
  obtain ⟨h1, h2, h3, h4, h5, h6⟩ := h
  have fb := Cal.fm_range h1 (by omega)
  have hk : k ≤ 53 := by have := Cal.wks_bd h1; omega
  have HN := Lib.hid (show Cal.fm y + 7 * (k - 1) + d - 1 = Cal.wnum y k d from rfl)
  clear h4
  go_enter Tryd.func43, Tryd.ntmps43
  go_wp2
  go_quiet ((go_at_call 47; exact quiet_l (firstMonday_any y _ h1 (by omega))))
  go_wp2
  go_ret
  exact ⟨ret_int HN.out, below_drewN (by go_grown) _⟩
theorem field_year (a b c : Value) (w : World) : (Instr.field 25 (.agg #[a, b, c]) 0).run Tryd.prog w = .ok a w := by kernel_rfl
theorem dateAt_th (n : Int) (w : World) (hT : Tab w) (h0 : 0 ≤ n) (h1 : n ≤ 3652058) : Calls Tryd.prog 49 #[.int .i64 (n - Cal.wd n + 4)] w fun e w' => e = .returned (.agg #[.int .i64 (Cal.wy n), .int .i64 (Cal.mo (7 * (n / 7) + 3)), .int .i64 (Cal.dd (7 * (n / 7) + 3))]) ∧ Below w.heap.size w w' := by
  rw [Cal.th_eq]
  exact dateAt_any (7 * (n / 7) + 3) w hT (Cal.th_bd h0 h1).1 (Cal.th_bd h0 h1).2
set_option maxHeartbeats 800000 in
theorem weekAt_any (n : Int) (w : World) (hT : Tab w) (h0 : 0 ≤ n) (h1 : n ≤ 3652058) : Calls Tryd.prog 40 #[.int .i64 n] w fun e w' => e = .returned (.agg #[.int .i64 (Cal.wy n), .int .i64 (Cal.wk n), .int .i64 (Cal.wd n)]) ∧ Below w.heap.size w w' := by
  have HT := Lib.hid hT
  have wb := Cal.wd_bd n
  have yb := Cal.wy_bd h0 h1
  have nb := Cal.ny_bd yb.1 (by omega)
  have tb := Cal.wy_th h0 h1
  have te := Cal.th_eq n
  have HK := Lib.hid (show (n - Cal.wd n + 4 - Cal.ny (Cal.wy n)) / 7 + 1 = Cal.wk n from by rw [Cal.th_eq]; exact Cal.wk_th h0 h1)
  have e2 : 0 ≤ n - Cal.wd n + 4 - Cal.ny (Cal.wy n) := by omega
  have y1 := yb.1
  have y2 := yb.2.1
  clear hT te tb yb
  go_enter Tryd.func40, Tryd.ntmps40
  go_wp2_with (first | (go_at_call 36; refine (weekdayOf_any _ _ h0 (by omega)).mono ?_; rintro e w' ⟨rfl, rfl⟩) | fail)
  refine (dateAt_th n _ ((HT.out.alloc _).alloc _) h0 h1).mono ?_
  rintro e w2 ⟨rfl, hb2⟩
  have hC := (Cells3.new (w.alloc (.cells #[.int .i64 0, .int .i64 0, .int .i64 0] 29)) 29 (.int .i64 0) (.int .i64 0) (.int .i64 (Cal.wd n))).below hb2
  rw [show (w.alloc (.cells #[.int .i64 0, .int .i64 0, .int .i64 0] 29)).heap.size = w.heap.size + 1 by simp] at hC
  have hR := ((Cells3.new w 29 (.int .i64 0) (.int .i64 0) (.int .i64 0)).alloc (.cells #[.int .i64 0, .int .i64 0, .int .i64 (Cal.wd n)] 29)).below hb2
  have HB := Lib.hid (below_alloc (below_alloc hb2))
  obtain ⟨c0, c1, c2, f0, f1, f2⟩ := hC
  obtain ⟨r0, r1, r2, q0, q1, q2⟩ := hR
  clear hb2 HT
  have hfy := field_year
  go_wp2_with (first | (go_at_call 55; refine (newYear_any _ _ y1 (by omega)).mono ?_; rintro e w5 ⟨rfl, rfl⟩))
  refine bodyPost_ret (v := .agg #[.int .i64 (Cal.wy n), .int .i64 ((n - Cal.wd n + 4 - Cal.ny (Cal.wy n)) / 7 + 1), .int .i64 (Cal.wd n)]) (by simp [results, Tryd.results40, go_sem, r0, r1, r2]) rfl ⟨agg_ret rfl HK.out rfl, ?_⟩
  exact ((((HB.out.setCell (by show w.heap.size ≤ w.heap.size + 1; omega) _).setCell (by show w.heap.size ≤ w.heap.size + 1; omega) _).setCell (by exact Nat.le_refl _) _).setCell (by exact Nat.le_refl _) _).setCell (by exact Nat.le_refl _) _
end Go.Proofs.YtjgpfadoebnchaaDoor
