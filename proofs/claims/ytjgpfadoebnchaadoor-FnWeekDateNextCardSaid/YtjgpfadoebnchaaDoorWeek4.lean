/-
  Contracts: the date of a day of a week, by the reference. Conditions: as each states.
-/
import Derived.Test.YtjgpfadoebnchaaDoorWeek3
namespace Go.Proofs.YtjgpfadoebnchaaDoor
open Go.RowKit Go.PlainAid
set_option linter.unusedVariables false

theorem DateOf_s_wn_yes (y k d : Int) (w : World) (h0 : 0 ≤ Cal.wnum y k d) (h1 : Cal.wnum y k d ≤ 3652058) : Calls Tryd.prog 41 #[.int .i64 (Cal.fm y + 7 * k + d - 8)] w fun e w' => e = .returned (.tuple #[.agg #[.int .i64 (Cal.yo (Cal.wnum y k d)), .int .i64 (Cal.mo (Cal.wnum y k d)), .int .i64 (Cal.dd (Cal.wnum y k d))], .bool true]) ∧ Below w.heap.size w w' := by
  rw [show Cal.fm y + 7 * k + d - 8 = Cal.wnum y k d by unfold Cal.wnum; omega]
  exact DateOf_s_yes _ w h0 h1
theorem DateOf_s_wn_no (y k d : Int) (w : World) (h : 3652058 < Cal.wnum y k d) : Calls Tryd.prog 41 #[.int .i64 (Cal.fm y + 7 * k + d - 8)] w fun e w' => e = .returned (.tuple #[.agg #[.int .i64 0, .int .i64 0, .int .i64 0], .bool false]) ∧ Below w.heap.size w w' := by
  rw [show Cal.fm y + 7 * k + d - 8 = Cal.wnum y k d by unfold Cal.wnum; omega]
  exact DateOf_s_no _ w (.inr h)
set_option maxHeartbeats 1600000 in
theorem WeekDate_s_late (y k d : Int) (w : World) (h : Cal.WOk y k d) (hn : 3652058 < Cal.wnum y k d) : Calls Tryd.prog 21 #[.agg #[.int .i64 y, .int .i64 k, .int .i64 d]] w fun e w' => e = .returned (.tuple #[.agg #[.int .i64 0, .int .i64 0, .int .i64 0], .bool false]) ∧ Below w.heap.size w w' := by
  obtain ⟨h1, h2, k1, k2, d1, d2⟩ := id h
  have HO := Lib.hid h
  have HN := Lib.hid (hn)
  clear h hn
  go_enter Tryd.func21, Tryd.ntmps21
  go_wp2
  go_quiet ((first | (go_at_call 27; exact quiet_l (WeeksOf_s_yes y _ h1 h2)) | (go_at_call 39; first | (with_reducible exact quiet_l (l6In_yes _ _ _ _ k1 k2)) | exact quiet_l (l6In_yes _ _ _ _ d1 d2))))
  go_wp2_with (first | (go_at_call 39; refine (l6In_yes _ _ _ _ d1 d2).mono ?_; rintro e w' ⟨rfl, rfl⟩) | fail)
  have g1 : 1 ≤ y := h1
  have g2 : y ≤ 10000 := by omega
  have fb := Cal.fm_range h1 (by omega)
  have hk53 : k ≤ 53 := by have := Cal.wks_bd h1; omega
  have e1 : IntKind.i64.wrap (7 * k) = 7 * k := IntWalk.i64_in _ ⟨by omega, by omega⟩
  have e2 : IntKind.i64.wrap (Cal.fm y + 7 * k) = Cal.fm y + 7 * k := IntWalk.i64_in _ ⟨by omega, by omega⟩
  have e3 : IntKind.i64.wrap (Cal.fm y + 7 * k + d) = Cal.fm y + 7 * k + d := IntWalk.i64_in _ ⟨by omega, by omega⟩
  have e4 : IntKind.i64.wrap (Cal.fm y + 7 * k + d - 8) = Cal.fm y + 7 * k + d - 8 := IntWalk.i64_in _ ⟨by omega, by omega⟩
  obtain ⟨hA, hR, hB⟩ := two_boxes_new w nq (T := 29) (U := 25) (a := .int .i64 y) (b := .int .i64 k) (c := .int .i64 d) (a' := .int .i64 0) (b' := .int .i64 0) (c' := .int .i64 0)
  generalize (((w.alloc (.cells #[.int .i64 y, .int .i64 k, .int .i64 d] 29)).alloc (.cells #[.int .i64 0, .int .i64 0, .int .i64 0] 25)).drewN nq) = W at *
  obtain ⟨c0, c1, c2, -, -, -⟩ := hA
  have HS : Hid (W.cell? ⟨w.heap.size, 0, none⟩ = some (.int .i64 y) ∧ W.cell? ⟨w.heap.size, 1, none⟩ = some (.int .i64 k) ∧ W.cell? ⟨w.heap.size, 2, none⟩ = some (.int .i64 d) ∧ Below w.heap.size w W) := ⟨c0, c1, c2, hB⟩
  clear c0 c1 c2 hB
  go_region_held3 (fun w' => w'.cell? ⟨w.heap.size, 0, none⟩ = some (.int .i64 y) ∧ w'.cell? ⟨w.heap.size, 1, none⟩ = some (.int .i64 k) ∧ w'.cell? ⟨w.heap.size, 2, none⟩ = some (.int .i64 d) ∧ Below w.heap.size w w') (first | exact HS.out | exact keep3_drew HS.out | exact keep3 hb3 (keep3_drew HS.out) | exact keep3_set (keep3 hb3 (keep3_drew HS.out)) (Nat.succ_ne_self _) (Nat.le_succ _) _ _ _) (first | (go_at_call 38; refine (l3First_any y _ g1 g2).mono ?_; rintro e w1 ⟨rfl, rfl⟩) | (go_at_call 41; refine (DateOf_s_wn_no y k d _ HN.out).mono ?_; rintro e w3 ⟨rfl, hb3⟩; obtain ⟨r0, r1, r2, q0, q1, q2⟩ := hR.drew.below hb3))
  clear e1 e2 e3 e4
  go_wp2
  exact bodyPost_ret (v := .tuple #[.agg #[.int .i64 0, .int .i64 0, .int .i64 0], .bool false]) (by simp [results, Tryd.results21, go_sem, r0, r1, r2]) rfl ⟨rfl, (keep3_set (keep3 hb3 (keep3_drew HS.out)) (Nat.succ_ne_self _) (Nat.le_succ _) _ _ _).2.2.2⟩
set_option maxHeartbeats 1600000 in
theorem WeekDate_s_yes (y k d : Int) (w : World) (h : Cal.WOk y k d) (hn : Cal.wnum y k d ≤ 3652058) : Calls Tryd.prog 21 #[.agg #[.int .i64 y, .int .i64 k, .int .i64 d]] w fun e w' => e = .returned (.tuple #[.agg #[.int .i64 (Cal.yo (Cal.wnum y k d)), .int .i64 (Cal.mo (Cal.wnum y k d)), .int .i64 (Cal.dd (Cal.wnum y k d))], .bool true]) ∧ Below w.heap.size w w' := by
  obtain ⟨h1, h2, k1, k2, d1, d2⟩ := id h
  have HO := Lib.hid h
  have HN := Lib.hid (And.intro (Cal.wnum_bd h).2.2.1 hn)
  clear h hn
  go_enter Tryd.func21, Tryd.ntmps21
  go_wp2
  go_quiet ((first | (go_at_call 27; exact quiet_l (WeeksOf_s_yes y _ h1 h2)) | (go_at_call 39; first | (with_reducible exact quiet_l (l6In_yes _ _ _ _ k1 k2)) | exact quiet_l (l6In_yes _ _ _ _ d1 d2))))
  go_wp2_with (first | (go_at_call 39; refine (l6In_yes _ _ _ _ d1 d2).mono ?_; rintro e w' ⟨rfl, rfl⟩) | fail)
  have g1 : 1 ≤ y := h1
  have g2 : y ≤ 10000 := by omega
  have fb := Cal.fm_range h1 (by omega)
  have hk53 : k ≤ 53 := by have := Cal.wks_bd h1; omega
  have e1 : IntKind.i64.wrap (7 * k) = 7 * k := IntWalk.i64_in _ ⟨by omega, by omega⟩
  have e2 : IntKind.i64.wrap (Cal.fm y + 7 * k) = Cal.fm y + 7 * k := IntWalk.i64_in _ ⟨by omega, by omega⟩
  have e3 : IntKind.i64.wrap (Cal.fm y + 7 * k + d) = Cal.fm y + 7 * k + d := IntWalk.i64_in _ ⟨by omega, by omega⟩
  have e4 : IntKind.i64.wrap (Cal.fm y + 7 * k + d - 8) = Cal.fm y + 7 * k + d - 8 := IntWalk.i64_in _ ⟨by omega, by omega⟩
  obtain ⟨hA, hR, hB⟩ := two_boxes_new w nq (T := 29) (U := 25) (a := .int .i64 y) (b := .int .i64 k) (c := .int .i64 d) (a' := .int .i64 0) (b' := .int .i64 0) (c' := .int .i64 0)
  generalize (((w.alloc (.cells #[.int .i64 y, .int .i64 k, .int .i64 d] 29)).alloc (.cells #[.int .i64 0, .int .i64 0, .int .i64 0] 25)).drewN nq) = W at *
  obtain ⟨c0, c1, c2, -, -, -⟩ := hA
  have HS : Hid (W.cell? ⟨w.heap.size, 0, none⟩ = some (.int .i64 y) ∧ W.cell? ⟨w.heap.size, 1, none⟩ = some (.int .i64 k) ∧ W.cell? ⟨w.heap.size, 2, none⟩ = some (.int .i64 d) ∧ Below w.heap.size w W) := ⟨c0, c1, c2, hB⟩
  clear c0 c1 c2 hB
  go_region_held3 (fun w' => w'.cell? ⟨w.heap.size, 0, none⟩ = some (.int .i64 y) ∧ w'.cell? ⟨w.heap.size, 1, none⟩ = some (.int .i64 k) ∧ w'.cell? ⟨w.heap.size, 2, none⟩ = some (.int .i64 d) ∧ Below w.heap.size w w') (first | exact HS.out | exact keep3_drew HS.out | exact keep3 hb3 (keep3_drew HS.out) | exact keep3_set (keep3 hb3 (keep3_drew HS.out)) (Nat.succ_ne_self _) (Nat.le_succ _) _ _ _) (first | (go_at_call 38; refine (l3First_any y _ g1 g2).mono ?_; rintro e w1 ⟨rfl, rfl⟩) | (go_at_call 41; refine (DateOf_s_wn_yes y k d _ HN.out.1 HN.out.2).mono ?_; rintro e w3 ⟨rfl, hb3⟩; obtain ⟨r0, r1, r2, q0, q1, q2⟩ := hR.drew.below hb3))
  clear e1 e2 e3 e4
  go_wp2
  exact bodyPost_ret (v := .tuple #[.agg #[.int .i64 (Cal.yo (Cal.wnum y k d)), .int .i64 (Cal.mo (Cal.wnum y k d)), .int .i64 (Cal.dd (Cal.wnum y k d))], .bool true]) (by simp [results, Tryd.results21, go_sem, r0, r1, r2]) rfl ⟨rfl, (keep3_set (keep3 hb3 (keep3_drew HS.out)) (Nat.succ_ne_self _) (Nat.le_succ _) _ _ _).2.2.2⟩
end Go.Proofs.YtjgpfadoebnchaaDoor
