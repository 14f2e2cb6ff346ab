/-
  Contracts: the day of the year, the number of a day, the date of a day. Conditions: as each states.
-/
import Derived.Test.YtjgpfadoebnchaaDoorDate3
import Derived.Deep.LoopGhost
import Derived.Deep.RegionWith
namespace Go.Proofs.YtjgpfadoebnchaaDoor
open Go.RowKit Go.PlainAid
set_option linter.unusedVariables false

theorem Tab.drew {w : World} (h : Tab w) : Tab w.drew := h
theorem Tab.upd {w w' : World} {g : Nat} (h : Tab w) (hu : Upd g w w') (hn : 0 ≠ g) : Tab w' := fun i hi => hu.cell h.lt hn (h i hi)
theorem agg_ret {y m d y' m' d' : Int} (h1 : y = y') (h2 : m = m') (h3 : d = d') : Ending.returned (.agg #[.int .i64 y, .int .i64 m, .int .i64 d]) = .returned (.agg #[.int .i64 y', .int .i64 m', .int .i64 d']) := by rw [h1, h2, h3]
theorem ordinal_any (y m d : Int) (w : World) (hT : Tab w) (h : Cal.Ok y m d) : Calls Tryd.prog 56 #[.agg #[.int .i64 y, .int .i64 m, .int .i64 d]] w fun e w' => e = .returned (.int .i64 (Cal.cum y m + d)) ∧ Below w.heap.size w w' := by
  obtain ⟨h1, h2, h3, h4, h5, h6⟩ := h
  have HT := Lib.hid (hT.alloc (.cells #[.int .i64 y, .int .i64 m, .int .i64 d] 25))
  have mb0 := Cal.md_bd y h3 h4
  have hd : d ≤ 31 := by omega
  clear hT h6 mb0
  go_enter Tryd.func56, Tryd.ntmps56
  go_wp2
  go_loop [3, 4] (fun n k => ∃ kk : Int, 1 ≤ kk ∧ kk ≤ m ∧ k = .int .i64 kk ∧ n = .int .i64 (Cal.cum y kk + d)) (fun _ k => (m - intOf k).toNat)
  case atStart => exact ⟨1, by omega, h3, rfl, by rw [Cal.cum_one]; simp⟩
  case round =>
    obtain ⟨kk, k1, k2, rfl, rfl⟩ := hrel
    have cb := Cal.cum_bd y k1 (by omega)
    by_cases hk : kk < m
    · have mb := Cal.md_bd y k1 (by omega)
      have HC := Lib.hid (Cal.cum_succ y k1 (by omega))
      have HM := Lib.hid (show MonOk y kk from ⟨h1, h2, k1, by omega⟩)
      go_wp2_with (first | (go_at_call 50; refine (MonthDays_i_yes y kk _ HT.out HM.out).mono ?_; rintro e w5 ⟨rfl, rfl⟩))
      go_round
      case rel => exact ⟨kk + 1, by omega, by omega, rfl, by rw [HC.out]; go_num⟩
      case measure => simp [intOf]; omega
    · obtain rfl : kk = m := by omega
      go_wp2
      go_ret
      exact ⟨rfl, by go_grown⟩
theorem number_any (y m d : Int) (w : World) (hT : Tab w) (h : Cal.Ok y m d) : Calls Tryd.prog 37 #[.agg #[.int .i64 y, .int .i64 m, .int .i64 d]] w fun e w' => e = .returned (.int .i64 (Cal.num y m d)) ∧ Below w.heap.size w w' := by
  have HT := Lib.hid (hT.alloc (.cells #[.int .i64 y, .int .i64 m, .int .i64 d] 25))
  have HS := Lib.hid (keep3_new w (.int .i64 y) (.int .i64 m) (.int .i64 d) 25)
  have HO := Lib.hid h
  have h1 := h.1
  have h2 := h.2.1
  have nb := Cal.ny_bd (y := y) h1 (by omega)
  have cb := Cal.cum_bd y h.2.2.1 (by have := h.2.2.2.1; omega)
  have cb2 : Cal.cum y m ≤ 400 := by have := h.2.2.2.1; omega
  have cb1 : 0 ≤ Cal.cum y m := by have := h.2.2.1; omega
  have d1 := h.2.2.2.2.1
  have d2 : d ≤ 31 := by have := Cal.md_bd y h.2.2.1 h.2.2.2.1; have := h.2.2.2.2.2; omega
  have HN := Lib.hid (show Cal.ny y + (Cal.cum y m + d) - 1 = Cal.num y m d from by unfold Cal.num; omega)
  clear hT h cb
  go_enter Tryd.func37, Tryd.ntmps37
  go_wp2
  go_region_held3 (fun w' => w'.cell? ⟨w.heap.size, 0, none⟩ = some (.int .i64 y) ∧ w'.cell? ⟨w.heap.size, 1, none⟩ = some (.int .i64 m) ∧ w'.cell? ⟨w.heap.size, 2, none⟩ = some (.int .i64 d) ∧ Below w.heap.size w w') (first | exact HS.out | exact keep3_drew HS.out | exact keep3 hb (keep3_drew HS.out)) (first | (go_at_call 55; refine (newYear_any y _ h1 (by omega)).mono ?_; rintro e w1 ⟨rfl, rfl⟩) | (go_at_call 56; refine (ordinal_any y m d _ (by exact HT.out.drew) HO.out).mono ?_; rintro e w1 ⟨rfl, hb⟩))
  go_wp2
  go_ret
  exact ⟨ret_int (by rw [IntWalk.i64_in (Cal.ny y + (Cal.cum y m + d)) ⟨by omega, by omega⟩, IntWalk.i64_in _ ⟨by omega, by omega⟩]; exact HN.out), (keep3 hb (keep3_drew HS.out)).2.2.2⟩
/-- The date that is being sought: block b holds it. -/
def DBlk (w : World) (b : Nat) (y m r : Int) : Prop :=
  w.cell? ⟨b, 0, none⟩ = some (.int .i64 y) ∧ w.cell? ⟨b, 1, none⟩ = some (.int .i64 m) ∧ w.cell? ⟨b, 2, none⟩ = some (.int .i64 r) ∧ w.frozen? ⟨b, 1, none⟩ = false ∧ w.frozen? ⟨b, 2, none⟩ = false
theorem DBlk.step {w : World} {b : Nat} {y m r : Int} (h : DBlk w b y m r) (m' r' : Int) (n : Nat) : DBlk (((w.drewN n).setCell ⟨b, 2, none⟩ (.int .i64 r')).setCell ⟨b, 1, none⟩ (.int .i64 m')) b y m' r' := by
  obtain ⟨h0, h1, h2, h3, h4⟩ := h
  refine ⟨?_, ?_, ?_, ?_, ?_⟩
  · rw [World.cell?_setCell_other _ _ _ _ (by simp), World.cell?_setCell_other _ _ _ _ (by simp)]; exact h0
  · refine World.cell?_setCell_same (u := .int .i64 m) _ _ _ ?_
    rw [World.cell?_setCell_other _ _ _ _ (by simp)]; exact h1
  · rw [World.cell?_setCell_other _ _ _ _ (by simp)]
    exact World.cell?_setCell_same (u := .int .i64 r) _ _ _ h2
  · rw [World.frozen?_setCell, World.frozen?_setCell]; exact h3
  · rw [World.frozen?_setCell, World.frozen?_setCell]; exact h4
theorem cum_last (y : Int) : Cal.cum y 12 + Cal.md y 12 = 365 + Cal.lp y := by
  have := Cal.cum_succ y (m := 12) (by decide) (by decide)
  have h13 := Cal.cum_end y
  rw [show (12 : Int) + 1 = 13 from rfl] at this
  omega
theorem Upd.frozen {g : Nat} {w w' : World} (h : Upd g w w') {b : Nat} (hb : b < w.heap.size) (hn : b ≠ g) (o : Nat) : w'.frozen? ⟨b, o, none⟩ = w.frozen? ⟨b, o, none⟩ :=
  World.frozen?_of_block (w := w) (w' := w') (a := ⟨b, o, none⟩) (h.block b hb hn)
set_option maxHeartbeats 1600000 in
theorem dateAt_any (n : Int) (w : World) (hT : Tab w) (h0 : 0 ≤ n) (h1 : n ≤ 3652058) : Calls Tryd.prog 49 #[.int .i64 n] w fun e w' => e = .returned (.agg #[.int .i64 (Cal.yo n), .int .i64 (Cal.mo n), .int .i64 (Cal.dd n)]) ∧ Below w.heap.size w w' := by
  have g0 := Cal.ny_guess h0
  have HT := Lib.hid hT
  have hlt := hT.lt
  clear hT
  go_enter Tryd.func49, Tryd.ntmps49
  go_wp2
  go_loop [3] (fun t => ∃ y : Int, 1 ≤ y ∧ y ≤ 9999 ∧ Cal.ny y ≤ n ∧ t = .int .i64 y) (fun t => (9999 - intOf t).toNat)
  case atStart => exact ⟨_, by omega, by omega, g0, rfl⟩
  case round =>
    obtain ⟨y, hy1, hy2, hy3, rfl⟩ := hrel
    clear g0
    by_cases hc : y < 9999 ∧ Cal.ny (y + 1) ≤ n
    · obtain ⟨hlt, hd⟩ := hc
      go_wp2_with (go_at_call 55; refine (newYear_any _ _ (by omega) (by omega)).mono ?_; rintro e w' ⟨rfl, rfl⟩)
      go_round
      case rel => exact ⟨y + 1, by omega, by omega, hd, rfl⟩
      case measure => simp [intOf]; omega
    · have hz : n < Cal.ny (y + 1) := by
        by_cases e : y = 9999
        · rw [e]; show _ < Cal.ny 10000; rw [Cal.ny_end]; omega
        · omega
      have hb := Cal.ny_bd (y := y) hy1 (by omega)
      have HS := Lib.hid (Cal.ny_succ hy1)
      have q : y < 9999 → decide (Cal.ny (y + 1) ≤ n) = false := fun _ => decide_eq_false (by omega)
      clear hc
      by_cases hlt : y < 9999
      all_goals
        go_wp2_with (go_at_call 55; refine (newYear_any _ _ (by omega) (by omega)).mono ?_; rintro e w' ⟨rfl, rfl⟩)
        have HD0 : Hid (DBlk ((w.alloc (.cells #[.int .i64 0, .int .i64 0, .int .i64 0] 25)).alloc (.cells #[.int .i64 y, .int .i64 1, .int .i64 (n - Cal.ny y + 1)] 25)) (w.heap.size + 1) y 1 (n - Cal.ny y + 1)) := ⟨by simp, by simp, by simp, by simp, by simp⟩
        go_loopg [] 11 (fun k wr => ∃ m : Int, 1 ≤ m ∧ m ≤ 12 ∧ (k : Int) = 12 - m ∧ 0 ≤ n - Cal.ny y - Cal.cum y m ∧ DBlk wr (w.heap.size + 1) y m (n - Cal.ny y - Cal.cum y m + 1) ∧ Upd (w.heap.size + 1) ((w.alloc (.cells #[.int .i64 0, .int .i64 0, .int .i64 0] 25)).alloc (.cells #[.int .i64 y, .int .i64 1, .int .i64 (n - Cal.ny y + 1)] 25)) wr)
        case atStart => exact ⟨1, by omega, by omega, by omega, by rw [Cal.cum_one]; omega, (by rw [Cal.cum_one, Int.sub_zero]; exact HD0.out), Upd.refl _ _⟩
        case round =>
          obtain ⟨m, hm1, hm2, hgk, hr0, hD, hu⟩ := hrel
          clear HD0
          have HTr := Lib.hid (((HT.out.alloc _).alloc _).upd hu (by omega))
          have cb := Cal.cum_bd y hm1 (by omega)
          have mb := Cal.md_bd y hm1 hm2
          have HC := Lib.hid (Cal.cum_succ y hm1 hm2)
          have HE := Lib.hid (Cal.cum_le_end y hm1 hm2)
          have HM := Lib.hid (show MonOk y m from ⟨hy1, hy2, hm1, hm2⟩)
          have HDs := Lib.hid hD
          have HU := Lib.hid hu
          have hlp := Cal.lp_01 y
          obtain ⟨c0, c1, c2, f1, f2⟩ := hD
          clear hu
          by_cases hc : Cal.md y m < n - Cal.ny y - Cal.cum y m + 1
          · have hm12 : m < 12 := by
              have h12 := cum_last y
              have := HS.out
              by_cases e : m = 12
              · rw [e] at hc; omega
              · omega
            go_wp2
            go_quiet ((go_at_call 50; exact quiet_l (MonthDays_i_yes y m _ (HTr.out.drewN _) HM.out)))
            go_wp2
            go_region_with (first | (go_at_call 50; refine (MonthDays_i_yes y m _ (by first | exact HTr.out.drewN _ | exact (HTr.out.drewN _).drew | exact HTr.out) HM.out).mono ?_; rintro e w5 ⟨rfl, rfl⟩))
            all_goals
              go_wp2
              go_roundg (gk - 1)
              case measure => omega
              case rel =>
                exact ⟨m + 1, by omega, by omega, by omega, by rw [HC.out]; omega, by rw [show n - Cal.ny y - Cal.cum y (m + 1) + 1 = n - Cal.ny y - Cal.cum y m + 1 - Cal.md y m from by rw [HC.out]; omega]; exact HDs.out.step _ _ _, ((HU.out.drewN _).setCell _ _).setCell _ _⟩
          · have hle : n - Cal.ny y - Cal.cum y m + 1 ≤ Cal.md y m := by omega
            have e0 := HU.out.cell (b := w.heap.size) (o := 0) (v := .int .i64 0) (by simp; omega) (by omega) (by simp)
            have e1 := HU.out.cell (b := w.heap.size) (o := 1) (v := .int .i64 0) (by simp; omega) (by omega) (by simp)
            have e2 := HU.out.cell (b := w.heap.size) (o := 2) (v := .int .i64 0) (by simp; omega) (by omega) (by simp)
            have f3 := (HU.out.frozen (b := w.heap.size) (by simp; omega) (by omega) 0).trans (show _ = false by simp)
            have f4 := (HU.out.frozen (b := w.heap.size) (by simp; omega) (by omega) 1).trans (show _ = false by simp)
            have f5 := (HU.out.frozen (b := w.heap.size) (by simp; omega) (by omega) 2).trans (show _ = false by simp)
            have HB := Lib.hid ((((Below.refl w.heap.size w).alloc (Nat.le_refl _) (.cells #[.int .i64 0, .int .i64 0, .int .i64 0] 25)).alloc (by simp) (.cells #[.int .i64 y, .int .i64 1, .int .i64 (n - Cal.ny y + 1)] 25)).trans (HU.out.below (B := w.heap.size) (by omega) (by simp; omega)))
            have HOk := Lib.hid (show Cal.Ok y m (n - Cal.ny y - Cal.cum y m + 1) from ⟨hy1, hy2, hm1, hm2, by omega, hle⟩)
            have HNum := Lib.hid (show Cal.num y m (n - Cal.ny y - Cal.cum y m + 1) = n from by unfold Cal.num; omega)
            clear hc
            go_wp2
            go_quiet ((go_at_call 50; exact quiet_l (MonthDays_i_yes y m _ (HTr.out.drewN _) HM.out)))
            go_wp2
            refine bodyPost_ret (v := .agg #[.int .i64 y, .int .i64 m, .int .i64 (n - Cal.ny y - Cal.cum y m + 1)]) (by simp [results, Tryd.results49, go_sem, e0, e1, e2]) rfl ⟨?_, ?_⟩
            · have hd := Cal.dt_num HOk.out
              rw [HNum.out] at hd
              exact agg_ret hd.1.symm hd.2.1.symm hd.2.2.symm
            · exact (((below_drewN HB.out _).setCell (by exact Nat.le_refl _) _).setCell (by exact Nat.le_refl _) _).setCell (by exact Nat.le_refl _) _
end Go.Proofs.YtjgpfadoebnchaaDoor
