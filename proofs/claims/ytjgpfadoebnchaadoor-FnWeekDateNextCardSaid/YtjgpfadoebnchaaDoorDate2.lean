/-
  Contracts: which dates there are; the days ahead of a year. Conditions: as each states.
-/
import Derived.Test.YtjgpfadoebnchaaDoorDate
import Derived.Deep.RegionHeld3
namespace Go.Proofs.YtjgpfadoebnchaaDoor
open Go.RowKit Go.PlainAid
set_option linter.unusedVariables false

theorem toDate_any (y m d : Int) (w : World) : Calls Tryd.prog 16 #[.agg #[.int .i64 y, .int .i64 m, .int .i64 d]] w fun e w' => e = .returned (.agg #[.int .i64 y, .int .i64 m, .int .i64 d]) ∧ Below w.heap.size w w' := by
  go_enter Tryd.func16, Tryd.ntmps16
  go_wp2
  refine bodyPost_ret (v := .agg #[.int .i64 y, .int .i64 m, .int .i64 d]) (by simp [results, Tryd.results16, go_sem]) rfl ⟨rfl, ?_⟩
  go_grown
theorem DateValid_i_yes (y m d : Int) (w : World) (hT : Tab w) (h : Cal.Ok y m d) : Calls Tryd.prog 32 #[.agg #[.int .i64 y, .int .i64 m, .int .i64 d]] w fun e w' => e = .returned (.bool true) ∧ Below w.heap.size w w' := by
  have hM : MonOk y m := ⟨h.1, h.2.1, h.2.2.1, h.2.2.2.1⟩
  have h5 := h.2.2.2.2.1
  have h6 := h.2.2.2.2.2
  have HM := Lib.hid hM
  have HT := Lib.hid (hT.alloc (.cells #[.int .i64 y, .int .i64 m, .int .i64 d] 25))
  clear hT
  clear h hM
  go_enter Tryd.func32, Tryd.ntmps32
  go_wp2
  go_quiet ((first | (go_at_call 50; exact quiet_l (MonthDays_i_yes y m _ (HT.out.drewN _) HM.out)) | (go_at_call 42; exact quiet_l (within_yes _ _ _ _ h5 h6))))
  go_wp2
  go_ret
  exact ⟨rfl, below_drewN (by go_grown) _⟩
theorem DateValid_i_no (y m d : Int) (w : World) (hT : Tab w) (h : ¬ Cal.Ok y m d) : Calls Tryd.prog 32 #[.agg #[.int .i64 y, .int .i64 m, .int .i64 d]] w fun e w' => e = .returned (.bool false) ∧ Below w.heap.size w w' := by
  by_cases hM : MonOk y m
  · have h5 : d < 1 ∨ Cal.md y m < d := by
      obtain ⟨a, b, c, e⟩ := hM
      by_cases h1 : d < 1
      · exact .inl h1
      · by_cases h2 : Cal.md y m < d
        · exact .inr h2
        · exact absurd ⟨a, b, c, e, by omega, by omega⟩ h
    have HM := Lib.hid hM
    have H5 := Lib.hid h5
    have HT := Lib.hid (hT.alloc (.cells #[.int .i64 y, .int .i64 m, .int .i64 d] 25))
    clear hT
    clear h hM h5
    go_enter Tryd.func32, Tryd.ntmps32
    go_wp2
    go_quiet ((first | (go_at_call 50; exact quiet_l (MonthDays_i_yes y m _ (HT.out.drewN _) HM.out)) | (go_at_call 42; exact quiet_l (within_no _ _ _ _ H5.out))))
    go_wp2
    go_ret
    exact ⟨rfl, below_drewN (by go_grown) _⟩
  · have HM := Lib.hid hM
    clear h hM hT
    have H5 := Lib.hid (show d < 1 ∨ 0 < d from by omega)
    go_enter Tryd.func32, Tryd.ntmps32
    go_wp2
    go_quiet ((first | (go_at_call 50; exact quiet_l (MonthDays_i_no y m _ HM.out)) | (go_at_call 42; exact quiet_l (within_no _ _ _ _ H5.out))))
    go_wp2
    go_ret
    exact ⟨rfl, below_drewN (by go_grown) _⟩
theorem DateValid_s_yes (y m d : Int) (w : World) (h : Cal.Ok y m d) : Calls Tryd.prog 34 #[.agg #[.int .i64 y, .int .i64 m, .int .i64 d]] w fun e w' => e = .returned (.bool true) ∧ Below w.heap.size w w' := by
  have hM : MonOk y m := ⟨h.1, h.2.1, h.2.2.1, h.2.2.2.1⟩
  have h5 := h.2.2.2.2.1
  have h6 := h.2.2.2.2.2
  have HM := Lib.hid hM
  have HS := Lib.hid (keep3_new w (.int .i64 y) (.int .i64 m) (.int .i64 d) 25)
  clear h hM
  go_enter Tryd.func34, Tryd.ntmps34
  go_wp2
  go_region_held3 (fun w' => w'.cell? ⟨w.heap.size, 0, none⟩ = some (.int .i64 y) ∧ w'.cell? ⟨w.heap.size, 1, none⟩ = some (.int .i64 m) ∧ w'.cell? ⟨w.heap.size, 2, none⟩ = some (.int .i64 d) ∧ Below w.heap.size w w') (first | exact HS.out | exact keep3_drew HS.out | exact keep3 hb (keep3_drew HS.out)) (first | (go_at_call 52; refine (MonthDays_s_yes y m _ HM.out).mono ?_; rintro e w1 ⟨rfl, hb⟩) | (go_at_call 39; refine (l6In_yes _ _ _ _ h5 h6).mono ?_; rintro e w' ⟨rfl, rfl⟩))
  go_wp2
  go_ret
  exact ⟨rfl, (keep3 hb (keep3_drew HS.out)).2.2.2⟩
theorem newYear_any (y : Int) (w : World) (h1 : 1 ≤ y) (h2 : y ≤ 10000) : Calls Tryd.prog 55 #[.int .i64 y] w fun e w' => e = .returned (.int .i64 (Cal.ny y)) ∧ w = w' := by
  go_enter Tryd.func55, Tryd.ntmps55
  go_wp2
  go_ret
  exact ⟨rfl, rfl⟩
theorem l2Years_any (y : Int) (w : World) (h1 : 1 ≤ y) (h2 : y ≤ 10000) : Calls Tryd.prog 53 #[.int .i64 y] w fun e w' => e = .returned (.int .i64 (Cal.ny y)) ∧ w = w' := by
  go_enter Tryd.func53, Tryd.ntmps53
  go_wp2
  go_ret
  exact ⟨rfl, rfl⟩
end Go.Proofs.YtjgpfadoebnchaaDoor
