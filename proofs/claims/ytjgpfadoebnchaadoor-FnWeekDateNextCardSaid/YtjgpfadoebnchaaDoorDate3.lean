/-
  Contracts: which dates there are not, by the reference. Conditions: as each states.
-/
import Derived.Test.YtjgpfadoebnchaaDoorDate2
namespace Go.Proofs.YtjgpfadoebnchaaDoor
open Go.RowKit Go.PlainAid
set_option linter.unusedVariables false

theorem DateValid_s_no (y m d : Int) (w : World) (h : ¬ Cal.Ok y m d) : Calls Tryd.prog 34 #[.agg #[.int .i64 y, .int .i64 m, .int .i64 d]] w fun e w' => e = .returned (.bool false) ∧ Below w.heap.size w w' := by
  have HS := Lib.hid (keep3_new w (.int .i64 y) (.int .i64 m) (.int .i64 d) 25)
  by_cases hM : MonOk y m
  · have h5 : d < 1 ∨ Cal.md y m < d := by
      obtain ⟨a, b, c, e⟩ := hM
      by_cases h1 : d < 1
      · exact .inl h1
      · by_cases h2 : Cal.md y m < d
        · exact .inr h2
        · exact absurd ⟨a, b, c, e, by omega, by omega⟩ h
    have HM := Lib.hid hM
    have H5 := Lib.hid h5
    clear h hM h5
    go_enter Tryd.func34, Tryd.ntmps34
    go_wp2
    go_region_held3 (fun w' => w'.cell? ⟨w.heap.size, 0, none⟩ = some (.int .i64 y) ∧ w'.cell? ⟨w.heap.size, 1, none⟩ = some (.int .i64 m) ∧ w'.cell? ⟨w.heap.size, 2, none⟩ = some (.int .i64 d) ∧ Below w.heap.size w w') (first | exact HS.out | exact keep3_drew HS.out | exact keep3 hb (keep3_drew HS.out)) (first | (go_at_call 52; refine (MonthDays_s_yes y m _ HM.out).mono ?_; rintro e w1 ⟨rfl, hb⟩) | (go_at_call 39; refine (l6In_no _ _ _ _ H5.out).mono ?_; rintro e w' ⟨rfl, rfl⟩))
    go_wp2
    go_ret
    exact ⟨rfl, (keep3 hb (keep3_drew HS.out)).2.2.2⟩
  · have HM := Lib.hid hM
    have H5 := Lib.hid (show d < 1 ∨ 0 < d from by omega)
    clear h hM
    go_enter Tryd.func34, Tryd.ntmps34
    go_wp2
    go_quiet ((first | (go_at_call 52; exact quiet_l (MonthDays_s_no y m _ HM.out)) | (go_at_call 39; exact quiet_l (l6In_no _ _ _ _ H5.out))))
    go_wp2
    go_ret
    exact ⟨rfl, below_drewN (by go_grown) _⟩
end Go.Proofs.YtjgpfadoebnchaaDoor
