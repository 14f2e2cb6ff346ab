/-
  Contracts of the functions on times of a day. Conditions: as each states.
-/
import Derived.Test.YtkdhlgfpnkdbmaaDoorDig
namespace Go.Proofs.YtkdhlgfpnkdbmaaDoor
open Go.RowKit Go.PlainAid
set_option linter.unusedVariables false

/-- There is such a time. -/
def ClockOk (h m s l : Int) : Prop := (0 ≤ h ∧ h ≤ 23 ∧ 0 ≤ m ∧ m ≤ 59 ∧ 0 ≤ s ∧ s ≤ 59 ∧ 0 ≤ l ∧ l ≤ 999) ∨ (h = 24 ∧ m = 0 ∧ s = 0 ∧ l = 0)
theorem clock_cases (h m s l : Int) (hn : ¬ ClockOk h m s l) : (h < 0 ∨ 24 < h) ∨ (0 ≤ h ∧ h ≤ 24 ∧ (m < 0 ∨ 59 < m)) ∨ (0 ≤ h ∧ h ≤ 24 ∧ 0 ≤ m ∧ m ≤ 59 ∧ (s < 0 ∨ 59 < s)) ∨ (0 ≤ h ∧ h ≤ 24 ∧ 0 ≤ m ∧ m ≤ 59 ∧ 0 ≤ s ∧ s ≤ 59 ∧ (l < 0 ∨ 999 < l)) ∨
    (24 ≤ h ∧ h ≤ 24 ∧ 0 ≤ m ∧ m ≤ 59 ∧ 0 ≤ s ∧ s ≤ 59 ∧ 0 ≤ l ∧ l ≤ 999 ∧ 1 ≤ m + s + l) := by
  unfold ClockOk at hn
  omega
theorem toClock_any (h m s l : Int) (w : World) : Calls Tryd.prog 17 #[.agg #[.int .i64 h, .int .i64 m, .int .i64 s, .int .i64 l]] w fun e w' => e = .returned (.agg #[.int .i64 h, .int .i64 m, .int .i64 s, .int .i64 l]) ∧ Below w.heap.size w w' := by
  go_enter Tryd.func17, Tryd.ntmps17
  go_wp2
  refine bodyPost_ret (v := .agg #[.int .i64 h, .int .i64 m, .int .i64 s, .int .i64 l]) (by simp [results, Tryd.results17, go_sem]) rfl ⟨rfl, ?_⟩
  go_grown
theorem ClockValid_s_yes (h m s l : Int) (w : World) (hc : ClockOk h m s l) : Calls Tryd.prog 27 #[.agg #[.int .i64 h, .int .i64 m, .int .i64 s, .int .i64 l]] w fun e w' => e = .returned (.bool true) ∧ Below w.heap.size w w' := by
  rcases hc with ⟨h1, h2, h3, h4, h5, h6, h7, h8⟩ | ⟨rfl, rfl, rfl, rfl⟩
  · go_enter Tryd.func27, Tryd.ntmps27
    go_wp2_with (first | (go_at_call 44; refine (l6In_yes _ _ _ _ (by omega) (by omega)).mono ?_; rintro e w' ⟨rfl, rfl⟩) | (go_at_call 44; refine (l6In_no _ _ _ _ (by omega)).mono ?_; rintro e w' ⟨rfl, rfl⟩))
    go_ret
    exact ⟨rfl, by go_grown⟩
  · go_enter Tryd.func27, Tryd.ntmps27
    go_wp2_with (first | (go_at_call 44; refine (l6In_yes _ _ _ _ (by omega) (by omega)).mono ?_; rintro e w' ⟨rfl, rfl⟩) | (go_at_call 44; refine (l6In_no _ _ _ _ (by omega)).mono ?_; rintro e w' ⟨rfl, rfl⟩))
    go_ret
    exact ⟨rfl, by go_grown⟩
set_option maxHeartbeats 800000 in
theorem ClockValid_s_no (h m s l : Int) (w : World) (hc : ¬ ClockOk h m s l) : Calls Tryd.prog 27 #[.agg #[.int .i64 h, .int .i64 m, .int .i64 s, .int .i64 l]] w fun e w' => e = .returned (.bool false) ∧ Below w.heap.size w w' := by
  have hd := clock_cases h m s l hc
  clear hc
  rcases hd with h1 | ⟨h1, h2, h3⟩ | ⟨h1, h2, h3, h4, h5⟩ | ⟨h1, h2, h3, h4, h5, h6, h7⟩ | ⟨h1, h2, h3, h4, h5, h6, h7, h8, h9⟩
  ·
    go_enter Tryd.func27, Tryd.ntmps27
    go_wp2_with (first | (go_at_call 44; refine (l6In_yes _ _ _ _ (by omega) (by omega)).mono ?_; rintro e w' ⟨rfl, rfl⟩) | (go_at_call 44; refine (l6In_no _ _ _ _ (by omega)).mono ?_; rintro e w' ⟨rfl, rfl⟩))
    go_ret
    exact ⟨rfl, by go_grown⟩
  ·
    go_enter Tryd.func27, Tryd.ntmps27
    go_wp2_with (first | (go_at_call 44; refine (l6In_yes _ _ _ _ (by omega) (by omega)).mono ?_; rintro e w' ⟨rfl, rfl⟩) | (go_at_call 44; refine (l6In_no _ _ _ _ (by omega)).mono ?_; rintro e w' ⟨rfl, rfl⟩))
    go_ret
    exact ⟨rfl, by go_grown⟩
  ·
    go_enter Tryd.func27, Tryd.ntmps27
    go_wp2_with (first | (go_at_call 44; refine (l6In_yes _ _ _ _ (by omega) (by omega)).mono ?_; rintro e w' ⟨rfl, rfl⟩) | (go_at_call 44; refine (l6In_no _ _ _ _ (by omega)).mono ?_; rintro e w' ⟨rfl, rfl⟩))
    go_ret
    exact ⟨rfl, by go_grown⟩
  ·
    go_enter Tryd.func27, Tryd.ntmps27
    go_wp2_with (first | (go_at_call 44; refine (l6In_yes _ _ _ _ (by omega) (by omega)).mono ?_; rintro e w' ⟨rfl, rfl⟩) | (go_at_call 44; refine (l6In_no _ _ _ _ (by omega)).mono ?_; rintro e w' ⟨rfl, rfl⟩))
    go_ret
    exact ⟨rfl, by go_grown⟩
  · have q1 : decide (h < 24) = false := decide_eq_false (by omega)
    have q2 : (m + s + l == 0) = false := beq_eq_false_iff_ne.2 (by omega)
    go_enter Tryd.func27, Tryd.ntmps27
    go_wp2_with (first | (go_at_call 44; refine (l6In_yes _ _ _ _ (by omega) (by omega)).mono ?_; rintro e w' ⟨rfl, rfl⟩) | (go_at_call 44; refine (l6In_no _ _ _ _ (by omega)).mono ?_; rintro e w' ⟨rfl, rfl⟩))
    go_ret
    exact ⟨rfl, by go_grown⟩
set_option maxHeartbeats 800000 in
theorem ClockValid_i_yes (h m s l : Int) (w : World) (hc : ClockOk h m s l) : Calls Tryd.prog 15 #[.agg #[.int .i64 h, .int .i64 m, .int .i64 s, .int .i64 l]] w fun e w' => e = .returned (.bool true) ∧ Below w.heap.size w w' := by
  rcases hc with ⟨h1, h2, h3, h4, h5, h6, h7, h8⟩ | ⟨rfl, rfl, rfl, rfl⟩
  · have q : (h == 24) = false := beq_eq_false_iff_ne.2 (by omega)
    go_enter Tryd.func15, Tryd.ntmps15
    go_wp2_with (first | (go_at_call 29; refine (within_yes _ _ _ _ (by omega) (by omega)).mono ?_; rintro e w' ⟨rfl, rfl⟩) | (go_at_call 29; refine (within_no _ _ _ _ (by omega)).mono ?_; rintro e w' ⟨rfl, rfl⟩))
    go_ret
    exact ⟨rfl, by go_grown⟩
  ·
    go_enter Tryd.func15, Tryd.ntmps15
    go_wp2_with (first | (go_at_call 29; refine (within_yes _ _ _ _ (by omega) (by omega)).mono ?_; rintro e w' ⟨rfl, rfl⟩) | (go_at_call 29; refine (within_no _ _ _ _ (by omega)).mono ?_; rintro e w' ⟨rfl, rfl⟩))
    go_ret
    exact ⟨rfl, by go_grown⟩
theorem clock_cases2 (h m s l : Int) (hn : ¬ ClockOk h m s l) : (h < 0 ∨ 24 < h) ∨ (0 ≤ h ∧ h ≤ 23 ∧ (m < 0 ∨ 59 < m)) ∨ (0 ≤ h ∧ h ≤ 23 ∧ 0 ≤ m ∧ m ≤ 59 ∧ (s < 0 ∨ 59 < s)) ∨ (0 ≤ h ∧ h ≤ 23 ∧ 0 ≤ m ∧ m ≤ 59 ∧ 0 ≤ s ∧ s ≤ 59 ∧ (l < 0 ∨ 999 < l)) ∨
    (h = 24 ∧ m ≠ 0) ∨ (h = 24 ∧ s ≠ 0) ∨ (h = 24 ∧ l ≠ 0) := by
  unfold ClockOk at hn
  omega
set_option maxHeartbeats 800000 in
theorem ClockValid_i_no (h m s l : Int) (w : World) (hc : ¬ ClockOk h m s l) : Calls Tryd.prog 15 #[.agg #[.int .i64 h, .int .i64 m, .int .i64 s, .int .i64 l]] w fun e w' => e = .returned (.bool false) ∧ Below w.heap.size w w' := by
  have hd := clock_cases2 h m s l hc
  clear hc
  rcases hd with h1 | ⟨h1, h2, h3⟩ | ⟨h1, h2, h3, h4, h5⟩ | ⟨h1, h2, h3, h4, h5, h6, h7⟩ | ⟨rfl, h1⟩ | ⟨rfl, h1⟩ | ⟨rfl, h1⟩
  · have q : (h == 24) = false := beq_eq_false_iff_ne.2 (by omega)
    go_enter Tryd.func15, Tryd.ntmps15
    go_wp2_with (first | (go_at_call 29; refine (within_yes _ _ _ _ (by omega) (by omega)).mono ?_; rintro e w' ⟨rfl, rfl⟩) | (go_at_call 29; refine (within_no _ _ _ _ (by omega)).mono ?_; rintro e w' ⟨rfl, rfl⟩))
    go_ret
    exact ⟨rfl, by go_grown⟩
  · have q : (h == 24) = false := beq_eq_false_iff_ne.2 (by omega)
    go_enter Tryd.func15, Tryd.ntmps15
    go_wp2_with (first | (go_at_call 29; refine (within_yes _ _ _ _ (by omega) (by omega)).mono ?_; rintro e w' ⟨rfl, rfl⟩) | (go_at_call 29; refine (within_no _ _ _ _ (by omega)).mono ?_; rintro e w' ⟨rfl, rfl⟩))
    go_ret
    exact ⟨rfl, by go_grown⟩
  · have q : (h == 24) = false := beq_eq_false_iff_ne.2 (by omega)
    go_enter Tryd.func15, Tryd.ntmps15
    go_wp2_with (first | (go_at_call 29; refine (within_yes _ _ _ _ (by omega) (by omega)).mono ?_; rintro e w' ⟨rfl, rfl⟩) | (go_at_call 29; refine (within_no _ _ _ _ (by omega)).mono ?_; rintro e w' ⟨rfl, rfl⟩))
    go_ret
    exact ⟨rfl, by go_grown⟩
  · have q : (h == 24) = false := beq_eq_false_iff_ne.2 (by omega)
    go_enter Tryd.func15, Tryd.ntmps15
    go_wp2_with (first | (go_at_call 29; refine (within_yes _ _ _ _ (by omega) (by omega)).mono ?_; rintro e w' ⟨rfl, rfl⟩) | (go_at_call 29; refine (within_no _ _ _ _ (by omega)).mono ?_; rintro e w' ⟨rfl, rfl⟩))
    go_ret
    exact ⟨rfl, by go_grown⟩
  · have q : (m == 0) = false := beq_eq_false_iff_ne.2 (by omega)
    go_enter Tryd.func15, Tryd.ntmps15
    go_wp2_with (first | (go_at_call 29; refine (within_yes _ _ _ _ (by omega) (by omega)).mono ?_; rintro e w' ⟨rfl, rfl⟩) | (go_at_call 29; refine (within_no _ _ _ _ (by omega)).mono ?_; rintro e w' ⟨rfl, rfl⟩))
    go_ret
    exact ⟨rfl, by go_grown⟩
  · have q : (s == 0) = false := beq_eq_false_iff_ne.2 (by omega)
    go_enter Tryd.func15, Tryd.ntmps15
    go_wp2_with (first | (go_at_call 29; refine (within_yes _ _ _ _ (by omega) (by omega)).mono ?_; rintro e w' ⟨rfl, rfl⟩) | (go_at_call 29; refine (within_no _ _ _ _ (by omega)).mono ?_; rintro e w' ⟨rfl, rfl⟩))
    go_ret
    exact ⟨rfl, by go_grown⟩
  · have q : (l == 0) = false := beq_eq_false_iff_ne.2 (by omega)
    go_enter Tryd.func15, Tryd.ntmps15
    go_wp2_with (first | (go_at_call 29; refine (within_yes _ _ _ _ (by omega) (by omega)).mono ?_; rintro e w' ⟨rfl, rfl⟩) | (go_at_call 29; refine (within_no _ _ _ _ (by omega)).mono ?_; rintro e w' ⟨rfl, rfl⟩))
    go_ret
    exact ⟨rfl, by go_grown⟩
end Go.Proofs.YtkdhlgfpnkdbmaaDoor
