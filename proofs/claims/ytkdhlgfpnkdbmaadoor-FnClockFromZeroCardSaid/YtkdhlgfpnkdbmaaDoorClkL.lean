/-
  Contracts: what a text reads as, by the reference. Conditions: as each states.
-/
import Derived.Test.YtkdhlgfpnkdbmaaDoorClkS
namespace Go.Proofs.YtkdhlgfpnkdbmaaDoor
open Go.RowKit Go.PlainAid
set_option linter.unusedVariables false

theorem lbt {a b : Int} (h : a = b) : (a == b) = true ∧ (a != b) = false := ⟨beq_iff_eq.2 h, by simp [h]⟩
theorem lbf {a b : Int} (h : a ≠ b) : (a == b) = false ∧ (a != b) = true := ⟨beq_eq_false_iff_ne.2 h, bne_iff_ne.2 h⟩
theorem mil_ret {a b : Int} (h : a = b) : Ending.returned (.tuple #[.int .i64 a, .bool true]) = .returned (.tuple #[.int .i64 b, .bool true]) := by rw [h]
/-- There is a fraction of a second at a place, or the end. -/
def FrOk (s : ByteArray) (p l : Nat) : Prop := (s.size = p ∧ l = 0) ∨ (∃ k, 1 ≤ k ∧ k ≤ 3 ∧ s.size = p + 1 + k ∧ bt s p = 46 ∧ k ≤ runN s (p + 1) ∧ l = numN s (p + 1) k * 10 ^ (3 - k))
/-- What the reading of a fraction answers. -/
def MilRes (s : ByteArray) (p : Nat) (w : World) (e : Ending) (w' : World) : Prop := w = w' ∧ ((∃ l, FrOk s p l ∧ l < 1000 ∧ e = .returned (.tuple #[.int .i64 (l : Nat), .bool true])) ∨ ((∀ l, ¬ FrOk s p l) ∧ ∃ v : Int, e = .returned (.tuple #[.int .i64 v, .bool false])))
theorem p10_nat (k : Nat) : p10 k = ((10 ^ k : Nat) : Int) := p10_pow k
set_option maxHeartbeats 1000000 in
theorem l5Milli_any (s : ByteArray) (p : Nat) (w : World) (hs : s.size ≤ 2000000) (hp : p ≤ 10) : Calls Tryd.prog 39 #[.string s, .int .i64 (p : Int)] w (MilRes s p w) := by
  have hs' : s.size ≤ maxLen := by unfold maxLen; omega
  have HS := Lib.hid hs'
  clear hs'
  have hgb := get_bt s
  by_cases h0 : p = s.size
  · obtain ⟨z0, z1⟩ := lbt (show (p : Int) = (s.size : Int) from by omega)
    have H0 := Lib.hid h0
    clear h0
    go_enter Tryd.func39, Tryd.ntmps39
    go_wp2
    go_ret2
    exact ⟨rfl, .inl ⟨0, .inl ⟨H0.out.symm, rfl⟩, by omega, rfl⟩⟩
  · obtain ⟨z0, z1⟩ := lbf (show (p : Int) ≠ (s.size : Int) from by omega)
    by_cases h1 : s.size < p
    · have hno : ∀ l, ¬ FrOk s p l := fun l hf => by
        rcases hf with ⟨a, -⟩ | ⟨k, a, b, c, -⟩ <;> omega
      have HN := Lib.hid hno
      clear hno h0
      go_enter Tryd.func39, Tryd.ntmps39
      go_wp2
      go_ret2
      exact ⟨rfl, .inr ⟨HN.out, _, rfl⟩⟩
    · by_cases h2 : bt s p = 46
      · obtain ⟨y0, y1⟩ := lbt h2
        obtain ⟨m, hm⟩ : ∃ m : Nat, s.size = p + 1 + m := ⟨s.size - p - 1, by omega⟩
        have em : (s.size : Int) - (p : Int) - 1 = (m : Int) := by omega
        have H2 := Lib.hid (And.intro h2 hm)
        by_cases h3 : 1 ≤ m ∧ m ≤ 3
        · obtain rfl | rfl | rfl : m = 1 ∨ m = 2 ∨ m = 3 := by omega
          · have em' : (s.size : Int) - (p : Int) - 1 = 1 := by omega
            have HPw := Lib.hid (show ∀ w', Calls Tryd.prog 52 #[.int .i64 2] w' fun e w'' => e = .returned (.int .i64 100) ∧ w' = w'' from fun w' => l1Power_any 2 w' (by omega))
            by_cases hr : 1 ≤ runN s (p + 1)
            · have hnm := num_lt hr
              have HG := Lib.hid (show ∀ w', Calls Tryd.prog 38 #[.string s, .int .i64 ((p : Int) + 1), .int .i64 1] w' fun e w'' => e = .returned (.tuple #[.int .i64 (numN s (p + 1) 1 : Nat), .bool true]) ∧ w' = w'' from fun w' => by
                have := DigitsGet_s_yes s (p + 1) 1 w' HS.out (by omega) (by omega) hr
                rw [show ((p + 1 : Nat) : Int) = (p : Int) + 1 from by omega] at this
                exact this)
              have HF := Lib.hid (show FrOk s p (numN s (p + 1) 1 * 10 ^ (3 - 1)) from .inr ⟨1, by omega, by omega, hm, h2, hr, rfl⟩)
              generalize numN s (p + 1) 1 = nn at *
              have hnn : nn < 1000 := by simp at hnm; omega
              have HV := Lib.hid (show (nn : Int) * 100 = ((nn * 10 ^ (3 - 1) : Nat) : Int) from by simp)
              have HL := Lib.hid (show nn * 10 ^ (3 - 1) < 1000 from by simp at hnm ⊢; omega)
              have hlt : p < s.size := by omega
              clear hm em h0 h1 h2 h3 hr hnm
              go_enter Tryd.func39, Tryd.ntmps39
              go_wp2_with (first | (go_at_call 44; refine (l6In_yes _ _ _ _ (by omega) (by omega)).mono ?_; rintro e w' ⟨rfl, rfl⟩) | (go_at_call 38; refine (HG.out _).mono ?_; rintro e w' ⟨rfl, rfl⟩) | (go_at_call 52; refine (HPw.out _).mono ?_; rintro e w' ⟨rfl, rfl⟩))
              go_ret2
              exact ⟨rfl, .inl ⟨_, HF.out, HL.out, mil_ret HV.out⟩⟩
            · have HG := Lib.hid (show ∀ w', Calls Tryd.prog 38 #[.string s, .int .i64 ((p : Int) + 1), .int .i64 1] w' fun e w'' => e = .returned (.tuple #[.int .i64 0, .bool false]) ∧ w' = w'' from fun w' => DigitsGet_s_no s ((p : Int) + 1) 1 w' HS.out (by omega) (by omega) (fun hg => hr (by
                have := hg.2.2
                rw [show ((p : Int) + 1) = ((p + 1 : Nat) : Int) from by omega, runI_nat] at this
                omega)))
              have hno : ∀ l, ¬ FrOk s p l := fun l hf => by
                rcases hf with ⟨a, -⟩ | ⟨k, a, b, c, d, f, -⟩
                · omega
                · exact hr (by omega)
              have HN := Lib.hid hno
              have hlt : p < s.size := by omega
              clear hno hm em h0 h1 h2 h3 hr
              go_enter Tryd.func39, Tryd.ntmps39
              go_wp2_with (first | (go_at_call 44; refine (l6In_yes _ _ _ _ (by omega) (by omega)).mono ?_; rintro e w' ⟨rfl, rfl⟩) | (go_at_call 38; refine (HG.out _).mono ?_; rintro e w' ⟨rfl, rfl⟩) | (go_at_call 52; refine (HPw.out _).mono ?_; rintro e w' ⟨rfl, rfl⟩))
              go_ret2
              exact ⟨rfl, .inr ⟨HN.out, _, rfl⟩⟩
          · have em' : (s.size : Int) - (p : Int) - 1 = 2 := by omega
            have HPw := Lib.hid (show ∀ w', Calls Tryd.prog 52 #[.int .i64 1] w' fun e w'' => e = .returned (.int .i64 10) ∧ w' = w'' from fun w' => l1Power_any 1 w' (by omega))
            by_cases hr : 2 ≤ runN s (p + 1)
            · have hnm := num_lt hr
              have HG := Lib.hid (show ∀ w', Calls Tryd.prog 38 #[.string s, .int .i64 ((p : Int) + 1), .int .i64 2] w' fun e w'' => e = .returned (.tuple #[.int .i64 (numN s (p + 1) 2 : Nat), .bool true]) ∧ w' = w'' from fun w' => by
                have := DigitsGet_s_yes s (p + 1) 2 w' HS.out (by omega) (by omega) hr
                rw [show ((p + 1 : Nat) : Int) = (p : Int) + 1 from by omega] at this
                exact this)
              have HF := Lib.hid (show FrOk s p (numN s (p + 1) 2 * 10 ^ (3 - 2)) from .inr ⟨2, by omega, by omega, hm, h2, hr, rfl⟩)
              generalize numN s (p + 1) 2 = nn at *
              have hnn : nn < 1000 := by simp at hnm; omega
              have HV := Lib.hid (show (nn : Int) * 10 = ((nn * 10 ^ (3 - 2) : Nat) : Int) from by simp)
              have HL := Lib.hid (show nn * 10 ^ (3 - 2) < 1000 from by simp at hnm ⊢; omega)
              have hlt : p < s.size := by omega
              clear hm em h0 h1 h2 h3 hr hnm
              go_enter Tryd.func39, Tryd.ntmps39
              go_wp2_with (first | (go_at_call 44; refine (l6In_yes _ _ _ _ (by omega) (by omega)).mono ?_; rintro e w' ⟨rfl, rfl⟩) | (go_at_call 38; refine (HG.out _).mono ?_; rintro e w' ⟨rfl, rfl⟩) | (go_at_call 52; refine (HPw.out _).mono ?_; rintro e w' ⟨rfl, rfl⟩))
              go_ret2
              exact ⟨rfl, .inl ⟨_, HF.out, HL.out, mil_ret HV.out⟩⟩
            · have HG := Lib.hid (show ∀ w', Calls Tryd.prog 38 #[.string s, .int .i64 ((p : Int) + 1), .int .i64 2] w' fun e w'' => e = .returned (.tuple #[.int .i64 0, .bool false]) ∧ w' = w'' from fun w' => DigitsGet_s_no s ((p : Int) + 1) 2 w' HS.out (by omega) (by omega) (fun hg => hr (by
                have := hg.2.2
                rw [show ((p : Int) + 1) = ((p + 1 : Nat) : Int) from by omega, runI_nat] at this
                omega)))
              have hno : ∀ l, ¬ FrOk s p l := fun l hf => by
                rcases hf with ⟨a, -⟩ | ⟨k, a, b, c, d, f, -⟩
                · omega
                · exact hr (by omega)
              have HN := Lib.hid hno
              have hlt : p < s.size := by omega
              clear hno hm em h0 h1 h2 h3 hr
              go_enter Tryd.func39, Tryd.ntmps39
              go_wp2_with (first | (go_at_call 44; refine (l6In_yes _ _ _ _ (by omega) (by omega)).mono ?_; rintro e w' ⟨rfl, rfl⟩) | (go_at_call 38; refine (HG.out _).mono ?_; rintro e w' ⟨rfl, rfl⟩) | (go_at_call 52; refine (HPw.out _).mono ?_; rintro e w' ⟨rfl, rfl⟩))
              go_ret2
              exact ⟨rfl, .inr ⟨HN.out, _, rfl⟩⟩
          · have em' : (s.size : Int) - (p : Int) - 1 = 3 := by omega
            have HPw := Lib.hid (show ∀ w', Calls Tryd.prog 52 #[.int .i64 0] w' fun e w'' => e = .returned (.int .i64 1) ∧ w' = w'' from fun w' => l1Power_any 0 w' (by omega))
            by_cases hr : 3 ≤ runN s (p + 1)
            · have hnm := num_lt hr
              have HG := Lib.hid (show ∀ w', Calls Tryd.prog 38 #[.string s, .int .i64 ((p : Int) + 1), .int .i64 3] w' fun e w'' => e = .returned (.tuple #[.int .i64 (numN s (p + 1) 3 : Nat), .bool true]) ∧ w' = w'' from fun w' => by
                have := DigitsGet_s_yes s (p + 1) 3 w' HS.out (by omega) (by omega) hr
                rw [show ((p + 1 : Nat) : Int) = (p : Int) + 1 from by omega] at this
                exact this)
              have HF := Lib.hid (show FrOk s p (numN s (p + 1) 3 * 10 ^ (3 - 3)) from .inr ⟨3, by omega, by omega, hm, h2, hr, rfl⟩)
              generalize numN s (p + 1) 3 = nn at *
              have hnn : nn < 1000 := by simp at hnm; omega
              have HV := Lib.hid (show (nn : Int) = ((nn * 10 ^ (3 - 3) : Nat) : Int) from by simp)
              have HL := Lib.hid (show nn * 10 ^ (3 - 3) < 1000 from by simp at hnm ⊢; omega)
              have hlt : p < s.size := by omega
              clear hm em h0 h1 h2 h3 hr hnm
              go_enter Tryd.func39, Tryd.ntmps39
              go_wp2_with (first | (go_at_call 44; refine (l6In_yes _ _ _ _ (by omega) (by omega)).mono ?_; rintro e w' ⟨rfl, rfl⟩) | (go_at_call 38; refine (HG.out _).mono ?_; rintro e w' ⟨rfl, rfl⟩) | (go_at_call 52; refine (HPw.out _).mono ?_; rintro e w' ⟨rfl, rfl⟩))
              go_ret2
              exact ⟨rfl, .inl ⟨_, HF.out, HL.out, mil_ret HV.out⟩⟩
            · have HG := Lib.hid (show ∀ w', Calls Tryd.prog 38 #[.string s, .int .i64 ((p : Int) + 1), .int .i64 3] w' fun e w'' => e = .returned (.tuple #[.int .i64 0, .bool false]) ∧ w' = w'' from fun w' => DigitsGet_s_no s ((p : Int) + 1) 3 w' HS.out (by omega) (by omega) (fun hg => hr (by
                have := hg.2.2
                rw [show ((p : Int) + 1) = ((p + 1 : Nat) : Int) from by omega, runI_nat] at this
                omega)))
              have hno : ∀ l, ¬ FrOk s p l := fun l hf => by
                rcases hf with ⟨a, -⟩ | ⟨k, a, b, c, d, f, -⟩
                · omega
                · exact hr (by omega)
              have HN := Lib.hid hno
              have hlt : p < s.size := by omega
              clear hno hm em h0 h1 h2 h3 hr
              go_enter Tryd.func39, Tryd.ntmps39
              go_wp2_with (first | (go_at_call 44; refine (l6In_yes _ _ _ _ (by omega) (by omega)).mono ?_; rintro e w' ⟨rfl, rfl⟩) | (go_at_call 38; refine (HG.out _).mono ?_; rintro e w' ⟨rfl, rfl⟩) | (go_at_call 52; refine (HPw.out _).mono ?_; rintro e w' ⟨rfl, rfl⟩))
              go_ret2
              exact ⟨rfl, .inr ⟨HN.out, _, rfl⟩⟩
        · have hno : ∀ l, ¬ FrOk s p l := fun l hf => by
            rcases hf with ⟨a, -⟩ | ⟨k, a, b, c, -⟩ <;> omega
          have HN := Lib.hid hno
          have H3 := Lib.hid (show (s.size : Int) - (p : Int) - 1 < 1 ∨ 3 < (s.size : Int) - (p : Int) - 1 from by omega)
          have hlt : p < s.size := by omega
          clear hno h0 h1 h2 h3 hm em
          go_enter Tryd.func39, Tryd.ntmps39
          go_wp2_with (first | (go_at_call 44; refine (l6In_no _ _ _ _ H3.out).mono ?_; rintro e w' ⟨rfl, rfl⟩))
          go_ret2
          exact ⟨rfl, .inr ⟨HN.out, _, rfl⟩⟩
      · obtain ⟨y0, y1⟩ := lbf h2
        have hno : ∀ l, ¬ FrOk s p l := fun l hf => by
          rcases hf with ⟨a, -⟩ | ⟨k, a, b, c, d, -⟩
          · omega
          · exact h2 d
        have HN := Lib.hid hno
        have hlt : p < s.size := by omega
        clear hno h0 h1 h2
        go_enter Tryd.func39, Tryd.ntmps39
        go_wp2
        go_ret2
        exact ⟨rfl, .inr ⟨HN.out, _, rfl⟩⟩
end Go.Proofs.YtkdhlgfpnkdbmaaDoor
