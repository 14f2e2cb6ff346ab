/-
  Contracts: the day of the week of a day, the first Monday of a year of weeks, how many weeks a year has. Conditions: as each states.
-/
import Derived.Test.YtjgpfadoebnchaaDoorDate2
import Derived.Test.YtjgpfadoebnchaaDoorWeek0
namespace Go.Proofs.YtjgpfadoebnchaaDoor
open Go.RowKit Go.PlainAid
set_option linter.unusedVariables false

theorem weekdayOf_any (n : Int) (w : World) (h0 : 0 ≤ n) (h1 : n ≤ 9000000) : Calls Tryd.prog 36 #[.int .i64 n] w fun e w' => e = .returned (.int .i64 (Cal.wd n)) ∧ w = w' := by
  go_enter Tryd.func36, Tryd.ntmps36
  go_wp2
  go_ret
  exact ⟨rfl, rfl⟩
theorem firstMonday_any (y : Int) (w : World) (h1 : 1 ≤ y) (h2 : y ≤ 10000) : Calls Tryd.prog 47 #[.int .i64 y] w fun e w' => e = .returned (.int .i64 (Cal.fm y)) ∧ w = w' := by
  have nb := Cal.ny_bd h1 h2
  have wb := Cal.wd_bd (Cal.ny y + 3)
  have HF := Lib.hid (show Cal.ny y + 3 - (Cal.wd (Cal.ny y + 3) - 1) = Cal.fm y from by unfold Cal.fm Cal.wd; omega)
  go_enter Tryd.func47, Tryd.ntmps47
  go_wp2_with (first | (go_at_call 55; refine (newYear_any _ _ h1 h2).mono ?_; rintro e w' ⟨rfl, rfl⟩) | (go_at_call 36; refine (weekdayOf_any _ _ (by omega) (by omega)).mono ?_; rintro e w' ⟨rfl, rfl⟩))
  go_ret
  exact ⟨ret_int HF.out, rfl⟩
theorem l3First_any (y : Int) (w : World) (h1 : 1 ≤ y) (h2 : y ≤ 10000) : Calls Tryd.prog 38 #[.int .i64 y] w fun e w' => e = .returned (.int .i64 (Cal.fm y)) ∧ w = w' := by
  have nb := Cal.ny_bd h1 h2
  have hm0 : 0 ≤ Cal.ny y % 7 := Int.emod_nonneg _ (by omega)
  have hm1 : Cal.ny y % 7 < 7 := Int.emod_lt_of_pos _ (by omega)
  by_cases hc : Cal.ny y % 7 ≤ 3
  · have HF := Lib.hid (show Cal.ny y - Cal.ny y % 7 = Cal.fm y from by unfold Cal.fm; omega)
    go_enter Tryd.func38, Tryd.ntmps38
    go_wp2_with (first | (go_at_call 53; refine (l2Years_any _ _ h1 h2).mono ?_; rintro e w' ⟨rfl, rfl⟩))
    go_ret
    exact ⟨ret_int HF.out, rfl⟩
  · have HF := Lib.hid (show Cal.ny y + 7 - Cal.ny y % 7 = Cal.fm y from by unfold Cal.fm; omega)
    have q : decide (Cal.ny y % 7 ≤ 3) = false := decide_eq_false hc
    go_enter Tryd.func38, Tryd.ntmps38
    go_wp2_with (first | (go_at_call 53; refine (l2Years_any _ _ h1 h2).mono ?_; rintro e w' ⟨rfl, rfl⟩))
    go_ret
    exact ⟨ret_int HF.out, rfl⟩
theorem WeeksOf_i_yes (y : Int) (w : World) (h1 : 1 ≤ y) (h2 : y ≤ 9999) : Calls Tryd.prog 26 #[.int .i64 y] w fun e w' => e = .returned (.int .i64 (Cal.wks y)) ∧ w = w' := by
  have a := Cal.fm_range h1 (by omega)
  have b := Cal.fm_range (y := y + 1) (by omega) (by omega)
  have c := Cal.wks_eq y
  have c2 := Cal.wks_bd h1
  have hd : 0 ≤ Cal.fm (y + 1) - Cal.fm y := by omega
  clear c c2
  have HF := Lib.hid (show (Cal.fm (y + 1) - Cal.fm y) / 7 = Cal.wks y from rfl)
  go_enter Tryd.func26, Tryd.ntmps26
  go_wp2_with (first | (go_at_call 46; refine (yearValid_yes _ _ h1 h2).mono ?_; rintro e w' ⟨rfl, rfl⟩) | (go_at_call 47; refine (firstMonday_any _ _ (by omega) (by omega)).mono ?_; rintro e w' ⟨rfl, rfl⟩))
  go_ret
  exact ⟨ret_int HF.out, rfl⟩
theorem WeeksOf_i_no (y : Int) (w : World) (h : y < 1 ∨ 9999 < y) : Calls Tryd.prog 26 #[.int .i64 y] w fun e w' => e = .returned (.int .i64 0) ∧ w = w' := by
  go_enter Tryd.func26, Tryd.ntmps26
  go_wp2_with (first | (go_at_call 46; refine (yearValid_no _ _ h).mono ?_; rintro e w' ⟨rfl, rfl⟩))
  go_ret
  exact ⟨rfl, rfl⟩
theorem WeeksOf_s_yes (y : Int) (w : World) (h1 : 1 ≤ y) (h2 : y ≤ 9999) : Calls Tryd.prog 27 #[.int .i64 y] w fun e w' => e = .returned (.int .i64 (Cal.wks y)) ∧ w = w' := by
  have a := Cal.fm_range h1 (by omega)
  have b := Cal.fm_range (y := y + 1) (by omega) (by omega)
  have c := Cal.wks_eq y
  have c2 := Cal.wks_bd h1
  have hd : 0 ≤ Cal.fm (y + 1) - Cal.fm y := by omega
  clear c c2
  have HF := Lib.hid (show (Cal.fm (y + 1) - Cal.fm y) / 7 = Cal.wks y from rfl)
  go_enter Tryd.func27, Tryd.ntmps27
  go_wp2_with (first | (go_at_call 39; refine (l6In_yes _ _ _ _ h1 h2).mono ?_; rintro e w' ⟨rfl, rfl⟩) | (go_at_call 38; refine (l3First_any _ _ (by omega) (by omega)).mono ?_; rintro e w' ⟨rfl, rfl⟩))
  go_ret
  exact ⟨ret_int HF.out, rfl⟩
theorem WeeksOf_s_no (y : Int) (w : World) (h : y < 1 ∨ 9999 < y) : Calls Tryd.prog 27 #[.int .i64 y] w fun e w' => e = .returned (.int .i64 0) ∧ w = w' := by
  go_enter Tryd.func27, Tryd.ntmps27
  go_wp2_with (first | (go_at_call 39; refine (l6In_no _ _ _ _ h).mono ?_; rintro e w' ⟨rfl, rfl⟩))
  go_ret
  exact ⟨rfl, rfl⟩
end Go.Proofs.YtjgpfadoebnchaaDoor
