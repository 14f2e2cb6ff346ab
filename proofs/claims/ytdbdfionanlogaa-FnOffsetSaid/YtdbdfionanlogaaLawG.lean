/-
  The walks of laws on offsets' texts that are drawn: each returns true, and nothing that was there is written. Conditions: none beyond the row's.
-/
import Derived.Test.YtdbdfionanlogaaLawF
namespace Go.Proofs.Ytdbdfionanlogaa
open Go.RowKit Go.PlainAid
set_option linter.unusedVariables false

theorem walk_OffsetWhen (a : Option Addr) (len cap : Nat) (z : List Int) (w : World) (h : IsRow .u8 w a len cap z) : Calls Try.prog 8 #[.slice a len cap] w fun e w' => e = .returned (.bool true) ∧ Below w.heap.size w w' := by
  obtain ⟨hl, hm⟩ := row_len h
  have hB := Bytes.of_row h
  clear h
  have hm' := hm
  unfold maxLen at hm'
  by_cases hbig : (1048576 : Int) < (len : Int)
  · go_enter Try.func8, Try.ntmps8
    go_wp2
    go_ret
    exact ⟨rfl, Below.refl _ _⟩
  · go_enter Try.func8, Try.ntmps8
    go_wp2_with fail
    refine (DrawOffsetText_any a len cap w hl hm hB).mono ?_
    rintro e w1 ⟨n, n0, n1, rfl, hb1⟩
    clear hB
    by_cases hno : n < -1439 ∨ 1439 < n
    · have HN := Lib.hid hno
      go_wp2_with fail
      refine (OffsetText_i_no _ _ HN.out).mono ?_
      rintro e w2 ⟨rfl, hb2⟩
      have hb12 := below2 hb1 hb2
      clear hb1 hb2
      go_wp2_with fail
      refine (OffsetText_s_no _ _ HN.out).mono ?_
      rintro e w3 ⟨rfl, hb3⟩
      have hb13 := below2 hb12 hb3
      clear hb12 hb3
      have e0 : (bs []).toList.isEmpty = true := by rw [ByteArray.toList_eq, bs_data]; rfl
      rcases hno with hno | hno
      · have q := decf (show ¬ 1439 < n by omega)
        have q2 := dect (show n < -1439 by omega)
        go_wp2_with fail
        go_ret
        exact ⟨rfl, hb13⟩
      · have q := dect (show 1439 < n by omega)
        go_wp2_with fail
        go_ret
        exact ⟨rfl, hb13⟩
    · have q := decf (show ¬ 1439 < n by omega)
      have q2 := decf (show ¬ n < -1439 by omega)
      have hc : ∃ t : ByteArray, t.toList.isEmpty = false ∧ (∀ w', Calls Try.prog 13 #[.int .i64 n] w' fun e w'' => e = .returned (.string t) ∧ Below w'.heap.size w' w'') ∧ (∀ w', Calls Try.prog 14 #[.int .i64 n] w' fun e w'' => e = .returned (.string t) ∧ Below w'.heap.size w' w'') := by
        have hP : ∀ c k, (offP3 c k).toList.isEmpty = false := fun c k => by rw [ByteArray.toList_eq, offP3, bs_data]; rfl
        rcases off_cases n with h | rfl | ⟨k, rfl, h1, h2⟩ | ⟨k, rfl, h1, h2⟩
        · exact absurd h hno
        · exact ⟨_, by rw [ByteArray.toList_eq, bs_data]; rfl, fun w' => OffsetText_s_zero w', fun w' => OffsetText_i_zero w'⟩
        · exact ⟨_, hP _ _, fun w' => OffsetText_s_pos k w' h1 h2, fun w' => OffsetText_i_pos k w' h1 h2⟩
        · exact ⟨_, hP _ _, fun w' => OffsetText_s_neg k w' h1 h2, fun w' => OffsetText_i_neg k w' h1 h2⟩
      obtain ⟨t, ht, hs, hi⟩ := hc
      have HS := Lib.hid hs
      have HI := Lib.hid hi
      clear hs hi hno
      go_wp2_with fail
      refine (HI.out _).mono ?_
      rintro e w2 ⟨rfl, hb2⟩
      have hb12 := below2 hb1 hb2
      clear hb1 hb2
      go_wp2_with fail
      refine (HS.out _).mono ?_
      rintro e w3 ⟨rfl, hb3⟩
      have hb13 := below2 hb12 hb3
      clear hb12 hb3
      go_wp2_with fail
      go_ret
      exact ⟨rfl, hb13⟩
end Go.Proofs.Ytdbdfionanlogaa
