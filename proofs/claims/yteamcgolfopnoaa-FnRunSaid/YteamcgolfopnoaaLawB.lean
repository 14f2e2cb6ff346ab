/-
  The walks of the laws of chapter 1 over what is drawn: each returns true, and nothing that was there is written. No conditions.
-/
import Derived.Test.YteamcgolfopnoaaDig4
import Derived.Test.YteamcgolfopnoaaDrawDig
import Derived.Test.YteamcgolfopnoaaKeep
namespace Go.Proofs.Yteamcgolfopnoaa
open Go.RowKit Go.PlainAid
set_option linter.unusedVariables false

theorem bt2_ {a b : Int} (h : a = b) : (a == b) = true ∧ (a != b) = false := ⟨beq_iff_eq.2 h, by simp [h]⟩
theorem bf2_ {a b : Int} (h : a ≠ b) : (a == b) = false ∧ (a != b) = true := ⟨beq_eq_false_iff_ne.2 h, bne_iff_ne.2 h⟩
theorem put_less {n many : Int} (h : PutOk n many) (h0 : n ≠ 0) : PutOk (n - 1) many ∧ Op.bytesLess (putV (n - 1) many).toList (putV n many).toList = true := by
  obtain ⟨k, m, rfl, rfl, h1, h2, h3, h4, h5⟩ := h.nat
  have e : (k : Int) - 1 = ((k - 1 : Nat) : Int) := by omega
  rw [e]
  refine ⟨⟨by omega, by omega, by omega, by rw [Int.toNat_natCast]; omega⟩, ?_⟩
  rw [ByteArray.toList_eq, ByteArray.toList_eq, putV_nat, putV_nat, bs_data, bs_data]
  exact digL_less m (k - 1) k (by omega) h3
theorem walk_Put (a : Option Addr) (len cap : Nat) (z : List Int) (w : World) (h : IsRow .u8 w a len cap z) : Calls Try.prog 13 #[.slice a len cap] w fun e w' => e = .returned (.bool true) ∧ Below w.heap.size w w' := by
  obtain ⟨hl, hm⟩ := row_len h
  have hB := Bytes.of_row h
  clear h
  have hm' := hm
  unfold maxLen at hm'
  by_cases hbig : (1048576 : Int) < (len : Int)
  · go_enter Try.func13, Try.ntmps13
    go_wp2
    go_ret
    exact ⟨rfl, Below.refl _ _⟩
  · go_enter Try.func13, Try.ntmps13
    go_wp2_with fail
    refine (DrawDigitsPut_any a len cap w hl hm hB).mono ?_
    rintro e w1 ⟨n, many, hn0, hn1, hm0, hm1, rfl, hb1⟩
    clear hB
    by_cases hok : PutOk n many
    · obtain ⟨hg1, hg2, hg3⟩ := put_get hok
      have hsz := putV_size hok
      have hs : (putV n many).size ≤ maxLen := by have := hok.2.1; unfold maxLen; omega
      have HO := Lib.hid hok
      have HG := Lib.hid hg1
      clear hok hg1
      go_wp2_with (first | (go_at_call 23; refine (DigitsPut_i_ok n many _ HO.out).mono ?_; rintro e w2 ⟨rfl, hb2⟩) | (go_at_call 22; refine (DigitsPut_s_ok n many _ HO.out).mono ?_; rintro e w3 ⟨rfl, hb3⟩) | (go_at_call 21; refine (DigitsGet_i_ok (putV n many) 0 many _ hs HG.out).mono ?_; rintro e w4 ⟨rfl, hb4⟩) | (go_at_call 19; refine (DigitsRun_i (putV n many) 0 _ hs (by omega) (by omega)).mono ?_; rintro e w5 ⟨rfl, hb5⟩))
      go_ret
      exact ⟨rfl, below2 (below2 (below2 (below2 hb1 hb2) hb3) hb4) hb5⟩
    · have HO := Lib.hid hok
      clear hok
      go_wp2_with (first | (go_at_call 23; refine (DigitsPut_i_no n many _ HO.out).mono ?_; rintro e w2 ⟨rfl, rfl⟩) | (go_at_call 22; refine (DigitsPut_s_no n many _ HO.out).mono ?_; rintro e w3 ⟨rfl, rfl⟩))
      go_ret
      exact ⟨rfl, hb1⟩
theorem walk_PutMore (a : Option Addr) (len cap : Nat) (z : List Int) (w : World) (h : IsRow .u8 w a len cap z) : Calls Try.prog 9 #[.slice a len cap] w fun e w' => e = .returned (.bool true) ∧ Below w.heap.size w w' := by
  obtain ⟨hl, hm⟩ := row_len h
  have hB := Bytes.of_row h
  clear h
  have hm' := hm
  unfold maxLen at hm'
  by_cases hbig : (1048576 : Int) < (len : Int)
  · go_enter Try.func9, Try.ntmps9
    go_wp2
    go_ret
    exact ⟨rfl, Below.refl _ _⟩
  · go_enter Try.func9, Try.ntmps9
    go_wp2_with fail
    refine (DrawDigitsPut_any a len cap w hl hm hB).mono ?_
    rintro e w1 ⟨n, many, hn0, hn1, hm0, hm1, rfl, hb1⟩
    clear hB
    by_cases hok : PutOk n many
    · by_cases h6 : many = 6
      · have HO := Lib.hid hok
        obtain ⟨q1, q2⟩ := bt2_ h6
        clear hok h6
        go_wp2_with (first | (go_at_call 23; refine (DigitsPut_i_ok n many _ HO.out).mono ?_; rintro e w2 ⟨rfl, hb2⟩) | (go_at_call 22; refine (DigitsPut_s_ok n many _ HO.out).mono ?_; rintro e w3 ⟨rfl, hb3⟩))
        go_ret
        exact ⟨rfl, below2 (below2 hb1 hb2) hb3⟩
      · obtain ⟨hp1, hp2⟩ := put_more hok h6
        obtain ⟨q1, q2⟩ := bf2_ h6
        have hsz := putV_size hok
        have hadd : ∀ W, (Op.stringOp .add ⟨#[48]⟩ (putV n many)).run Try.prog W = .ok (.string (putV n (many + 1))) W := fun W => by rw [run_string_add_sum _ _ _ (by show 1 + _ ≤ _; omega), hp2]
        have HO := Lib.hid hok
        have HP := Lib.hid hp1
        clear hok hp1 hp2 h6 hsz
        go_wp2_with (first | (go_at_call 23; ((with_reducible refine (DigitsPut_i_ok n many _ HO.out).mono ?_); rintro e w2 ⟨rfl, hb2⟩)) | (go_at_call 22; refine (DigitsPut_s_ok n many _ HO.out).mono ?_; rintro e w3 ⟨rfl, hb3⟩) | (go_at_call 23; ((with_reducible refine (DigitsPut_i_ok n (many + 1) _ HP.out).mono ?_); rintro e w4 ⟨rfl, hb4⟩)))
        go_ret
        exact ⟨rfl, below2 (below2 (below2 hb1 hb2) hb3) hb4⟩
    · have HO := Lib.hid hok
      clear hok
      go_wp2_with (first | (go_at_call 23; refine (DigitsPut_i_no n many _ HO.out).mono ?_; rintro e w2 ⟨rfl, rfl⟩) | (go_at_call 22; refine (DigitsPut_s_no n many _ HO.out).mono ?_; rintro e w3 ⟨rfl, rfl⟩))
      go_ret
      exact ⟨rfl, hb1⟩
theorem walk_PutOrder (a : Option Addr) (len cap : Nat) (z : List Int) (w : World) (h : IsRow .u8 w a len cap z) : Calls Try.prog 10 #[.slice a len cap] w fun e w' => e = .returned (.bool true) ∧ Below w.heap.size w w' := by
  obtain ⟨hl, hm⟩ := row_len h
  have hB := Bytes.of_row h
  clear h
  have hm' := hm
  unfold maxLen at hm'
  by_cases hbig : (1048576 : Int) < (len : Int)
  · go_enter Try.func10, Try.ntmps10
    go_wp2
    go_ret
    exact ⟨rfl, Below.refl _ _⟩
  · go_enter Try.func10, Try.ntmps10
    go_wp2_with fail
    refine (DrawDigitsPut_any a len cap w hl hm hB).mono ?_
    rintro e w1 ⟨n, many, hn0, hn1, hm0, hm1, rfl, hb1⟩
    clear hB
    by_cases hok : PutOk n many
    · by_cases h0 : n = 0
      · have HO := Lib.hid hok
        obtain ⟨q1, q2⟩ := bt2_ h0
        clear hok h0
        go_wp2_with (first | (go_at_call 23; refine (DigitsPut_i_ok n many _ HO.out).mono ?_; rintro e w2 ⟨rfl, hb2⟩) | (go_at_call 22; refine (DigitsPut_s_ok n many _ HO.out).mono ?_; rintro e w3 ⟨rfl, hb3⟩))
        go_ret
        exact ⟨rfl, below2 (below2 hb1 hb2) hb3⟩
      · obtain ⟨hp1, hp2⟩ := put_less hok h0
        obtain ⟨q1, q2⟩ := bf2_ h0
        have HO := Lib.hid hok
        have HP := Lib.hid hp1
        clear hok hp1 h0
        go_wp2_with (first | (go_at_call 23; ((with_reducible refine (DigitsPut_i_ok n many _ HO.out).mono ?_); rintro e w2 ⟨rfl, hb2⟩)) | (go_at_call 22; refine (DigitsPut_s_ok n many _ HO.out).mono ?_; rintro e w3 ⟨rfl, hb3⟩) | (go_at_call 23; ((with_reducible refine (DigitsPut_i_ok (n - 1) many _ HP.out).mono ?_); rintro e w4 ⟨rfl, hb4⟩)))
        go_ret
        exact ⟨rfl, below2 (below2 (below2 hb1 hb2) hb3) hb4⟩
    · have HO := Lib.hid hok
      clear hok
      go_wp2_with (first | (go_at_call 23; refine (DigitsPut_i_no n many _ HO.out).mono ?_; rintro e w2 ⟨rfl, rfl⟩) | (go_at_call 22; refine (DigitsPut_s_no n many _ HO.out).mono ?_; rintro e w3 ⟨rfl, rfl⟩))
      go_ret
      exact ⟨rfl, hb1⟩
theorem walk_GetRun (a : Option Addr) (len cap : Nat) (z : List Int) (w : World) (h : IsRow .u8 w a len cap z) : Calls Try.prog 12 #[.slice a len cap] w fun e w' => e = .returned (.bool true) ∧ Below w.heap.size w w' := by
  obtain ⟨hl, hm⟩ := row_len h
  have hB := Bytes.of_row h
  clear h
  have hm' := hm
  unfold maxLen at hm'
  by_cases hbig : (1048576 : Int) < (len : Int)
  · go_enter Try.func12, Try.ntmps12
    go_wp2
    go_ret
    exact ⟨rfl, Below.refl _ _⟩
  · go_enter Try.func12, Try.ntmps12
    go_wp2_with fail
    refine (DrawDigitsGet_any a len cap w hl hm hB).mono ?_
    rintro e w1 ⟨s, p, many, hs0, hp0, hp1, hm0, hm1, rfl, hb1⟩
    clear hB
    have hs : s.size ≤ maxLen := by unfold maxLen; omega
    by_cases hok : GetOk s p many
    · have hbd := getV_bd hok
      have hmr : many ≤ (runI s p : Nat) := hok.2.2
      have HO := Lib.hid hok
      clear hok
      go_wp2_with (first | (go_at_call 21; refine (DigitsGet_i_ok s p many _ hs HO.out).mono ?_; rintro e w2 ⟨rfl, hb2⟩) | (go_at_call 20; refine (DigitsGet_s_ok s p many _ hs HO.out).mono ?_; rintro e w3 ⟨rfl, rfl⟩) | (go_at_call 19; refine (DigitsRun_i s p _ hs (by omega) (by omega)).mono ?_; rintro e w4 ⟨rfl, hb4⟩))
      go_ret
      exact ⟨by first | rfl | simp [hmr], below2 (below2 hb1 hb2) hb4⟩
    · have HO := Lib.hid hok
      clear hok
      go_wp2_with (first | (go_at_call 21; refine (DigitsGet_i_no s p many _ hs (by omega) (by omega) HO.out).mono ?_; rintro e w2 ⟨rfl, hb2⟩) | (go_at_call 20; refine (DigitsGet_s_no s p many _ hs (by omega) (by omega) HO.out).mono ?_; rintro e w3 ⟨rfl, rfl⟩))
      go_ret
      exact ⟨rfl, below2 hb1 hb2⟩
theorem walk_GetFewer (a : Option Addr) (len cap : Nat) (z : List Int) (w : World) (h : IsRow .u8 w a len cap z) : Calls Try.prog 11 #[.slice a len cap] w fun e w' => e = .returned (.bool true) ∧ Below w.heap.size w w' := by
  obtain ⟨hl, hm⟩ := row_len h
  have hB := Bytes.of_row h
  clear h
  have hm' := hm
  unfold maxLen at hm'
  by_cases hbig : (1048576 : Int) < (len : Int)
  · go_enter Try.func11, Try.ntmps11
    go_wp2
    go_ret
    exact ⟨rfl, Below.refl _ _⟩
  · go_enter Try.func11, Try.ntmps11
    go_wp2_with fail
    refine (DrawDigitsGet_any a len cap w hl hm hB).mono ?_
    rintro e w1 ⟨s, p, many, hs0, hp0, hp1, hm0, hm1, rfl, hb1⟩
    clear hB
    have hs : s.size ≤ maxLen := by unfold maxLen; omega
    by_cases hok : GetOk s p many
    · have hbd := getV_bd hok
      by_cases h1 : many = 1
      · have HO := Lib.hid hok
        obtain ⟨q1, q2⟩ := bt2_ h1
        clear hok h1
        go_wp2_with (first | (go_at_call 21; refine (DigitsGet_i_ok s p many _ hs HO.out).mono ?_; rintro e w2 ⟨rfl, hb2⟩) | (go_at_call 20; refine (DigitsGet_s_ok s p many _ hs HO.out).mono ?_; rintro e w3 ⟨rfl, rfl⟩))
        go_ret
        exact ⟨rfl, below2 hb1 hb2⟩
      · obtain ⟨hf1, hf2⟩ := get_fewer hok h1
        obtain ⟨q1, q2⟩ := bf2_ h1
        have HO := Lib.hid hok
        have HF := Lib.hid hf1
        clear hok hf1 h1
        go_wp2_with (first | (go_at_call 21; ((with_reducible refine (DigitsGet_i_ok s p (many - 1) _ hs HF.out).mono ?_); rintro e w4 ⟨rfl, hb4⟩)) | (go_at_call 21; ((with_reducible refine (DigitsGet_i_ok s p many _ hs HO.out).mono ?_); rintro e w2 ⟨rfl, hb2⟩)) | (go_at_call 20; refine (DigitsGet_s_ok s p many _ hs HO.out).mono ?_; rintro e w3 ⟨rfl, rfl⟩))
        go_ret
        exact ⟨rfl, below2 (below2 hb1 hb2) hb4⟩
    · have HO := Lib.hid hok
      clear hok
      go_wp2_with (first | (go_at_call 21; refine (DigitsGet_i_no s p many _ hs (by omega) (by omega) HO.out).mono ?_; rintro e w2 ⟨rfl, hb2⟩) | (go_at_call 20; refine (DigitsGet_s_no s p many _ hs (by omega) (by omega) HO.out).mono ?_; rintro e w3 ⟨rfl, rfl⟩))
      go_ret
      exact ⟨rfl, below2 hb1 hb2⟩
theorem walk_Get (a : Option Addr) (len cap : Nat) (z : List Int) (w : World) (h : IsRow .u8 w a len cap z) : Calls Try.prog 14 #[.slice a len cap] w fun e w' => e = .returned (.bool true) ∧ Below w.heap.size w w' := by
  obtain ⟨hl, hm⟩ := row_len h
  have hB := Bytes.of_row h
  clear h
  have hm' := hm
  unfold maxLen at hm'
  by_cases hbig : (1048576 : Int) < (len : Int)
  · go_enter Try.func14, Try.ntmps14
    go_wp2
    go_ret
    exact ⟨rfl, Below.refl _ _⟩
  · go_enter Try.func14, Try.ntmps14
    go_wp2_with fail
    refine (DrawDigitsGet_any a len cap w hl hm hB).mono ?_
    rintro e w1 ⟨s, p, many, hs0, hp0, hp1, hm0, hm1, rfl, hb1⟩
    clear hB
    have hs : s.size ≤ maxLen := by unfold maxLen; omega
    by_cases hok : GetOk s p many
    · have hbd := getV_bd hok
      obtain ⟨hf1, hf2⟩ := get_put hok
      have HO := Lib.hid hok
      have HF := Lib.hid hf1
      obtain ⟨k, m, rfl, rfl, h2, h3, h4, h5⟩ := hok.nat
      clear hok hf1
      rw [Int.toNat_natCast, Int.toNat_natCast] at hf2
      go_wp2_with (first | (go_at_call 21; refine (DigitsGet_i_ok s _ _ _ hs HO.out).mono ?_; rintro e w2 ⟨rfl, hb2⟩) | (go_at_call 20; refine (DigitsGet_s_ok s _ _ _ hs HO.out).mono ?_; rintro e w3 ⟨rfl, rfl⟩) | (go_at_call 23; refine (DigitsPut_i_ok _ _ _ HF.out).mono ?_; rintro e w4 ⟨rfl, hb4⟩))
      go_ret
      exact ⟨rfl, below2 (below2 hb1 hb2) hb4⟩
    · have HO := Lib.hid hok
      clear hok
      go_wp2_with (first | (go_at_call 21; refine (DigitsGet_i_no s p many _ hs (by omega) (by omega) HO.out).mono ?_; rintro e w2 ⟨rfl, hb2⟩) | (go_at_call 20; refine (DigitsGet_s_no s p many _ hs (by omega) (by omega) HO.out).mono ?_; rintro e w3 ⟨rfl, rfl⟩))
      go_ret
      exact ⟨rfl, below2 hb1 hb2⟩
theorem walk_Run (a : Option Addr) (len cap : Nat) (z : List Int) (w : World) (h : IsRow .u8 w a len cap z) : Calls Try.prog 8 #[.slice a len cap] w fun e w' => e = .returned (.bool true) ∧ Below w.heap.size w w' := by
  obtain ⟨hl, hm⟩ := row_len h
  have hB := Bytes.of_row h
  clear h
  have hm' := hm
  unfold maxLen at hm'
  by_cases hbig : (1048576 : Int) < (len : Int)
  · go_enter Try.func8, Try.ntmps8
    go_wp2
    go_ret
    exact ⟨rfl, Below.refl _ _⟩
  · go_enter Try.func8, Try.ntmps8
    go_wp2_with fail
    refine (DrawDigitsRun_any a len cap w hl hm hB).mono ?_
    rintro e w1 ⟨s, p, hs0, hp0, hp1, rfl, hb1⟩
    clear hB
    have hs : s.size ≤ maxLen := by unfold maxLen; omega
    have hle := runI_le s p
    by_cases h0 : runI s p = 0
    · obtain ⟨q1, q2⟩ := bt2_ (show ((runI s p : Nat) : Int) = 0 from by omega)
      by_cases hneg : p < 0
      · clear h0
        go_wp2_with (first | (go_at_call 19; ((with_reducible refine (DigitsRun_i s p _ hs (by omega) (by omega)).mono ?_); rintro e w2 ⟨rfl, hb2⟩)) | (go_at_call 18; refine (DigitsRun_s s p _ hs (by omega) (by omega)).mono ?_; rintro e w3 ⟨rfl, rfl⟩))
        go_ret
        exact ⟨by simp_all, below2 hb1 hb2⟩
      · obtain ⟨k, rfl⟩ := Int.eq_ofNat_of_zero_le (show 0 ≤ p from by omega)
        have hnd : ¬ digAt s k := fun hd => by
          rw [runI_nat, runN_yes hd] at h0
          omega
        clear h0
        have hbt := get_bt s
        by_cases hk : (s.size : Int) ≤ (k : Int)
        · clear hnd
          go_wp2_with (first | (go_at_call 19; ((with_reducible refine (DigitsRun_i s _ _ hs (by omega) (by omega)).mono ?_); rintro e w2 ⟨rfl, hb2⟩)) | (go_at_call 18; refine (DigitsRun_s s _ _ hs (by omega) (by omega)).mono ?_; rintro e w3 ⟨rfl, rfl⟩))
          go_ret
          exact ⟨rfl, below2 hb1 hb2⟩
        · have hk2 : (k : Int) < (s.size : Int) := by omega
          have hk3 : k < s.size := by omega
          unfold digAt at hnd
          by_cases h48 : bt s k < 48
          · clear hnd
            go_wp2_with (first | (go_at_call 19; ((with_reducible refine (DigitsRun_i s _ _ hs (by omega) (by omega)).mono ?_); rintro e w2 ⟨rfl, hb2⟩)) | (go_at_call 18; refine (DigitsRun_s s _ _ hs (by omega) (by omega)).mono ?_; rintro e w3 ⟨rfl, rfl⟩))
            go_ret
            exact ⟨rfl, below2 hb1 hb2⟩
          · have h57 : 57 < bt s k := by omega
            have h47 : 48 ≤ bt s k := by omega
            clear hnd
            go_wp2_with (first | (go_at_call 19; ((with_reducible refine (DigitsRun_i s _ _ hs (by omega) (by omega)).mono ?_); rintro e w2 ⟨rfl, hb2⟩)) | (go_at_call 18; refine (DigitsRun_s s _ _ hs (by omega) (by omega)).mono ?_; rintro e w3 ⟨rfl, rfl⟩))
            go_ret
            exact ⟨rfl, below2 hb1 hb2⟩
    · obtain ⟨q1, q2⟩ := bf2_ (show ((runI s p : Nat) : Int) ≠ 0 from by omega)
      have hp : 0 ≤ p := by
        by_cases hp : 0 ≤ p
        · exact hp
        · exact absurd (show runI s p = 0 from by unfold runI; rw [if_neg hp]) h0
      obtain ⟨k, rfl⟩ := Int.eq_ofNat_of_zero_le hp
      have hd : digAt s k := by
        by_cases hd : digAt s k
        · exact hd
        · exact absurd (by rw [runI_nat, runN_no hd]) h0
      have hr1 : ((runI s ((k : Int) + 1) : Nat) : Int) = ((runI s (k : Int) : Nat) : Int) - 1 := by
        rw [show (k : Int) + 1 = ((k + 1 : Nat) : Int) from by omega, runI_nat, runI_nat, runN_yes hd]
        omega
      have hr2 : runI s ((k : Int) + ((runI s (k : Int) : Nat) : Int)) = 0 := by
        rw [runI_nat, show (k : Int) + ((runN s k : Nat) : Int) = ((k + runN s k : Nat) : Int) from by omega, runI_nat, runN_no (runN_end s k)]
      clear h0 hd hp
      go_wp2_with (first | (go_at_call 19; ((with_reducible refine (DigitsRun_i s (k : Int) _ hs (by omega) (by omega)).mono ?_); rintro e w2 ⟨rfl, hb2⟩)) | (go_at_call 18; refine (DigitsRun_s s (k : Int) _ hs (by omega) (by omega)).mono ?_; rintro e w3 ⟨rfl, rfl⟩) | (go_at_call 19; ((with_reducible refine (DigitsRun_i s ((k : Int) + 1) _ hs (by omega) (by omega)).mono ?_); rintro e w4 ⟨rfl, hb4⟩)) | (go_at_call 19; ((with_reducible refine (DigitsRun_i s ((k : Int) + ((runI s (k : Int) : Nat) : Int)) _ hs (by omega) (by omega)).mono ?_); rintro e w5 ⟨rfl, hb5⟩)))
      go_ret
      exact ⟨rfl, below2 (below2 (below2 hb1 hb2) hb4) hb5⟩
end Go.Proofs.Yteamcgolfopnoaa
