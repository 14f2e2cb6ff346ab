/-
  Contracts of the reading of an offset's text, once more: by the reference, and at texts that are none. Conditions: as each states.
-/
import Derived.Test.YtoccmbbkjbjhpaaOff3
namespace Go.Proofs.Ytoccmbbkjbjhpaa
open Go.RowKit Go.PlainAid
set_option linter.unusedVariables false

theorem odt_ {a b : Int} (h : a = b) : (a == b) = true ∧ (a != b) = false := ⟨beq_iff_eq.2 h, by simp [h]⟩
theorem odf_ {a b : Int} (h : a ≠ b) : (a == b) = false ∧ (a != b) = true := ⟨beq_eq_false_iff_ne.2 h, bne_iff_ne.2 h⟩
theorem toList_ne {s : ByteArray} {l : List UInt8} (h : s ≠ bs l) : (s.toList == l) = false := by
  rw [beq_eq_false_iff_ne, ByteArray.toList_eq]
  intro e
  exact h (by rw [← bs_of s, e])
theorem toList_ne2 {t s : ByteArray} (h : t ≠ s) : (t.toList == s.toList) = false := by
  rw [ByteArray.toList_eq s]
  exact toList_ne (by rw [bs_of]; exact h)
theorem off_zero : offP3 43 0 = bs [43, 48, 48, 58, 48, 48] := rfl
/-- No text of an offset. -/
def OffBad (s : ByteArray) : Prop := s ≠ bs [90] ∧ s ≠ bs [122] ∧ s ≠ offP3 43 0 ∧ ∀ (c : UInt8) (k : Nat), 1 ≤ k → k ≤ 1439 → (c = 43 ∨ c = 45) → s ≠ offP3 c k
theorem off_split (s : ByteArray) : s = bs [90] ∨ s = bs [122] ∨ s = offP3 43 0 ∨ (∃ k : Nat, 1 ≤ k ∧ k ≤ 1439 ∧ s = offP3 43 k) ∨ (∃ k : Nat, 1 ≤ k ∧ k ≤ 1439 ∧ s = offP3 45 k) ∨ OffBad s := by
  by_cases h1 : s = bs [90]
  · exact .inl h1
  · by_cases h2 : s = bs [122]
    · exact .inr (.inl h2)
    · by_cases h3 : s = offP3 43 0
      · exact .inr (.inr (.inl h3))
      · by_cases h4 : ∃ k : Nat, 1 ≤ k ∧ k ≤ 1439 ∧ s = offP3 43 k
        · exact .inr (.inr (.inr (.inl h4)))
        · by_cases h5 : ∃ k : Nat, 1 ≤ k ∧ k ≤ 1439 ∧ s = offP3 45 k
          · exact .inr (.inr (.inr (.inr (.inl h5))))
          · refine .inr (.inr (.inr (.inr (.inr ⟨h1, h2, h3, ?_⟩))))
            intro c k k1 k2 hc e
            rcases hc with rfl | rfl
            · exact h4 ⟨k, k1, k2, e⟩
            · exact h5 ⟨k, k1, k2, e⟩
theorem bt_zero {s : ByteArray} {c : UInt8} (h : s.data.toList[0]? = some c) : bt s 0 = (c.toNat : Int) := by
  have e := bs_of s
  rw [← e, bt_bs]
  cases hl : s.data.toList with
  | nil => rw [hl] at h; simp at h
  | cons a t => rw [hl] at h; simp at h; subst h; simp
theorem bt_get {s : ByteArray} {k : Nat} {v : UInt8} (hk : k < s.size) (h : bt s k = (v.toNat : Int)) : s.data.toList[k]? = some v := by
  have e := bs_of s
  have hl : k < s.data.toList.length := by rw [Array.length_toList]; exact hk
  rw [← e, bt_bs, dif_pos hl] at h
  rw [List.getElem?_eq_getElem hl]
  congr 1
  apply UInt8.toNat_inj.1
  omega
/-- A text whose parts read as an offset, and that is none, has another sign; or it is less than nothing. -/
theorem off_sign {s : ByteArray} (hb : OffBad s) (h6 : s.size = 6) (h1 : GetOk s 1 2) (h4 : GetOk s 4 2) (h3 : bt s 3 = 58) (hh : getV s 1 2 ≤ 23) (hm : getV s 4 2 ≤ 59) :
    bt s 0 ≠ 43 ∧ (bt s 0 = 45 → 60 * getV s 1 2 + getV s 4 2 = 0) := by
  obtain ⟨c, hc, e⟩ := off_of_parts s h6 h1 h4 (bt_get (by omega) h3) hh hm
  have hz := bt_zero hc
  have b1 := (getV_bd h1).1
  have b4 := (getV_bd h4).1
  obtain ⟨-, -, z0, zz⟩ := hb
  constructor
  · intro h43
    have hc43 : c = 43 := by
      apply UInt8.toNat_inj.1
      have : ((43 : UInt8).toNat : Int) = 43 := rfl
      omega
    by_cases hn : 60 * getV s 1 2 + getV s 4 2 = 0
    · rw [hn, hc43] at e
      exact z0 e
    · exact zz c _ (by omega) (by omega) (.inl hc43) e
  · intro h45
    have hc45 : c = 45 := by
      apply UInt8.toNat_inj.1
      have : ((45 : UInt8).toNat : Int) = 45 := rfl
      omega
    by_cases hn : 60 * getV s 1 2 + getV s 4 2 = 0
    · exact hn
    · exact absurd e (zz c _ (by omega) (by omega) (.inr hc45))
theorem OffsetFrom_s_lit (c : UInt8) (h : c = 90 ∨ c = 122) (w : World) : Calls Try.prog 4 #[.string (bs [c])] w fun e w' => e = .returned (.tuple #[.int .i64 0, .bool true]) ∧ w = w' := by
  rcases h with rfl | rfl
  · have q1 : ((bs [90]).toList == [90]) = true := by rw [ByteArray.toList_eq, bs_data]; rfl
    go_enter Try.func4, Try.ntmps4
    go_wp2
    go_ret2
    exact ⟨rfl, rfl⟩
  · have q1 : ((bs [122]).toList == [90]) = false := by rw [ByteArray.toList_eq, bs_data]; rfl
    have q2 : ((bs [122]).toList == [122]) = true := by rw [ByteArray.toList_eq, bs_data]; rfl
    go_enter Try.func4, Try.ntmps4
    go_wp2
    go_ret2
    exact ⟨rfl, rfl⟩
theorem OffsetFrom_s_pos (k : Nat) (w : World) (h2 : k ≤ 1439) : Calls Try.prog 4 #[.string (offP3 43 k)] w fun e w' => e = .returned (.tuple #[.int .i64 (k : Int), .bool true]) ∧ w = w' := by
  obtain ⟨c, hc⟩ : ∃ c : UInt8, c = 43 := ⟨_, rfl⟩
  rw [← hc]
  have s6 := offP3_six c k
  have hs : (offP3 c k).size ≤ maxLen := by rw [s6]; decide
  obtain ⟨o1, v1⟩ := offP3_get1 c k h2
  obtain ⟨o4, v4⟩ := offP3_get4 c k
  have c1 : ∀ w', Calls Try.prog 6 #[.string (offP3 c k), .int .i64 1, .int .i64 2] w' fun e w'' => e = .returned (.tuple #[.int .i64 ((k : Int) / 60), .bool true]) ∧ w' = w'' := fun w' => by
    have := DigitsGet_s_ok _ 1 2 w' hs o1
    rw [v1, show ((k / 60 : Nat) : Int) = (k : Int) / 60 by omega] at this
    exact this
  have c4 : ∀ w', Calls Try.prog 6 #[.string (offP3 c k), .int .i64 4, .int .i64 2] w' fun e w'' => e = .returned (.tuple #[.int .i64 ((k : Int) % 60), .bool true]) ∧ w' = w'' := fun w' => by
    have := DigitsGet_s_ok _ 4 2 w' hs o4
    rw [v4, show ((k % 60 : Nat) : Int) = (k : Int) % 60 by omega] at this
    exact this
  have C1 := Lib.hid c1
  have C4 := Lib.hid c4
  clear c1 c4 v1 v4 o1 o4 hs
  have q1 := offP3_ne1 c 90 k
  have q2 := offP3_ne1 c 122 k
  have z3 := offP3_at3 c k (by omega)
  have z0 := congrArg (fun t : UInt8 => (t.toNat : Int)) (offP3_at0 c k (by omega))
  have e60 : 60 * ((k : Int) / 60) + (k : Int) % 60 = (k : Int) := by omega
  subst hc
  go_enter Try.func4, Try.ntmps4
  go_wp2_with (first
    | (go_at_call 6; ((with_reducible refine (C1.out _).mono ?_); rintro e w1 ⟨rfl, rfl⟩))
    | (go_at_call 6; ((with_reducible refine (C4.out _).mono ?_); rintro e w2 ⟨rfl, rfl⟩))
    | (go_at_call 7; (refine (l6In_yes _ _ _ _ (by omega) (by omega)).mono ?_; rintro e w3 ⟨rfl, rfl⟩)))
  go_ret2
  exact ⟨rfl, rfl⟩
theorem OffsetFrom_s_neg (k : Nat) (w : World) (h1 : 1 ≤ k) (h2 : k ≤ 1439) : Calls Try.prog 4 #[.string (offP3 45 k)] w fun e w' => e = .returned (.tuple #[.int .i64 (-(k : Int)), .bool true]) ∧ w = w' := by
  obtain ⟨c, hc⟩ : ∃ c : UInt8, c = 45 := ⟨_, rfl⟩
  rw [← hc]
  have s6 := offP3_six c k
  have hs : (offP3 c k).size ≤ maxLen := by rw [s6]; decide
  obtain ⟨o1, v1⟩ := offP3_get1 c k h2
  obtain ⟨o4, v4⟩ := offP3_get4 c k
  have c1 : ∀ w', Calls Try.prog 6 #[.string (offP3 c k), .int .i64 1, .int .i64 2] w' fun e w'' => e = .returned (.tuple #[.int .i64 ((k : Int) / 60), .bool true]) ∧ w' = w'' := fun w' => by
    have := DigitsGet_s_ok _ 1 2 w' hs o1
    rw [v1, show ((k / 60 : Nat) : Int) = (k : Int) / 60 by omega] at this
    exact this
  have c4 : ∀ w', Calls Try.prog 6 #[.string (offP3 c k), .int .i64 4, .int .i64 2] w' fun e w'' => e = .returned (.tuple #[.int .i64 ((k : Int) % 60), .bool true]) ∧ w' = w'' := fun w' => by
    have := DigitsGet_s_ok _ 4 2 w' hs o4
    rw [v4, show ((k % 60 : Nat) : Int) = (k : Int) % 60 by omega] at this
    exact this
  have C1 := Lib.hid c1
  have C4 := Lib.hid c4
  clear c1 c4 v1 v4 o1 o4 hs
  have q1 := offP3_ne1 c 90 k
  have q2 := offP3_ne1 c 122 k
  have z3 := offP3_at3 c k (by omega)
  have z0 := congrArg (fun t : UInt8 => (t.toNat : Int)) (offP3_at0 c k (by omega))
  have e60 : 60 * ((k : Int) / 60) + (k : Int) % 60 = (k : Int) := by omega
  subst hc
  go_enter Try.func4, Try.ntmps4
  go_wp2_with (first
    | (go_at_call 6; ((with_reducible refine (C1.out _).mono ?_); rintro e w1 ⟨rfl, rfl⟩))
    | (go_at_call 6; ((with_reducible refine (C4.out _).mono ?_); rintro e w2 ⟨rfl, rfl⟩))
    | (go_at_call 7; (refine (l6In_yes _ _ _ _ (by omega) (by omega)).mono ?_; rintro e w3 ⟨rfl, rfl⟩)))
  go_ret2
  exact ⟨rfl, rfl⟩
theorem get_any_s (s : ByteArray) (a : Int) (hs : s.size ≤ maxLen) (ha : -9223372036854775808 ≤ a) (ha2 : a ≤ 9223372036854775807) : ∃ (v : Int) (b : Bool), 0 ≤ v ∧ v ≤ 999999 ∧ (∀ w', Calls Try.prog 6 #[.string s, .int .i64 a, .int .i64 2] w' fun e w'' => e = .returned (.tuple #[.int .i64 v, .bool b]) ∧ w' = w'') ∧ (b = true → GetOk s a 2 ∧ v = getV s a 2) := by
  by_cases h : GetOk s a 2
  · exact ⟨getV s a 2, true, (getV_bd h).1, (getV_bd h).2, fun w' => DigitsGet_s_ok s a 2 w' hs h, fun _ => ⟨h, rfl⟩⟩
  · exact ⟨0, false, by omega, by omega, fun w' => DigitsGet_s_no s a 2 w' hs ha ha2 h, fun h => by cases h⟩
theorem get_any_i (s : ByteArray) (a : Int) (hs : s.size ≤ maxLen) (ha : -9223372036854775808 ≤ a) (ha2 : a ≤ 9223372036854775807) : ∃ (v : Int) (b : Bool), 0 ≤ v ∧ v ≤ 999999 ∧ (∀ w', Calls Try.prog 8 #[.string s, .int .i64 a, .int .i64 2] w' fun e w'' => e = .returned (.tuple #[.int .i64 v, .bool b]) ∧ Below w'.heap.size w' w'') ∧ (b = true → GetOk s a 2 ∧ v = getV s a 2) := by
  by_cases h : GetOk s a 2
  · exact ⟨getV s a 2, true, (getV_bd h).1, (getV_bd h).2, fun w' => DigitsGet_i_ok s a 2 w' hs h, fun _ => ⟨h, rfl⟩⟩
  · exact ⟨0, false, by omega, by omega, fun w' => DigitsGet_i_no s a 2 w' hs ha ha2 h, fun h => by cases h⟩
theorem OffsetFrom_s_bad (s : ByteArray) (w : World) (hs : s.size ≤ maxLen) (hb : OffBad s) : Calls Try.prog 4 #[.string s] w fun e w' => e = .returned (.tuple #[.int .i64 0, .bool false]) ∧ w = w' := by
  obtain ⟨v1, b1, x1, y1, c1, g1⟩ := get_any_s s 1 hs (by decide) (by decide)
  obtain ⟨v4, b4, x4, y4, c4, g4⟩ := get_any_s s 4 hs (by decide) (by decide)
  have C1 := Lib.hid c1
  have C4 := Lib.hid c4
  have q1 := toList_ne hb.1
  have q2 := toList_ne hb.2.1
  have HB := Lib.hid hb
  have hgb := get_bt s
  unfold maxLen at hs
  clear hb c1 c4
  by_cases h6 : s.size = 6
  · obtain ⟨z6, z6'⟩ := odt_ (show (s.size : Int) = 6 from by omega)
    cases b1
    · clear g1 g4
      go_enter Try.func4, Try.ntmps4
      go_wp2_with (first
        | (go_at_call 6; ((with_reducible refine (C1.out _).mono ?_); rintro e w1 ⟨rfl, rfl⟩))
        | (go_at_call 6; ((with_reducible refine (C4.out _).mono ?_); rintro e w2 ⟨rfl, rfl⟩))
        | (go_at_call 7; refine (l6In_yes _ _ _ _ (by omega) (by omega)).mono ?_; rintro e w' ⟨rfl, rfl⟩) | (go_at_call 7; refine (l6In_no _ _ _ _ (by omega)).mono ?_; rintro e w' ⟨rfl, rfl⟩))
      go_ret2
      exact ⟨rfl, rfl⟩
    · obtain ⟨o1, e1⟩ := g1 rfl
      clear g1
      cases b4
      · clear g4 o1
        go_enter Try.func4, Try.ntmps4
        go_wp2_with (first
          | (go_at_call 6; ((with_reducible refine (C1.out _).mono ?_); rintro e w1 ⟨rfl, rfl⟩))
          | (go_at_call 6; ((with_reducible refine (C4.out _).mono ?_); rintro e w2 ⟨rfl, rfl⟩))
          | (go_at_call 7; refine (l6In_yes _ _ _ _ (by omega) (by omega)).mono ?_; rintro e w' ⟨rfl, rfl⟩) | (go_at_call 7; refine (l6In_no _ _ _ _ (by omega)).mono ?_; rintro e w' ⟨rfl, rfl⟩))
        go_ret2
        exact ⟨rfl, rfl⟩
      · obtain ⟨o4, e4⟩ := g4 rfl
        clear g4
        by_cases h3 : bt s 3 = 58
        · by_cases hh : v1 ≤ 23
          · by_cases hm : v4 ≤ 59
            · obtain ⟨k1, k2⟩ := off_sign HB.out h6 o1 o4 h3 (by omega) (by omega)
              rw [← e1, ← e4] at k2
              obtain ⟨z3, z3'⟩ := odt_ h3
              obtain ⟨z0, z0'⟩ := odf_ k1
              clear o1 o4 e1 e4 h3 k1
              by_cases h0 : bt s 0 = 45
              · have hz := k2 h0
                obtain ⟨zz, zz'⟩ := odt_ h0
                have hq : decide (0 < 60 * v1 + v4) = false := decide_eq_false (by omega)
                clear k2 h0 hz
                go_enter Try.func4, Try.ntmps4
                go_wp2_with (first
                  | (go_at_call 6; ((with_reducible refine (C1.out _).mono ?_); rintro e w1 ⟨rfl, rfl⟩))
                  | (go_at_call 6; ((with_reducible refine (C4.out _).mono ?_); rintro e w2 ⟨rfl, rfl⟩))
                  | (go_at_call 7; refine (l6In_yes _ _ _ _ (by omega) (by omega)).mono ?_; rintro e w' ⟨rfl, rfl⟩) | (go_at_call 7; refine (l6In_no _ _ _ _ (by omega)).mono ?_; rintro e w' ⟨rfl, rfl⟩))
                go_ret2
                exact ⟨rfl, rfl⟩
              · obtain ⟨zz, zz'⟩ := odf_ h0
                clear k2 h0
                go_enter Try.func4, Try.ntmps4
                go_wp2_with (first
                  | (go_at_call 6; ((with_reducible refine (C1.out _).mono ?_); rintro e w1 ⟨rfl, rfl⟩))
                  | (go_at_call 6; ((with_reducible refine (C4.out _).mono ?_); rintro e w2 ⟨rfl, rfl⟩))
                  | (go_at_call 7; refine (l6In_yes _ _ _ _ (by omega) (by omega)).mono ?_; rintro e w' ⟨rfl, rfl⟩) | (go_at_call 7; refine (l6In_no _ _ _ _ (by omega)).mono ?_; rintro e w' ⟨rfl, rfl⟩))
                go_ret2
                exact ⟨rfl, rfl⟩
            · obtain ⟨z3, z3'⟩ := odt_ h3
              clear o1 o4 e1 e4 h3
              go_enter Try.func4, Try.ntmps4
              go_wp2_with (first
                | (go_at_call 6; ((with_reducible refine (C1.out _).mono ?_); rintro e w1 ⟨rfl, rfl⟩))
                | (go_at_call 6; ((with_reducible refine (C4.out _).mono ?_); rintro e w2 ⟨rfl, rfl⟩))
                | (go_at_call 7; refine (l6In_yes _ _ _ _ (by omega) (by omega)).mono ?_; rintro e w' ⟨rfl, rfl⟩) | (go_at_call 7; refine (l6In_no _ _ _ _ (by omega)).mono ?_; rintro e w' ⟨rfl, rfl⟩))
              go_ret2
              exact ⟨rfl, rfl⟩
          · obtain ⟨z3, z3'⟩ := odt_ h3
            clear o1 o4 e1 e4 h3
            go_enter Try.func4, Try.ntmps4
            go_wp2_with (first
              | (go_at_call 6; ((with_reducible refine (C1.out _).mono ?_); rintro e w1 ⟨rfl, rfl⟩))
              | (go_at_call 6; ((with_reducible refine (C4.out _).mono ?_); rintro e w2 ⟨rfl, rfl⟩))
              | (go_at_call 7; refine (l6In_yes _ _ _ _ (by omega) (by omega)).mono ?_; rintro e w' ⟨rfl, rfl⟩) | (go_at_call 7; refine (l6In_no _ _ _ _ (by omega)).mono ?_; rintro e w' ⟨rfl, rfl⟩))
            go_ret2
            exact ⟨rfl, rfl⟩
        · obtain ⟨z3, z3'⟩ := odf_ h3
          clear o1 o4 e1 e4 h3
          go_enter Try.func4, Try.ntmps4
          go_wp2_with (first
            | (go_at_call 6; ((with_reducible refine (C1.out _).mono ?_); rintro e w1 ⟨rfl, rfl⟩))
            | (go_at_call 6; ((with_reducible refine (C4.out _).mono ?_); rintro e w2 ⟨rfl, rfl⟩))
            | (go_at_call 7; refine (l6In_yes _ _ _ _ (by omega) (by omega)).mono ?_; rintro e w' ⟨rfl, rfl⟩) | (go_at_call 7; refine (l6In_no _ _ _ _ (by omega)).mono ?_; rintro e w' ⟨rfl, rfl⟩))
          go_ret2
          exact ⟨rfl, rfl⟩
  · obtain ⟨z6, z6'⟩ := odf_ (show (s.size : Int) ≠ 6 from by omega)
    clear g1 g4
    cases b1 <;> cases b4
    all_goals
      go_enter Try.func4, Try.ntmps4
      go_wp2_with (first
        | (go_at_call 6; ((with_reducible refine (C1.out _).mono ?_); rintro e w1 ⟨rfl, rfl⟩))
        | (go_at_call 6; ((with_reducible refine (C4.out _).mono ?_); rintro e w2 ⟨rfl, rfl⟩))
        | (go_at_call 7; refine (l6In_yes _ _ _ _ (by omega) (by omega)).mono ?_; rintro e w' ⟨rfl, rfl⟩) | (go_at_call 7; refine (l6In_no _ _ _ _ (by omega)).mono ?_; rintro e w' ⟨rfl, rfl⟩))
      go_ret2
      exact ⟨rfl, rfl⟩
theorem OffsetFrom_i_lit (c : UInt8) (h : c = 90 ∨ c = 122) (w : World) : Calls Try.prog 5 #[.string (bs [c])] w fun e w' => e = .returned (.tuple #[.int .i64 0, .bool true]) ∧ Below w.heap.size w w' := by
  rcases h with rfl | rfl
  · exact OffsetFrom_i_zero w
  · have q1 : ((bs [122]).toList == [90]) = false := by rw [ByteArray.toList_eq, bs_data]; rfl
    have q2 : ((bs [122]).toList == [122]) = true := by rw [ByteArray.toList_eq, bs_data]; rfl
    go_enter Try.func5, Try.ntmps5
    go_wp2
    go_ret2
    exact ⟨rfl, Below.refl _ _⟩
theorem OffsetFrom_i_null (w : World) : Calls Try.prog 5 #[.string (offP3 43 0)] w fun e w' => e = .returned (.tuple #[.int .i64 0, .bool true]) ∧ Below w.heap.size w w' := by
  have q1 := offP3_ne1 43 90 0
  have q2 := offP3_ne1 43 122 0
  have q3 : ((offP3 43 0).toList == [43, 48, 48, 58, 48, 48]) = true := by rw [off_zero, ByteArray.toList_eq, bs_data]; rfl
  go_enter Try.func5, Try.ntmps5
  go_wp2
  go_ret2
  exact ⟨rfl, Below.refl _ _⟩
/-- What the text of a number of minutes is: never a text that is none of an offset. -/
theorem OffsetText_i_some (n : Int) (s : ByteArray) (hb : OffBad s) (h6 : s.size = 6) : ∃ t : ByteArray, t ≠ s ∧ ∀ w', Calls Try.prog 9 #[.int .i64 n] w' fun e w'' => e = .returned (.string t) ∧ Below w'.heap.size w' w'' := by
  obtain ⟨-, -, -, hk⟩ := hb
  by_cases h : n < -1439 ∨ 1439 < n
  · refine ⟨bs [], ?_, fun w' => OffsetText_i_no n w' h⟩
    rintro rfl
    simp [bs_size] at h6
  · by_cases h0 : n = 0
    · subst h0
      refine ⟨bs [90], ?_, fun w' => OffsetText_i_zero w'⟩
      rintro rfl
      simp [bs_size] at h6
    · by_cases h1 : 0 < n
      · obtain ⟨k, rfl⟩ : ∃ k : Nat, n = (k : Int) := ⟨n.toNat, by omega⟩
        exact ⟨offP3 43 k, fun e => hk 43 k (by omega) (by omega) (.inl rfl) e.symm, fun w' => OffsetText_i_pos k w' (by omega) (by omega)⟩
      · obtain ⟨k, rfl⟩ : ∃ k : Nat, n = -(k : Int) := ⟨(-n).toNat, by omega⟩
        exact ⟨offP3 45 k, fun e => hk 45 k (by omega) (by omega) (.inr rfl) e.symm, fun w' => OffsetText_i_neg k w' (by omega) (by omega)⟩
theorem OffsetFrom_i_bad (s : ByteArray) (w : World) (hs : s.size ≤ maxLen) (hb : OffBad s) : Calls Try.prog 5 #[.string s] w fun e w' => e = .returned (.tuple #[.int .i64 0, .bool false]) ∧ Below w.heap.size w w' := by
  obtain ⟨v1, b1, x1, y1, c1, g1⟩ := get_any_i s 1 hs (by decide) (by decide)
  obtain ⟨v4, b4, x4, y4, c4, g4⟩ := get_any_i s 4 hs (by decide) (by decide)
  have C1 := Lib.hid c1
  have C4 := Lib.hid c4
  have q1 := toList_ne hb.1
  have q2 := toList_ne hb.2.1
  have q3 := hb.2.2.1
  rw [off_zero] at q3
  replace q3 := toList_ne q3
  have hgb := get_bt s
  unfold maxLen at hs
  clear c1 c4 g1 g4
  by_cases h6 : s.size = 6
  · obtain ⟨z6, z6'⟩ := odt_ (show (s.size : Int) = 6 from by omega)
    by_cases h3 : bt s 3 = 58
    · obtain ⟨z3, z3'⟩ := odt_ h3
      clear h3
      by_cases h0 : bt s 0 = 45
      · obtain ⟨z0, z0'⟩ := odt_ h0
        clear h0
        obtain ⟨t, ht, ct⟩ := OffsetText_i_some (-(60 * v1 + v4)) s hb h6
        have CT := Lib.hid ct
        have ht2 := toList_ne2 ht
        clear ct hb ht
        cases b1 <;> cases b4
        all_goals
          go_enter Try.func5, Try.ntmps5
          go_wp2_with (first
            | (go_at_call 8; ((with_reducible refine (C1.out _).mono ?_); rintro e w1 ⟨rfl, hb1⟩))
            | (go_at_call 8; ((with_reducible refine (C4.out _).mono ?_); rintro e w2 ⟨rfl, hb2⟩))
            | (go_at_call 9; (refine (CT.out _).mono ?_; rintro e w3 ⟨rfl, hb3⟩)))
          go_ret2
          first
            | exact ⟨rfl, below2 (below2 hb1 hb2) hb3⟩
            | exact ⟨rfl, below2 hb1 hb2⟩
            | exact ⟨rfl, Below.refl _ _⟩
      · obtain ⟨z0, z0'⟩ := odf_ h0
        clear h0
        obtain ⟨t, ht, ct⟩ := OffsetText_i_some (60 * v1 + v4) s hb h6
        have CT := Lib.hid ct
        have ht2 := toList_ne2 ht
        clear ct hb ht
        cases b1 <;> cases b4
        all_goals
          go_enter Try.func5, Try.ntmps5
          go_wp2_with (first
            | (go_at_call 8; ((with_reducible refine (C1.out _).mono ?_); rintro e w1 ⟨rfl, hb1⟩))
            | (go_at_call 8; ((with_reducible refine (C4.out _).mono ?_); rintro e w2 ⟨rfl, hb2⟩))
            | (go_at_call 9; (refine (CT.out _).mono ?_; rintro e w3 ⟨rfl, hb3⟩)))
          go_ret2
          first
            | exact ⟨rfl, below2 (below2 hb1 hb2) hb3⟩
            | exact ⟨rfl, below2 hb1 hb2⟩
            | exact ⟨rfl, Below.refl _ _⟩
    · obtain ⟨z3, z3'⟩ := odf_ h3
      clear h3 hb
      go_enter Try.func5, Try.ntmps5
      go_wp2
      go_ret2
      exact ⟨rfl, Below.refl _ _⟩
  · obtain ⟨z6, z6'⟩ := odf_ (show (s.size : Int) ≠ 6 from by omega)
    clear hb
    go_enter Try.func5, Try.ntmps5
    go_wp2
    go_ret2
    exact ⟨rfl, Below.refl _ _⟩
end Go.Proofs.Ytoccmbbkjbjhpaa
