/-
  Contracts: a reader's number, the digits of a number. Conditions: as each states.
-/
import Derived.Test.YtkdhlgfpnkdbmaaDoorDig2
namespace Go.Proofs.YtkdhlgfpnkdbmaaDoor
open Go.RowKit Go.PlainAid
set_option linter.unusedVariables false

theorem number_no (g many : Nat) (s : ByteArray) (a : Int) (w : World) (hs : s.size ≤ maxLen) (ha : -9223372036854775808 ≤ a) (ha2 : a ≤ 9223372036854775807) (hm : many ≤ 6) (hr : RdS w g s a) (h : runI s a < many) :
    Calls Tryd.prog 31 #[.pointer (some ⟨g, 0, none⟩), .int .i64 (many : Int)] w fun e w' => e = .returned (.tuple #[.int .i64 0, .bool false]) ∧ w = w' := by
  obtain ⟨hc0, hc1, hf⟩ := hr
  go_enter Tryd.func31, Tryd.ntmps31
  go_wp2_with (go_at_call 32; refine (run_any g s a _ hs ha ha2 hc0 hc1).mono ?_; rintro e w' ⟨rfl, rfl⟩)
  go_ret2
  exact ⟨rfl, rfl⟩
def NumPost (w : World) (g : Nat) (s : ByteArray) (k many : Nat) (w' : World) : Prop := RdS w' g s ((k + many : Nat) : Int) ∧ Upd g w w'
set_option maxHeartbeats 400000 in
theorem number_yes (g many k : Nat) (s : ByteArray) (w : World) (hs : s.size ≤ maxLen) (hm : many ≤ 6) (hk : k ≤ 9223372036854775807) (hr : RdS w g s (k : Int)) (h : many ≤ runI s (k : Int)) :
    Calls Tryd.prog 31 #[.pointer (some ⟨g, 0, none⟩), .int .i64 (many : Int)] w fun e w' => e = .returned (.tuple #[.int .i64 (numN s k many : Nat), .bool true]) ∧ NumPost w g s k many w' := by
  have hr' := hr
  obtain ⟨hc0, hc1, hf⟩ := hr
  have hle := runN_le s k
  unfold maxLen at hs
  have hrun : runI s (k : Int) = runN s k := runI_nat s k
  have hdig : ∀ j, j < many → digAt s (k + j) := fun j hj => runN_dig s j k (by omega)
  have HD := Lib.hid hdig
  clear hdig
  have hb := get_bt s
  have hko : many = 0 ∨ k + many ≤ s.size := by omega
  clear hle hrun
  go_enter Tryd.func31, Tryd.ntmps31
  go_wp2_with (go_at_call 32; refine (run_any g s (k : Int) _ hs (by omega) (by omega) hc0 hc1).mono ?_; rintro e w' ⟨rfl, rfl⟩)
  go_loopw [6, 12] (fun n i wr => ∃ j : Nat, j ≤ many ∧ i = .int .i64 (j : Int) ∧ n = .int .i64 (numN s k j : Nat) ∧ NumPost w g s k j wr) (fun _ i _ => many - (intOf i).toNat)
  case atStart => exact ⟨0, Nat.zero_le _, rfl, rfl, hr', Upd.refl _ _⟩
  case round =>
    obtain ⟨j, hj, rfl, rfl, hrj, hu⟩ := hrel
    by_cases hlt : j < many
    · have hd := HD.out j hlt
      have hkl := digAt_lt hd
      have hsm := numN_small (s := s) (k := k) (m := j) (fun i hi => HD.out i (by omega)) (by omega)
      have hsu := numN_succ hd
      have HS := Lib.hid hsu
      clear hsu
      obtain ⟨hd1, hd2⟩ := hd
      have hrj' := hrj
      obtain ⟨hj0, hj1, hjf⟩ := hrj
      have e1 : ((k + j : Nat) : Int) = (k : Int) + (j : Int) := by omega
      rw [e1] at hj1
      clear e1 hc0 hc1 hf
      go_wp2
      go_quiet (fail)
      go_wp2
      go_roundw
      case rel => exact ⟨j + 1, by omega, by go_num, by rw [HS.out], (by simpa [Int.add_assoc] using (hrj'.drewN _).setCell ((k : Int) + j + 1)), (hu.drewN _).setCell _ _⟩
      case measure => simp [intOf]; omega
    · obtain rfl : j = many := by omega
      go_wp2
      go_ret2
      exact ⟨rfl, hrj, hu⟩
theorem u8info : (Tryd.prog.info? 5).map (fun i => (i.zero, i.size, i.bytes)) = some (some (.int .u8 0), 1, 1) := by kernel_rfl
theorem made_zero (n : Nat) : (madeCells (Value.int .u8 0).cells (n * 1)).toList = List.replicate n (.int .u8 0) := by
  apply List.ext_getElem
  · simp [madeCells]
  · intro i h1 h2
    simp [madeCells, Value.cells, Nat.mod_one]
theorem set_zero (k : Nat) (x : UInt8) (L : List UInt8) : (List.replicate (k + 1) (Value.int .u8 0) ++ L.map fun c => Value.int .u8 (c.toNat : Int)).set k (.int .u8 (x.toNat : Int)) = List.replicate k (Value.int .u8 0) ++ (x :: L).map fun c => Value.int .u8 (c.toNat : Int) := by
  rw [List.replicate_succ', List.append_assoc, List.set_append_right _ _ (by simp)]
  simp
/-- What the loop of digits holds: k digits are to come, L are written. -/
def DigRel (W : World) (B n many k : Nat) (m : Int) (w : World) : Prop :=
  ∃ L : List UInt8, L.length + k = many ∧ 0 ≤ m ∧ m ≤ n ∧ digL n many = digL m.toNat k ++ L ∧ w.ownsRow B 5 1 (.slice (some ⟨B, 0, none⟩) many many) many (List.replicate k (Value.int .u8 0) ++ L.map fun c => Value.int .u8 (c.toNat : Int)) ∧ Below W.heap.size W w
theorem DigRel.step {W w : World} {B n many k : Nat} {m : Int} (hB : W.heap.size ≤ B) (h : DigRel W B n many (k + 1) m w) : DigRel W B n many k (m / 10) (w.setCell ⟨B, k, none⟩ (.int .u8 (48 + m % 10))) := by
  obtain ⟨L, h1, h2, h3, h4, h5, h6⟩ := h
  have hx : (48 + m % 10 : Int) = ((dg (m.toNat % 10)).toNat : Int) := by rw [dg_toNat (by omega)]; omega
  refine ⟨dg (m.toNat % 10) :: L, by simp; omega, by omega, by omega, ?_, ?_, h6.setCell (by exact hB) _⟩
  · rw [h4, digL, show (m / 10).toNat = m.toNat / 10 from by omega]
    simp
  · have := (h5.stored k (.int .u8 (48 + m % 10))).1
    rw [hx, set_zero] at this
    rw [hx]
    exact this
set_option maxHeartbeats 400000 in
theorem digits_any (n many : Nat) (w : World) (hn : n ≤ 999999) (hm : many ≤ 6) : Calls Tryd.prog 25 #[.int .i64 (n : Int), .int .i64 (many : Int)] w fun e w' => e = .returned (.string (bs (digL n many))) ∧ Below w.heap.size w w' := by
  obtain ⟨i0, hi, hz0, hz1, hz2⟩ := info_parts u8info
  go_enter Tryd.func25, Tryd.ntmps25
  go_wp2_with (at_make; refine wpList_make_full _ rfl _ _ 22 rfl w.heap.size 5 i0 (.int .u8 0) 1 Tryd.underlying22 hi hz0 hz1 .i64 .i64 _ _ many rfl rfl rfl rfl (by rw [hz2]; omega) (by unfold maxLen; omega) (Nat.le_refl _) ?_; intro w1 hown hgrow)
  rw [made_zero] at hown
  have hrel0 : DigRel w w.heap.size n many many (n : Int) w1 := ⟨[], by simp, by omega, by omega, by simp, by simpa using hown, (Below.refl _ _).grown hgrow (Nat.le_refl _) (fun k hk => by cases hk)⟩
  clear hown hgrow
  go_loopw [0, 6] (fun m i wr => ∃ (k : Nat) (mm : Int), k ≤ many ∧ i = .int .i64 ((k : Int) - 1) ∧ m = .int .i64 mm ∧ DigRel w w.heap.size n many k mm wr) (fun _ i _ => (intOf i + 1).toNat)
  case atStart => exact ⟨many, n, Nat.le_refl _, rfl, rfl, hrel0⟩
  case round =>
    obtain ⟨k, mm, hk, rfl, rfl, hr⟩ := hrel
    by_cases hlt : 0 < k
    · obtain ⟨i, rfl⟩ : ∃ i, k = i + 1 := ⟨k - 1, by omega⟩
      have hnext := hr.step (Nat.le_refl _)
      have HN := Lib.hid hnext
      clear hnext
      have hc : ((i + 1 : Nat) : Int) - 1 = (i : Int) := by omega
      obtain ⟨L, h1, h2, h3, h4, h5, h6⟩ := hr
      have hcell : wr.cell? ⟨w.heap.size, i, none⟩ = some (.int .u8 0) := by
        rw [h5.cellAt i (by omega), List.getElem?_append_left (by simp)]
        simp
      have hfr := h5.frozenAt i
      clear h4 h5 h6 h1 hrel0
      go_wp2
      go_roundw
      case rel => exact ⟨i, mm / 10, by omega, by go_num, rfl, HN.out⟩
      case measure => simp [intOf]
    · obtain rfl : k = 0 := by omega
      obtain ⟨L, h1, h2, h3, h4, h5, h6⟩ := hr
      have hL : L = digL n many := by simpa [digL] using h4.symm
      subst hL
      have hcv : (convert 22 9 (.slice (some ⟨w.heap.size, 0, none⟩) many many)).run Tryd.prog wr = .ok (.string (bs (digL n many))) wr := by
        have := run_convert_bytes_back (P := Tryd.prog) wr 22 9 5 ⟨w.heap.size, 0, none⟩ many (digL n many) Tryd.underlying22 Tryd.underlying5 Tryd.underlying9 (fun j hj => by
          have hj2 : j < many := by rwa [digL_length] at hj
          have hc := h5.cellAt j (by omega)
          have ha : (⟨w.heap.size, 0, none⟩ : Addr).add j = ⟨w.heap.size, j, none⟩ := by
            unfold Addr.add
            split
            · next h => subst h; rfl
            · simp
          rw [ha, hc]
          simp [List.getElem?_eq_getElem hj])
        rwa [digL_length] at this
      clear h1 h4 h5 hrel0
      go_wp2
      go_ret
      exact ⟨rfl, h6⟩
/-- There are so many digits at a place, and so many may be asked for. -/
def GetOk (s : ByteArray) (a many : Int) : Prop := 1 ≤ many ∧ many ≤ 6 ∧ many ≤ (runI s a : Nat)
theorem GetOk.nat {s : ByteArray} {a many : Int} (h : GetOk s a many) : ∃ k m : Nat, a = (k : Int) ∧ many = (m : Int) ∧ 1 ≤ m ∧ m ≤ 6 ∧ m ≤ runN s k ∧ k + m ≤ s.size := by
  obtain ⟨h1, h2, h3⟩ := h
  by_cases ha : 0 ≤ a
  · refine ⟨a.toNat, many.toNat, by omega, by omega, by omega, by omega, ?_, ?_⟩
    all_goals
      have e : runI s a = runN s a.toNat := by unfold runI; rw [if_pos ha]
      have := runN_le s a.toNat
      omega
  · have e : runI s a = 0 := by unfold runI; rw [if_neg ha]
    omega
theorem DigitsGet_s_range (s : ByteArray) (a many : Int) (w : World) (h : many < 1 ∨ 6 < many) :
    Calls Tryd.prog 38 #[.string s, .int .i64 a, .int .i64 many] w fun e w' => e = .returned (.tuple #[.int .i64 0, .bool false]) ∧ w = w' := by
  go_enter Tryd.func38, Tryd.ntmps38
  go_wp2_with (go_at_call 44; refine (l6In_no _ _ _ _ h).mono ?_; rintro e w' ⟨rfl, rfl⟩)
  go_ret2
  exact ⟨rfl, rfl⟩
set_option maxHeartbeats 400000 in
theorem DigitsGet_s_neg (s : ByteArray) (a : Int) (m : Nat) (w : World) (hs : s.size ≤ maxLen) (h1 : 1 ≤ m) (h2 : m ≤ 6) (ha : -9223372036854775808 ≤ a) (hneg : a < 0) :
    Calls Tryd.prog 38 #[.string s, .int .i64 a, .int .i64 (m : Int)] w fun e w' => e = .returned (.tuple #[.int .i64 0, .bool false]) ∧ w = w' := by
  go_enter Tryd.func38, Tryd.ntmps38
  go_wp2_with (go_at_call 44; refine (l6In_yes _ _ _ _ (by omega) (by omega)).mono ?_; rintro e w' ⟨rfl, rfl⟩)
  refine wp_loop_rounds 1 ?_
  rw [rounds_succ]
  go_wp2_with (go_at_call 51; refine (l1Digit_no s _ _ hs (by omega)).mono ?_; rintro e w' ⟨rfl, rfl⟩)
  go_ret2
  exact ⟨rfl, rfl⟩
/-- What the reading gives at a place that is there. -/
def getAns (s : ByteArray) (k m : Nat) : Ending := if m ≤ runN s k then .returned (.tuple #[.int .i64 (numN s k m : Nat), .bool true]) else .returned (.tuple #[.int .i64 0, .bool false])
set_option maxHeartbeats 400000 in
theorem DigitsGet_s_any (s : ByteArray) (k m : Nat) (w : World) (hs : s.size ≤ maxLen) (h1 : 1 ≤ m) (h2 : m ≤ 6) (hk : k ≤ 9223372036854775807) :
    Calls Tryd.prog 38 #[.string s, .int .i64 (k : Int), .int .i64 (m : Int)] w fun e w' => e = getAns s k m ∧ w = w' := by
  have hsz := hs
  unfold maxLen at hsz
  have hbt := get_bt s
  go_enter Tryd.func38, Tryd.ntmps38
  go_wp2_with (go_at_call 44; refine (l6In_yes _ _ _ _ (by omega) (by omega)).mono ?_; rintro e w' ⟨rfl, rfl⟩)
  go_loop [8, 9] (fun n i => ∃ j : Nat, j ≤ m ∧ i = .int .i64 (j : Int) ∧ n = .int .i64 (numN s k j : Nat) ∧ (∀ t, t < j → digAt s (k + t)) ∧ (0 < j → k + j ≤ s.size)) (fun _ i => m - (intOf i).toNat)
  case atStart => exact ⟨0, Nat.zero_le _, rfl, rfl, fun t ht => absurd ht (by omega), fun h => absurd h (by omega)⟩
  case round =>
    obtain ⟨j, hj, rfl, rfl, hall, hin⟩ := hrel
    have HA := Lib.hid hall
    clear hall
    have hbd : (k : Int) + (j : Int) ≤ 9223372036854775807 := by omega
    by_cases hlt : j < m
    · by_cases hd : digAt s (k + j)
      · have hkl := digAt_lt hd
        have hsm := numN_small (s := s) (k := k) (m := j) (fun i hi => HA.out i (by omega)) (by omega)
        have hsu := numN_succ hd
        have HS := Lib.hid hsu
        clear hsu
        have HD := Lib.hid hd
        obtain ⟨hd1, hd2⟩ := hd
        go_wp2_with (go_at_call 51; rw [show (k : Int) + (j : Int) = ((k + j : Nat) : Int) from by omega]; refine (l1Digit_yes s (k + j) _ hs HD.out).mono ?_; rintro e w' ⟨rfl, rfl⟩)
        go_round
        case rel => exact ⟨j + 1, by omega, by go_num, by rw [HS.out], fun t ht => by
          by_cases e : t = j
          · rw [e]; exact HD.out
          · exact HA.out t (by omega), by omega⟩
        case measure => simp [intOf]; omega
      · have HD := Lib.hid hd
        clear hd
        go_wp2_with (go_at_call 51; rw [show (k : Int) + (j : Int) = ((k + j : Nat) : Int) from by omega]; refine (l1Digit_noN s _ _ hs HD.out).mono ?_; rintro e w' ⟨rfl, rfl⟩)
        go_ret2
        refine ⟨?_, rfl⟩
        unfold getAns
        rw [if_neg (fun hle => HD.out (runN_dig s j k (by omega)))]
        rfl
    · obtain rfl : j = m := by omega
      go_wp2
      go_ret2
      refine ⟨?_, rfl⟩
      unfold getAns
      rw [if_pos (runN_ge s j k HA.out)]
      rfl
theorem DigitsGet_s_yes (s : ByteArray) (k m : Nat) (w : World) (hs : s.size ≤ maxLen) (h1 : 1 ≤ m) (h2 : m ≤ 6) (h3 : m ≤ runN s k) :
    Calls Tryd.prog 38 #[.string s, .int .i64 (k : Int), .int .i64 (m : Int)] w fun e w' => e = .returned (.tuple #[.int .i64 (numN s k m : Nat), .bool true]) ∧ w = w' := by
  have hk : k ≤ s.size := by have := runN_le s k; omega
  have hsz := hs
  unfold maxLen at hsz
  refine (DigitsGet_s_any s k m w hs h1 h2 (by omega)).mono ?_
  rintro e w' ⟨rfl, rfl⟩
  exact ⟨by unfold getAns; rw [if_pos h3], rfl⟩
theorem DigitsGet_s_no (s : ByteArray) (a many : Int) (w : World) (hs : s.size ≤ maxLen) (ha : -9223372036854775808 ≤ a) (ha2 : a ≤ 9223372036854775807) (h : ¬ GetOk s a many) :
    Calls Tryd.prog 38 #[.string s, .int .i64 a, .int .i64 many] w fun e w' => e = .returned (.tuple #[.int .i64 0, .bool false]) ∧ w = w' := by
  by_cases hm : many < 1 ∨ 6 < many
  · exact DigitsGet_s_range s a many w hm
  · obtain ⟨m, rfl⟩ : ∃ m : Nat, many = (m : Int) := ⟨many.toNat, by omega⟩
    by_cases hneg : a < 0
    · exact DigitsGet_s_neg s a m w hs (by omega) (by omega) ha hneg
    · obtain ⟨k, rfl⟩ : ∃ k : Nat, a = (k : Int) := ⟨a.toNat, by omega⟩
      refine (DigitsGet_s_any s k m w hs (by omega) (by omega) (by omega)).mono ?_
      rintro e w' ⟨rfl, rfl⟩
      refine ⟨?_, rfl⟩
      unfold getAns
      rw [if_neg (fun hle => h ⟨by omega, by omega, by rw [runI_nat]; omega⟩)]
/-- A number that has at most so many digits, so many being allowed. -/
def PutOk (n many : Int) : Prop := 1 ≤ many ∧ many ≤ 6 ∧ 0 ≤ n ∧ n < p10 many.toNat
theorem PutOk.nat {n many : Int} (h : PutOk n many) : ∃ k m : Nat, n = (k : Int) ∧ many = (m : Int) ∧ 1 ≤ m ∧ m ≤ 6 ∧ k < 10 ^ m ∧ k ≤ 999999 ∧ (k : Int) < p10 m := by
  obtain ⟨h1, h2, h3, h4⟩ := h
  have h5 := p10_le (m := many.toNat) (by omega)
  refine ⟨n.toNat, many.toNat, by omega, by omega, by omega, by omega, ?_, by omega, by omega⟩
  rw [p10_pow] at h4
  omega
end Go.Proofs.YtkdhlgfpnkdbmaaDoor
