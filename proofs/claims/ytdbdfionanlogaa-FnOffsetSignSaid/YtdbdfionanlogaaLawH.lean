/-
  The walk of the law on the sign of an offset's text: it returns true, and nothing that was there is written. Conditions: none beyond the row's.
-/
import Derived.Test.YtdbdfionanlogaaLawG
namespace Go.Proofs.Ytdbdfionanlogaa
open Go.RowKit Go.PlainAid
set_option linter.unusedVariables false

theorem offP3_size (c : UInt8) (k : Nat) : (offP3 c k).size = 6 := by rw [offP3, bs_size]; simp [offL, digL_length]
theorem offP3_sign (k : Nat) (h1 : 0 < (offP3 45 k).size) (h2 : 0 < (offP3 43 k).size) : (((offP3 45 k)[0].toNat : Int) != ((offP3 43 k)[0].toNat : Int)) = true ∧ (((offP3 43 k)[0].toNat : Int) != ((offP3 45 k)[0].toNat : Int)) = true := by
  have a : (offP3 45 k)[0] = 45 := rfl
  have b : (offP3 43 k)[0] = 43 := rfl
  rw [a, b]
  decide
theorem offP3_tail (c d : UInt8) (k : Nat) : (offP3 c k).extract 1 6 = (offP3 d k).extract 1 6 := by
  apply ByteArray.ext
  simp [offP3, bs]
theorem walk_OffsetSign (a : Option Addr) (len cap : Nat) (z : List Int) (w : World) (h : IsRow .u8 w a len cap z) : Calls Try.prog 7 #[.slice a len cap] w fun e w' => e = .returned (.bool true) ∧ Below w.heap.size w w' := by
  obtain ⟨hl, hm⟩ := row_len h
  have hB := Bytes.of_row h
  clear h
  have hm' := hm
  unfold maxLen at hm'
  by_cases hbig : (1048576 : Int) < (len : Int)
  · go_enter Try.func7, Try.ntmps7
    go_wp2
    go_ret
    exact ⟨rfl, Below.refl _ _⟩
  · go_enter Try.func7, Try.ntmps7
    go_wp2_with fail
    refine (DrawOffsetText_any a len cap w hl hm hB).mono ?_
    rintro e w1 ⟨n, n0, n1, rfl, hb1⟩
    clear hB
    rcases off_cases n with hno | rfl | ⟨k, rfl, h1, h2⟩ | ⟨k, rfl, h1, h2⟩
    · have HN := Lib.hid hno
      clear hno
      go_wp2_with fail
      refine (OffsetText_i_no _ _ HN.out).mono ?_
      rintro e w2 ⟨rfl, hb2⟩
      have hb12 := below2 hb1 hb2
      clear hb1 hb2
      go_wp2_with fail
      refine (OffsetText_s_no _ _ HN.out).mono ?_
      rintro e w3 ⟨rfl, hb3⟩
      have hb13 := below2 hb12 hb3
      clear hb12 hb3
      have e0 : (bs []).toList.isEmpty = true := by rw [ByteArray.toList_eq, bs_data]; rfl
      go_wp2_with fail
      go_ret
      exact ⟨rfl, hb13⟩
    · go_wp2_with fail
      refine (OffsetText_i_zero _).mono ?_
      rintro e w2 ⟨rfl, hb2⟩
      have hb12 := below2 hb1 hb2
      clear hb1 hb2
      go_wp2_with fail
      refine (OffsetText_s_zero _).mono ?_
      rintro e w3 ⟨rfl, hb3⟩
      have hb13 := below2 hb12 hb3
      clear hb12 hb3
      have e0 : (bs [90]).toList.isEmpty = false := by rw [ByteArray.toList_eq, bs_data]; rfl
      have e1 : ((bs [90]).toList == [90]) = true := by rw [ByteArray.toList_eq, bs_data]; rfl
      go_wp2_with fail
      go_ret
      exact ⟨rfl, hb13⟩
    · have q0 : ((k : Int) == 0) = false := beq_eq_false_iff_ne.2 (by omega)
      go_wp2_with fail
      refine (OffsetText_i_pos k _ h1 h2).mono ?_
      rintro e w2 ⟨rfl, hb2⟩
      have hb12 := below2 hb1 hb2
      clear hb1 hb2
      go_wp2_with fail
      refine (OffsetText_s_pos k _ h1 h2).mono ?_
      rintro e w3 ⟨rfl, hb3⟩
      have hb13 := below2 hb12 hb3
      clear hb12 hb3
      have e0 : (offP3 43 k).toList.isEmpty = false := by rw [ByteArray.toList_eq, offP3, bs_data]; rfl
      go_wp2_with fail
      refine (OffsetText_i_neg k _ h1 h2).mono ?_
      rintro e w4 ⟨rfl, hb4⟩
      have hb14 := below2 hb13 hb4
      clear hb13 hb4
      have s1 := offP3_size 43 k
      have s2 := offP3_size 45 k
      have hx := offP3_tail 45 43 k
      have hsg := offP3_sign k (by omega) (by omega)
      have z1 := hsg.1
      clear hsg
      go_wp2_with fail
      go_quiet (fail)
      go_wp2
      go_ret
      exact ⟨by first | rfl | simp_all, below_drewN hb14 _⟩
    · have q0 : (-(k : Int) == 0) = false := beq_eq_false_iff_ne.2 (by omega)
      go_wp2_with fail
      refine (OffsetText_i_neg k _ h1 h2).mono ?_
      rintro e w2 ⟨rfl, hb2⟩
      have hb12 := below2 hb1 hb2
      clear hb1 hb2
      go_wp2_with fail
      refine (OffsetText_s_neg k _ h1 h2).mono ?_
      rintro e w3 ⟨rfl, hb3⟩
      have hb13 := below2 hb12 hb3
      clear hb12 hb3
      have e0 : (offP3 45 k).toList.isEmpty = false := by rw [ByteArray.toList_eq, offP3, bs_data]; rfl
      go_wp2_with fail
      refine (OffsetText_i_pos k _ h1 h2).mono ?_
      rintro e w4 ⟨rfl, hb4⟩
      have hb14 := below2 hb13 hb4
      clear hb13 hb4
      have s1 := offP3_size 43 k
      have s2 := offP3_size 45 k
      have hx := offP3_tail 43 45 k
      have hsg := offP3_sign k (by omega) (by omega)
      have z1 := hsg.2
      clear hsg
      go_wp2_with fail
      go_quiet (fail)
      go_wp2
      go_ret
      exact ⟨by first | rfl | simp_all, below_drewN hb14 _⟩
end Go.Proofs.Ytdbdfionanlogaa
