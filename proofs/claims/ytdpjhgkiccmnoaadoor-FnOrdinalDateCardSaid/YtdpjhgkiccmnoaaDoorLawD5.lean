/-
  The walk of the law on the date of a day of a year: it returns true, and nothing that was there is written. Conditions: the table of the months reads as listed.
-/
import Derived.Test.YtdpjhgkiccmnoaaDoorDrawDate3
import Derived.Test.YtdpjhgkiccmnoaaDoorLawD2
namespace Go.Proofs.YtdpjhgkiccmnoaaDoor
open Go.RowKit Go.PlainAid
set_option linter.unusedVariables false

theorem walk_OrdinalDate (a : Option Addr) (len cap : Nat) (z : List Int) (w : World) (h : IsRow .u8 w a len cap z) (hT : Tab w) : Calls Tryd.prog 15 #[.slice a len cap] w fun e w' => e = .returned (.bool true) ∧ Below w.heap.size w w' := by
  obtain ⟨hl, hm⟩ := row_len h
  have hB := Bytes.of_row h
  clear h
  have hm' := hm
  unfold maxLen at hm'
  have HT := Lib.hid hT
  clear hT
  by_cases hbig : (1048576 : Int) < (len : Int)
  · go_enter Tryd.func15, Tryd.ntmps15
    go_wp2
    go_ret
    exact ⟨rfl, Below.refl _ _⟩
  · go_enter Tryd.func15, Tryd.ntmps15
    go_wp2_with fail
    refine (DrawOrdinalDate_any a len cap w hl hm hB).mono ?_
    rintro e w1 ⟨y, d, y0, y1, d0, d1, rfl, hb1⟩
    clear hB
    by_cases hok : OrdOk y d
    · have HO := Lib.hid hok
      obtain ⟨n0, n1, n2⟩ := hok.num
      obtain ⟨hK, hE⟩ := Cal.dt_ok n0 n1
      have hM : Cal.cum y (Cal.mo (Cal.ny y + d - 1)) + Cal.dd (Cal.ny y + d - 1) = d := by
        have := hE
        unfold Cal.num at this
        rw [n2] at this
        omega
      obtain ⟨M, hMM⟩ : ∃ M, M = Cal.mo (Cal.ny y + d - 1) := ⟨_, rfl⟩
      obtain ⟨D, hDD⟩ : ∃ D, D = Cal.dd (Cal.ny y + d - 1) := ⟨_, rfl⟩
      have hci : ∀ w', Tab w' → Calls Tryd.prog 29 #[.int .i64 y, .int .i64 d] w' fun e w'' => e = .returned (.tuple #[.agg #[.int .i64 y, .int .i64 M, .int .i64 D], .bool true]) ∧ Below w'.heap.size w' w'' := fun w' ht => by
        have := OrdinalDate_i_yes y d w' ht hok
        rw [n2, ← hMM, ← hDD] at this
        exact this
      have hcs : ∀ w', Calls Tryd.prog 28 #[.int .i64 y, .int .i64 d] w' fun e w'' => e = .returned (.tuple #[.agg #[.int .i64 y, .int .i64 M, .int .i64 D], .bool true]) ∧ Below w'.heap.size w' w'' := fun w' => by
        have := OrdinalDate_s_yes y d w' hok
        rw [n2, ← hMM, ← hDD] at this
        exact this
      rw [n2, ← hMM, ← hDD] at hK
      rw [← hMM, ← hDD] at hM
      have hco : ∀ w', Tab w' → Calls Tryd.prog 27 #[.agg #[.int .i64 y, .int .i64 M, .int .i64 D]] w' fun e w'' => e = .returned (.int .i64 d) ∧ Below w'.heap.size w' w'' := fun w' ht => by
        have := OrdinalOf_i_yes y M D w' ht hK
        rw [hM] at this
        exact this
      have HI := Lib.hid hci
      have HS := Lib.hid hcs
      have HF := Lib.hid hco
      clear hci hcs hco hK hE hM hMM hDD n0 n1 n2 hok HO
      go_wp2_with fail
      refine (HI.out _ (HT.out.below hb1)).mono ?_
      rintro e w2 ⟨rfl, hb2⟩
      have hb12 := below2 hb1 hb2
      clear hb1 hb2
      go_wp2_with fail
      refine (HS.out _).mono ?_
      rintro e w3 ⟨rfl, hb3⟩
      obtain ⟨c0, c1, c2⟩ := agg3_keep hb3
      have HC := Lib.hid (((Cells3.new w2 25 (.int .i64 y) (.int .i64 M) (.int .i64 D)).below hb3).alloc (.cells #[.int .i64 y, .int .i64 M, .int .i64 D] 25))
      have hlt := cell3_lt hb3
      have hne := Nat.ne_of_lt hlt
      have hne' := Nat.ne_of_gt hlt
      have HB := Lib.hid (below2 hb12 (below_alloc hb3))
      have HT3 := Lib.hid ((HT.out.below HB.out).alloc (.cells #[.int .i64 y, .int .i64 M, .int .i64 D] 25))
      clear hb12 hb3
      go_wp2_with fail
      refine (HF.out _ HT3.out).mono ?_
      rintro e w4 ⟨rfl, hb4⟩
      clear c0 c1 c2
      obtain ⟨c0, c1, c2, -, -, -⟩ := HC.out.below hb4
      have HB4 := Lib.hid (below2 HB.out (below_alloc hb4))
      clear hb4 hlt hne hne'
      go_wp2_with fail
      go_ret
      exact ⟨rfl, HB4.out⟩
    · have HO := Lib.hid hok
      clear hok
      go_wp2_with fail
      refine (OrdinalDate_i_no _ _ _ HO.out).mono ?_
      rintro e w2 ⟨rfl, hb2⟩
      have hb12 := below2 hb1 hb2
      clear hb1 hb2
      go_wp2_with fail
      refine (OrdinalDate_s_no _ _ _ HO.out).mono ?_
      rintro e w3 ⟨rfl, hb3⟩
      obtain ⟨c0, c1, c2⟩ := agg3_keep hb3
      have hlt := cell3_lt hb3
      have hne := Nat.ne_of_lt hlt
      have hne' := Nat.ne_of_gt hlt
      have HB := Lib.hid (below2 hb12 (below_alloc hb3))
      clear hb12 hb3
      go_wp2_with fail
      go_ret
      exact ⟨rfl, HB.out.alloc HB.out.size _⟩
end Go.Proofs.YtdpjhgkiccmnoaaDoor
