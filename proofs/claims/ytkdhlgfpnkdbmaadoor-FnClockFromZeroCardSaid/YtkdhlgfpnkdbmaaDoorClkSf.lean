/-
  Contract of the reader of a time, without colons: what a text reads as. Conditions: as it states.
-/
import Derived.Test.YtkdhlgfpnkdbmaaDoorClkS
namespace Go.Proofs.YtkdhlgfpnkdbmaaDoor
open Go.RowKit Go.PlainAid
set_option linter.unusedVariables false

set_option maxHeartbeats 20000000 in
theorem clock_false (g : Nat) (s : ByteArray) (w : World) (hs : s.size ≤ 2000000) (hr : RdS w g s (0 : Int)) :
    Calls Tryd.prog 22 #[.pointer (some ⟨g, 0, none⟩), .bool false] w (ClkRes w g s false) := by
  have hs' : s.size ≤ maxLen := by unfold maxLen; omega
  have H := RC.start 25 62 hr
  have HS := Lib.hid hs'
  clear hs' hr
  go_enter Tryd.func22, Tryd.ntmps22
  refine Code.wp_mono clk_shut ?_
  go_wp2_with fail
  obtain ⟨r, hr⟩ : ∃ r, r = w.heap.size := ⟨_, rfl⟩
  obtain ⟨q, hq⟩ : ∃ q, q = w.heap.size + 1 := ⟨_, rfl⟩
  rw [← hq, ← hr] at H
  rw [← hq, ← hr]
  clear hr hq
  generalize ((w.alloc (.cells #[.int .i64 0, .int .i64 0, .int .i64 0, .int .i64 0] 25)).alloc (.cells #[.int .i64 0, .int .i64 0, .int .i64 0] 62)) = W0 at *
  refine wp_loop_rounds 4 ?_
  rw [rounds_succ]
  by_cases A0 : 2 ≤ runN s 0
  · skip
    obtain ⟨hc0, hc1, hcf⟩ := H.rd
    obtain ⟨⟨r0, r1, r2, r3⟩, t0, t1, t2, t3⟩ := H.cr
    obtain ⟨⟨c0, c1, c2⟩, f0, f1, f2⟩ := H.cp
    have hlr := H.cr.lt
    have hlq := H.cp.lt
    have hnr := Nat.ne_of_lt hlr
    have hnq := Nat.ne_of_lt hlq
    go_wp2_with fail
    refine (number_yes g 2 0 s _ HS.out (by omega) (by omega) H.rd (by rw [runI_nat]; exact A0)).mono ?_
    rintro e w1 ⟨rfl, hp⟩
    clear hc0 hc1 hcf r0 r1 r2 r3 t0 t1 t2 t3 c0 c1 c2 f0 f1 f2 hlr hlq hnr hnq
    replace H := H.move hp.1 hp.2
    clear hp
    have hnb : numN s 0 2 < 100 := num2_lt A0
    have H' := H.set0 (numN s 0 2 : Nat)
    obtain ⟨hc0, hc1, hcf⟩ := H.rd
    obtain ⟨⟨r0, r1, r2, r3⟩, t0, t1, t2, t3⟩ := H.cr
    obtain ⟨⟨c0, c1, c2⟩, f0, f1, f2⟩ := H.cp
    have hlr := H.cr.lt
    have hlq := H.cp.lt
    have hnr := Nat.ne_of_lt hlr
    have hnq := Nat.ne_of_lt hlq
    go_wp2_with fail
    clear hc0 hc1 hcf r0 r1 r2 r3 t0 t1 t2 t3 c0 c1 c2 f0 f1 f2 hlr hlq hnr hnq
    replace H := H'
    clear H'
    generalize w1.setCell ⟨q, 0, none⟩ (.int .i64 ((numN s 0 2 : Nat) : Int)) = X1 at *
    rw [rounds_succ]
    by_cases A1 : 2 ≤ runN s 2
    · skip
      obtain ⟨hc0, hc1, hcf⟩ := H.rd
      obtain ⟨⟨r0, r1, r2, r3⟩, t0, t1, t2, t3⟩ := H.cr
      obtain ⟨⟨c0, c1, c2⟩, f0, f1, f2⟩ := H.cp
      have hlr := H.cr.lt
      have hlq := H.cp.lt
      have hnr := Nat.ne_of_lt hlr
      have hnq := Nat.ne_of_lt hlq
      go_wp2_with fail
      refine (number_yes g 2 2 s _ HS.out (by omega) (by omega) H.rd (by rw [runI_nat]; exact A1)).mono ?_
      rintro e w3 ⟨rfl, hp⟩
      clear hc0 hc1 hcf r0 r1 r2 r3 t0 t1 t2 t3 c0 c1 c2 f0 f1 f2 hlr hlq hnr hnq
      replace H := H.move hp.1 hp.2
      clear hp
      have hnb : numN s 2 2 < 100 := num2_lt A1
      have H' := H.set1 (numN s 2 2 : Nat)
      obtain ⟨hc0, hc1, hcf⟩ := H.rd
      obtain ⟨⟨r0, r1, r2, r3⟩, t0, t1, t2, t3⟩ := H.cr
      obtain ⟨⟨c0, c1, c2⟩, f0, f1, f2⟩ := H.cp
      have hlr := H.cr.lt
      have hlq := H.cp.lt
      have hnr := Nat.ne_of_lt hlr
      have hnq := Nat.ne_of_lt hlq
      go_wp2_with fail
      clear hc0 hc1 hcf r0 r1 r2 r3 t0 t1 t2 t3 c0 c1 c2 f0 f1 f2 hlr hlq hnr hnq
      replace H := H'
      clear H'
      generalize w3.setCell ⟨q, 1, none⟩ (.int .i64 ((numN s 2 2 : Nat) : Int)) = X2 at *
      rw [rounds_succ]
      by_cases A2 : 2 ≤ runN s 4
      · skip
        obtain ⟨hc0, hc1, hcf⟩ := H.rd
        obtain ⟨⟨r0, r1, r2, r3⟩, t0, t1, t2, t3⟩ := H.cr
        obtain ⟨⟨c0, c1, c2⟩, f0, f1, f2⟩ := H.cp
        have hlr := H.cr.lt
        have hlq := H.cp.lt
        have hnr := Nat.ne_of_lt hlr
        have hnq := Nat.ne_of_lt hlq
        go_wp2_with fail
        refine (number_yes g 2 4 s _ HS.out (by omega) (by omega) H.rd (by rw [runI_nat]; exact A2)).mono ?_
        rintro e w5 ⟨rfl, hp⟩
        clear hc0 hc1 hcf r0 r1 r2 r3 t0 t1 t2 t3 c0 c1 c2 f0 f1 f2 hlr hlq hnr hnq
        replace H := H.move hp.1 hp.2
        clear hp
        have hnb : numN s 4 2 < 100 := num2_lt A2
        have H' := H.set2 (numN s 4 2 : Nat)
        obtain ⟨hc0, hc1, hcf⟩ := H.rd
        obtain ⟨⟨r0, r1, r2, r3⟩, t0, t1, t2, t3⟩ := H.cr
        obtain ⟨⟨c0, c1, c2⟩, f0, f1, f2⟩ := H.cp
        have hlr := H.cr.lt
        have hlq := H.cp.lt
        have hnr := Nat.ne_of_lt hlr
        have hnq := Nat.ne_of_lt hlq
        go_wp2_with fail
        clear hc0 hc1 hcf r0 r1 r2 r3 t0 t1 t2 t3 c0 c1 c2 f0 f1 f2 hlr hlq hnr hnq
        replace H := H'
        clear H'
        generalize w5.setCell ⟨q, 2, none⟩ (.int .i64 ((numN s 4 2 : Nat) : Int)) = X3 at *
        rw [rounds_succ]
        generalize hn0 : numN s 0 2 = n0 at *
        generalize hn1 : numN s 2 2 = n1 at *
        generalize hn2 : numN s 4 2 = n2 at *
        have HN := Lib.hid (And.intro hn0 (And.intro hn1 hn2))
        clear hn0 hn1 hn2
        obtain ⟨hc0, hc1, hcf⟩ := H.rd
        obtain ⟨⟨r0, r1, r2, r3⟩, t0, t1, t2, t3⟩ := H.cr
        obtain ⟨⟨c0, c1, c2⟩, f0, f1, f2⟩ := H.cp
        have hlr := H.cr.lt
        have hlq := H.cp.lt
        have hnr := Nat.ne_of_lt hlr
        have hnq := Nat.ne_of_lt hlq
        go_wp2_with fail
        clear hc0 hc1 hcf r0 r1 r2 r3 t0 t1 t2 t3 c0 c1 c2 f0 f1 f2 hlr hlq hnr hnq
        have HC := Cells4.new X3 25 (.int .i64 n0) (.int .i64 n1) (.int .i64 n2) (.int .i64 0)
        have hcg : X3.heap.size ≠ g := Nat.ne_of_gt H.rd.lt
        have hcr : X3.heap.size ≠ r := Nat.ne_of_gt H.cr.lt
        have hcq : X3.heap.size ≠ q := Nat.ne_of_gt H.cp.lt
        have hcl : w.heap.size ≤ X3.heap.size := H.up.size
        replace H := H.alloc (.cells #[.int .i64 (n0 : Nat), .int .i64 (n1 : Nat), .int .i64 (n2 : Nat), .int .i64 0] 25)
        generalize X3.alloc (.cells #[.int .i64 (n0 : Nat), .int .i64 (n1 : Nat), .int .i64 (n2 : Nat), .int .i64 0] 25) = W5 at *
        generalize X3.heap.size = cb at *
        by_cases D : bt s 6 = 46
        · skip
          have hlt := bt_lt D (by omega)
          obtain ⟨K, hKd⟩ : ∃ K, K = runN s 7 := ⟨_, rfl⟩
          have hKs := runN_le s 7
          rw [← hKd] at hKs
          obtain ⟨hc0, hc1, hcf⟩ := H.rd
          obtain ⟨⟨r0, r1, r2, r3⟩, t0, t1, t2, t3⟩ := H.cr
          obtain ⟨⟨c0, c1, c2⟩, f0, f1, f2⟩ := H.cp
          have hlr := H.cr.lt
          have hlq := H.cp.lt
          have hnr := Nat.ne_of_lt hlr
          have hnq := Nat.ne_of_lt hlq
          refine (take_yes g 6 s 46 _ HS.out H.rd hlt D).mono ?_
          rintro e w6 ⟨rfl, hp⟩
          clear hc0 hc1 hcf r0 r1 r2 r3 t0 t1 t2 t3 c0 c1 c2 f0 f1 f2 hlr hlq hnr hnq
          replace H := H.move hp.1 hp.2
          replace HC := HC.upd hp.2 hcg
          clear hp
          have HRun := Lib.hid (show runI s ((7 : Nat) : Int) = K from by rw [runI_nat]; exact hKd.symm)
          have HKd := Lib.hid hKd
          clear hKd
          obtain ⟨hc0, hc1, hcf⟩ := H.rd
          obtain ⟨⟨r0, r1, r2, r3⟩, t0, t1, t2, t3⟩ := H.cr
          obtain ⟨⟨c0, c1, c2⟩, f0, f1, f2⟩ := H.cp
          have hlr := H.cr.lt
          have hlq := H.cp.lt
          have hnr := Nat.ne_of_lt hlr
          have hnq := Nat.ne_of_lt hlq
          obtain ⟨⟨k0, k1, k2, k3⟩, l0, l1, l2, l3⟩ := id HC
          have hlc := HC.lt
          have hnc := Nat.ne_of_lt hlc
          go_wp2_with fail
          refine (run_any g s ((7 : Nat) : Int) _ HS.out (by omega) (by omega) hc0 hc1).mono ?_
          rw [HRun.out]
          rintro e w7 ⟨rfl, rfl⟩
          go_wp2_with fail
          by_cases hK : 1 ≤ K ∧ K ≤ 3
          · skip
            refine (within_yes _ _ _ _ (by omega) (by omega)).mono ?_
            rintro e w7 ⟨rfl, rfl⟩
            go_wp2_with fail
            refine (number_yes g K 7 s _ HS.out (by omega) (by omega) H.rd (by rw [HRun.out]; exact Nat.le_refl _)).mono ?_
            rintro e w8 ⟨rfl, hp⟩
            clear hc0 hc1 hcf r0 r1 r2 r3 t0 t1 t2 t3 c0 c1 c2 f0 f1 f2 hlr hlq hnr hnq
            clear k0 k1 k2 k3 l0 l1 l2 l3 hlc hnc
            replace H := H.move hp.1 hp.2
            replace HC := HC.upd hp.2 hcg
            clear hp
            have hnm := num_lt (s := s) (k := 7) (m := K) (by have := HKd.out; omega)
            generalize hnn : numN s 7 K = nn at *
            have HNN := Lib.hid hnn
            clear hnn
            have hn1000 : nn < 1000 := Nat.lt_of_lt_of_le hnm (by have : 10 ^ K ≤ 10 ^ 3 := Nat.pow_le_pow_right (by omega) hK.2; omega)
            have H' := H.cset (o := 3) (v := .int .i64 nn) hcg hcr hcq hcl
            have HC' := HC.set3 (.int .i64 (mj nn 0))
            rw [show mj nn 0 = nn by simp [mj]] at HC'
            obtain ⟨hc0, hc1, hcf⟩ := H.rd
            obtain ⟨⟨r0, r1, r2, r3⟩, t0, t1, t2, t3⟩ := H.cr
            obtain ⟨⟨c0, c1, c2⟩, f0, f1, f2⟩ := H.cp
            have hlr := H.cr.lt
            have hlq := H.cp.lt
            have hnr := Nat.ne_of_lt hlr
            have hnq := Nat.ne_of_lt hlq
            obtain ⟨⟨k0, k1, k2, k3⟩, l0, l1, l2, l3⟩ := id HC
            have hlc := HC.lt
            have hnc := Nat.ne_of_lt hlc
            go_wp2_with fail
            clear hc0 hc1 hcf r0 r1 r2 r3 t0 t1 t2 t3 c0 c1 c2 f0 f1 f2 hlr hlq hnr hnq
            clear k0 k1 k2 k3 l0 l1 l2 l3 hlc hnc
            replace H := H'
            replace HC := HC'
            clear H' HC'
            generalize w8.setCell ⟨cb, 3, none⟩ (.int .i64 (nn : Int)) = W9 at *
            go_loopw [83] (fun i wr => ∃ j : Nat, j ≤ 3 - K ∧ i = .int .i64 (j : Int) ∧ RC w g r q s n0 n1 n2 (7 + K) wr ∧ Cells4 wr cb (.int .i64 n0) (.int .i64 n1) (.int .i64 n2) (.int .i64 (mj nn j : Nat))) (fun i _ => 3 - K - (intOf i).toNat)
            case atStart => exact ⟨0, Nat.zero_le _, rfl, H, by rw [show mj nn 0 = nn by simp [mj]]; exact HC⟩
            case round =>
              obtain ⟨j, hj, rfl, H, HC⟩ := hrel
              by_cases hjl : j < 3 - K
              · skip
                have hmb := mj_bd hn1000 (show j ≤ 1 by omega)
                have HM := Lib.hid (mj_succ nn j)
                have H' := H.cset (o := 3) (v := .int .i64 ((mj nn (j + 1) : Nat) : Int)) hcg hcr hcq hcl
                have HC' := HC.set3 (.int .i64 ((mj nn (j + 1) : Nat) : Int))
                obtain ⟨hc0, hc1, hcf⟩ := H.rd
                obtain ⟨⟨r0, r1, r2, r3⟩, t0, t1, t2, t3⟩ := H.cr
                obtain ⟨⟨c0, c1, c2⟩, f0, f1, f2⟩ := H.cp
                have hlr := H.cr.lt
                have hlq := H.cp.lt
                have hnr := Nat.ne_of_lt hlr
                have hnq := Nat.ne_of_lt hlq
                obtain ⟨⟨k0, k1, k2, k3⟩, l0, l1, l2, l3⟩ := id HC
                have hlc := HC.lt
                have hnc := Nat.ne_of_lt hlc
                have HX := Lib.hid (And.intro H' HC')
                clear H' HC' H HC
                go_wp2
                go_roundw
                case rel => exact ⟨j + 1, by omega, by go_num, by rw [HM.out]; exact HX.out.1, by rw [HM.out]; exact HX.out.2⟩
                case measure => simp [intOf]; omega
              · skip
                obtain rfl : j = 3 - K := by omega
                by_cases E : 7 + K = s.size
                · skip
                  obtain ⟨hc0, hc1, hcf⟩ := H.rd
                  obtain ⟨⟨r0, r1, r2, r3⟩, t0, t1, t2, t3⟩ := H.cr
                  obtain ⟨⟨c0, c1, c2⟩, f0, f1, f2⟩ := H.cp
                  have hlr := H.cr.lt
                  have hlq := H.cp.lt
                  have hnr := Nat.ne_of_lt hlr
                  have hnq := Nat.ne_of_lt hlq
                  obtain ⟨⟨k0, k1, k2, k3⟩, l0, l1, l2, l3⟩ := id HC
                  have hlc := HC.lt
                  have hnc := Nat.ne_of_lt hlc
                  go_wp2_with fail
                  refine (done_yes g _ s _ HS.out H.rd E).mono ?_
                  rintro e w9 ⟨rfl, n, rfl⟩
                  clear hc0 hc1 hcf r0 r1 r2 r3 t0 t1 t2 t3 c0 c1 c2 f0 f1 f2 hlr hlq hnr hnq
                  clear k0 k1 k2 k3 l0 l1 l2 l3 hlc hnc
                  replace H := H.drewN n
                  replace HC : Cells4 (wr.drewN n) cb _ _ _ _ := HC
                  generalize wr.drewN n = Y at *
                  obtain ⟨hc0, hc1, hcf⟩ := H.rd
                  obtain ⟨⟨r0, r1, r2, r3⟩, t0, t1, t2, t3⟩ := H.cr
                  obtain ⟨⟨c0, c1, c2⟩, f0, f1, f2⟩ := H.cp
                  have hlr := H.cr.lt
                  have hlq := H.cp.lt
                  have hnr := Nat.ne_of_lt hlr
                  have hnq := Nat.ne_of_lt hlq
                  obtain ⟨⟨k0, k1, k2, k3⟩, l0, l1, l2, l3⟩ := id HC
                  have hlc := HC.lt
                  have hnc := Nat.ne_of_lt hlc
                  go_wp2_with fail
                  clear hc0 hc1 hcf r0 r1 r2 r3 t0 t1 t2 t3 c0 c1 c2 f0 f1 f2 hlr hlq hnr hnq
                  clear k0 k1 k2 k3 l0 l1 l2 l3 hlc hnc
                  by_cases hok : ClockOk n0 n1 n2 ((mj nn (3 - K) : Nat) : Int)
                  · skip
                    have HO := Lib.hid hok
                    clear hok
                    refine (ClockValid_i_yes _ _ _ _ _ HO.out).mono ?_
                    rintro e wv ⟨rfl, hbv⟩
                    replace H := H.below hbv
                    replace HC := HC.below hbv
                    clear hbv
                    obtain ⟨hc0, hc1, hcf⟩ := H.rd
                    obtain ⟨⟨r0, r1, r2, r3⟩, t0, t1, t2, t3⟩ := H.cr
                    obtain ⟨⟨c0, c1, c2⟩, f0, f1, f2⟩ := H.cp
                    have hlr := H.cr.lt
                    have hlq := H.cp.lt
                    have hnr := Nat.ne_of_lt hlr
                    have hnq := Nat.ne_of_lt hlq
                    obtain ⟨⟨k0, k1, k2, k3⟩, l0, l1, l2, l3⟩ := id HC
                    have hlc := HC.lt
                    have hnc := Nat.ne_of_lt hlc
                    go_wp2
                    have hlw := H.lr
                    have HUp := Lib.hid H.up
                    have HCr := Lib.hid H.cr
                    have hrd : ClkRd s (gapN false) n0 n1 n2 (mj nn (3 - K)) := ⟨A0, A1, A2, HN.out.1, HN.out.2.1, HN.out.2.2, (fun h => by simp [gapN] at h), .inr ⟨K, hK.1, hK.2, by simp [gapN]; omega, D, by have := HKd.out; exact Nat.le_of_eq this, by rw [show numN s (7 + 2 * gapN false) K = nn from HNN.out]; rfl⟩⟩
                    refine clk_end w g r s _ n0 n1 n2 ((mj nn (3 - K) : Nat) : Int) .nilIface _ _ ?_ rfl rfl rfl ⟨?_, .inl ⟨n0, n1, n2, (mj nn (3 - K)), hrd, HO.out, rfl⟩⟩
                    all_goals (repeat (first | (with_reducible exact HUp.out) | (with_reducible exact HCr.out.all _ _ _ _) | (with_reducible refine Upd.drew ?_) | (with_reducible refine Cells4.drew ?_) | (with_reducible refine cupd_new ?_ hlw)))
                  · skip
                    have HO := Lib.hid hok
                    clear hok
                    refine (ClockValid_i_no _ _ _ _ _ HO.out).mono ?_
                    rintro e wv ⟨rfl, hbv⟩
                    replace H := H.below hbv
                    clear hbv HC
                    have hrd : ClkRd s (gapN false) n0 n1 n2 (mj nn (3 - K)) := ⟨A0, A1, A2, HN.out.1, HN.out.2.1, HN.out.2.2, (fun h => by simp [gapN] at h), .inr ⟨K, hK.1, hK.2, by simp [gapN]; omega, D, by have := HKd.out; exact Nat.le_of_eq this, by rw [show numN s (7 + 2 * gapN false) K = nn from HNN.out]; rfl⟩⟩
                    have HRd := Lib.hid hrd
                    clear hrd
                    obtain ⟨hc0, hc1, hcf⟩ := H.rd
                    obtain ⟨⟨r0, r1, r2, r3⟩, t0, t1, t2, t3⟩ := H.cr
                    obtain ⟨⟨c0, c1, c2⟩, f0, f1, f2⟩ := H.cp
                    have hlr := H.cr.lt
                    have hlq := H.cp.lt
                    have hnr := Nat.ne_of_lt hlr
                    have hnq := Nat.ne_of_lt hlq
                    go_wp2_with fail
                    obtain ⟨P, hK⟩ := H.at
                    have hrg := H.rg
                    have hlw := H.lr
                    have HK := Lib.hid hK
                    have HCr := Lib.hid H.cr
                    clear hK hc0 hc1 hcf c0 c1 c2 f0 f1 f2 H
                    go_region_held3 (fun w' => w'.cell? ⟨g, 1, none⟩ = some (.int .i64 P) ∧ Upd g w w') ((repeat (first | (with_reducible exact HK.out) | (with_reducible refine kf_drew ?_) | (with_reducible refine kf_alloc _ ?_) | (with_reducible refine kf_set hrg hlw _ _ _ _ ?_)))) (fail)
                    all_goals go_wp2
                    all_goals refine clk_end w g r s _ 0 0 0 0 (.iface 52 (.pointer (some ⟨wv.heap.size, 0, none⟩))) _ _ ?_ rfl rfl rfl ⟨?_, .inr ⟨fun h m c l hx => by obtain ⟨e1, e2, e3, e4⟩ := hx.uniq HRd.out; rw [e1, e2, e3, e4]; exact HO.out, _, rfl⟩⟩
                    all_goals (repeat (first | (with_reducible exact HK.out.2) | (with_reducible exact HCr.out) | (with_reducible refine Upd.drew ?_) | (with_reducible refine Cells4.drew ?_) | (with_reducible refine Upd.alloc ?_ _) | (with_reducible refine Cells4.alloc ?_ _) | (with_reducible refine Cells4.zero ?_) | (with_reducible refine cupd_new ?_ hlw)))
                · skip
                  obtain ⟨hc0, hc1, hcf⟩ := H.rd
                  obtain ⟨⟨r0, r1, r2, r3⟩, t0, t1, t2, t3⟩ := H.cr
                  obtain ⟨⟨c0, c1, c2⟩, f0, f1, f2⟩ := H.cp
                  have hlr := H.cr.lt
                  have hlq := H.cp.lt
                  have hnr := Nat.ne_of_lt hlr
                  have hnq := Nat.ne_of_lt hlq
                  go_wp2_with fail
                  refine (done_no g _ s _ HS.out H.rd E).mono ?_
                  rintro e w9 ⟨rfl, n, rfl⟩
                  clear hc0 hc1 hcf r0 r1 r2 r3 t0 t1 t2 t3 c0 c1 c2 f0 f1 f2 hlr hlq hnr hnq
                  replace H := H.drewN n
                  generalize wr.drewN n = Y at *
                  clear HC
                  obtain ⟨hc0, hc1, hcf⟩ := H.rd
                  obtain ⟨⟨r0, r1, r2, r3⟩, t0, t1, t2, t3⟩ := H.cr
                  obtain ⟨⟨c0, c1, c2⟩, f0, f1, f2⟩ := H.cp
                  have hlr := H.cr.lt
                  have hlq := H.cp.lt
                  have hnr := Nat.ne_of_lt hlr
                  have hnq := Nat.ne_of_lt hlq
                  go_wp2_with fail
                  obtain ⟨P, hK⟩ := H.at
                  have hrg := H.rg
                  have hlw := H.lr
                  have HK := Lib.hid hK
                  have HCr := Lib.hid H.cr
                  clear hK hc0 hc1 hcf c0 c1 c2 f0 f1 f2 H
                  go_region_held3 (fun w' => w'.cell? ⟨g, 1, none⟩ = some (.int .i64 P) ∧ Upd g w w') ((repeat (first | (with_reducible exact HK.out) | (with_reducible refine kf_drew ?_) | (with_reducible refine kf_alloc _ ?_) | (with_reducible refine kf_set hrg hlw _ _ _ _ ?_)))) (fail)
                  all_goals go_wp2
                  all_goals refine clk_end w g r s _ 0 0 0 0 (.iface 52 (.pointer (some ⟨Y.heap.size, 0, none⟩))) _ _ ?_ rfl rfl rfl ⟨?_, .inr ⟨fun h m c l hx => nofr_pos_false hx D HKd.out hKs E, _, rfl⟩⟩
                  all_goals (repeat (first | (with_reducible exact HK.out.2) | (with_reducible exact HCr.out) | (with_reducible refine Upd.drew ?_) | (with_reducible refine Cells4.drew ?_) | (with_reducible refine Upd.alloc ?_ _) | (with_reducible refine Cells4.alloc ?_ _) | (with_reducible refine Cells4.zero ?_) | (with_reducible refine cupd_new ?_ hlw)))
          · skip
            refine (within_no _ _ _ _ (by omega)).mono ?_
            rintro e w7 ⟨rfl, rfl⟩
            clear HC
            go_wp2_with fail
            clear k0 k1 k2 k3 l0 l1 l2 l3 hlc hnc
            obtain ⟨P, hK⟩ := H.at
            have hrg := H.rg
            have hlw := H.lr
            have HK := Lib.hid hK
            have HCr := Lib.hid H.cr
            clear hK hc0 hc1 hcf c0 c1 c2 f0 f1 f2 H
            go_region_held3 (fun w' => w'.cell? ⟨g, 1, none⟩ = some (.int .i64 P) ∧ Upd g w w') ((repeat (first | (with_reducible exact HK.out) | (with_reducible refine kf_drew ?_) | (with_reducible refine kf_alloc _ ?_) | (with_reducible refine kf_set hrg hlw _ _ _ _ ?_)))) (fail)
            all_goals go_wp2
            all_goals refine clk_end w g r s _ 0 0 0 0 (.iface 52 (.pointer (some ⟨w6.heap.size, 0, none⟩))) _ _ ?_ rfl rfl rfl ⟨?_, .inr ⟨fun h m c l hx => nofr_in_false hx D HKd.out hK, _, rfl⟩⟩
            all_goals (repeat (first | (with_reducible exact HK.out.2) | (with_reducible exact HCr.out) | (with_reducible refine Upd.drew ?_) | (with_reducible refine Cells4.drew ?_) | (with_reducible refine Upd.alloc ?_ _) | (with_reducible refine Cells4.alloc ?_ _) | (with_reducible refine Cells4.zero ?_) | (with_reducible refine cupd_new ?_ hlw)))
        · skip
          obtain ⟨hc0, hc1, hcf⟩ := H.rd
          obtain ⟨⟨r0, r1, r2, r3⟩, t0, t1, t2, t3⟩ := H.cr
          obtain ⟨⟨c0, c1, c2⟩, f0, f1, f2⟩ := H.cp
          have hlr := H.cr.lt
          have hlq := H.cp.lt
          have hnr := Nat.ne_of_lt hlr
          have hnq := Nat.ne_of_lt hlq
          refine (take_no g 6 s 46 _ HS.out (by unfold maxLen; omega) H.rd (.inr D)).mono ?_
          rintro e w6 ⟨rfl, n, rfl⟩
          clear hc0 hc1 hcf r0 r1 r2 r3 t0 t1 t2 t3 c0 c1 c2 f0 f1 f2 hlr hlq hnr hnq
          replace H := H.drewN n
          replace HC : Cells4 (W5.drewN n) cb _ _ _ _ := HC
          generalize W5.drewN n = Z6 at *
          by_cases E : 6 = s.size
          · skip
            obtain ⟨hc0, hc1, hcf⟩ := H.rd
            obtain ⟨⟨r0, r1, r2, r3⟩, t0, t1, t2, t3⟩ := H.cr
            obtain ⟨⟨c0, c1, c2⟩, f0, f1, f2⟩ := H.cp
            have hlr := H.cr.lt
            have hlq := H.cp.lt
            have hnr := Nat.ne_of_lt hlr
            have hnq := Nat.ne_of_lt hlq
            obtain ⟨⟨k0, k1, k2, k3⟩, l0, l1, l2, l3⟩ := id HC
            have hlc := HC.lt
            have hnc := Nat.ne_of_lt hlc
            go_wp2_with fail
            refine (done_yes g _ s _ HS.out H.rd E).mono ?_
            rintro e w9 ⟨rfl, n, rfl⟩
            clear hc0 hc1 hcf r0 r1 r2 r3 t0 t1 t2 t3 c0 c1 c2 f0 f1 f2 hlr hlq hnr hnq
            clear k0 k1 k2 k3 l0 l1 l2 l3 hlc hnc
            replace H := H.drewN n
            replace HC : Cells4 (Z6.drewN n) cb _ _ _ _ := HC
            generalize Z6.drewN n = Y at *
            obtain ⟨hc0, hc1, hcf⟩ := H.rd
            obtain ⟨⟨r0, r1, r2, r3⟩, t0, t1, t2, t3⟩ := H.cr
            obtain ⟨⟨c0, c1, c2⟩, f0, f1, f2⟩ := H.cp
            have hlr := H.cr.lt
            have hlq := H.cp.lt
            have hnr := Nat.ne_of_lt hlr
            have hnq := Nat.ne_of_lt hlq
            obtain ⟨⟨k0, k1, k2, k3⟩, l0, l1, l2, l3⟩ := id HC
            have hlc := HC.lt
            have hnc := Nat.ne_of_lt hlc
            go_wp2_with fail
            clear hc0 hc1 hcf r0 r1 r2 r3 t0 t1 t2 t3 c0 c1 c2 f0 f1 f2 hlr hlq hnr hnq
            clear k0 k1 k2 k3 l0 l1 l2 l3 hlc hnc
            by_cases hok : ClockOk n0 n1 n2 (0 : Int)
            · skip
              have HO := Lib.hid hok
              clear hok
              refine (ClockValid_i_yes _ _ _ _ _ HO.out).mono ?_
              rintro e wv ⟨rfl, hbv⟩
              replace H := H.below hbv
              replace HC := HC.below hbv
              clear hbv
              obtain ⟨hc0, hc1, hcf⟩ := H.rd
              obtain ⟨⟨r0, r1, r2, r3⟩, t0, t1, t2, t3⟩ := H.cr
              obtain ⟨⟨c0, c1, c2⟩, f0, f1, f2⟩ := H.cp
              have hlr := H.cr.lt
              have hlq := H.cp.lt
              have hnr := Nat.ne_of_lt hlr
              have hnq := Nat.ne_of_lt hlq
              obtain ⟨⟨k0, k1, k2, k3⟩, l0, l1, l2, l3⟩ := id HC
              have hlc := HC.lt
              have hnc := Nat.ne_of_lt hlc
              go_wp2
              have hlw := H.lr
              have HUp := Lib.hid H.up
              have HCr := Lib.hid H.cr
              have hrd : ClkRd s (gapN false) n0 n1 n2 0 := ⟨A0, A1, A2, HN.out.1, HN.out.2.1, HN.out.2.2, (fun h => by simp [gapN] at h), .inl ⟨E.symm, rfl⟩⟩
              refine clk_end w g r s _ n0 n1 n2 (0 : Int) .nilIface _ _ ?_ rfl rfl rfl ⟨?_, .inl ⟨n0, n1, n2, 0, hrd, HO.out, rfl⟩⟩
              all_goals (repeat (first | (with_reducible exact HUp.out) | (with_reducible exact HCr.out.all _ _ _ _) | (with_reducible refine Upd.drew ?_) | (with_reducible refine Cells4.drew ?_) | (with_reducible refine cupd_new ?_ hlw)))
            · skip
              have HO := Lib.hid hok
              clear hok
              refine (ClockValid_i_no _ _ _ _ _ HO.out).mono ?_
              rintro e wv ⟨rfl, hbv⟩
              replace H := H.below hbv
              clear hbv HC
              have hrd : ClkRd s (gapN false) n0 n1 n2 0 := ⟨A0, A1, A2, HN.out.1, HN.out.2.1, HN.out.2.2, (fun h => by simp [gapN] at h), .inl ⟨E.symm, rfl⟩⟩
              have HRd := Lib.hid hrd
              clear hrd E
              obtain ⟨hc0, hc1, hcf⟩ := H.rd
              obtain ⟨⟨r0, r1, r2, r3⟩, t0, t1, t2, t3⟩ := H.cr
              obtain ⟨⟨c0, c1, c2⟩, f0, f1, f2⟩ := H.cp
              have hlr := H.cr.lt
              have hlq := H.cp.lt
              have hnr := Nat.ne_of_lt hlr
              have hnq := Nat.ne_of_lt hlq
              go_wp2_with fail
              obtain ⟨P, hK⟩ := H.at
              have hrg := H.rg
              have hlw := H.lr
              have HK := Lib.hid hK
              have HCr := Lib.hid H.cr
              clear hK hc0 hc1 hcf c0 c1 c2 f0 f1 f2 H
              go_region_held3 (fun w' => w'.cell? ⟨g, 1, none⟩ = some (.int .i64 P) ∧ Upd g w w') ((repeat (first | (with_reducible exact HK.out) | (with_reducible refine kf_drew ?_) | (with_reducible refine kf_alloc _ ?_) | (with_reducible refine kf_set hrg hlw _ _ _ _ ?_)))) (fail)
              all_goals go_wp2
              all_goals refine clk_end w g r s _ 0 0 0 0 (.iface 52 (.pointer (some ⟨wv.heap.size, 0, none⟩))) _ _ ?_ rfl rfl rfl ⟨?_, .inr ⟨fun h m c l hx => by obtain ⟨e1, e2, e3, e4⟩ := hx.uniq HRd.out; rw [e1, e2, e3, e4]; exact HO.out, _, rfl⟩⟩
              all_goals (repeat (first | (with_reducible exact HK.out.2) | (with_reducible exact HCr.out) | (with_reducible refine Upd.drew ?_) | (with_reducible refine Cells4.drew ?_) | (with_reducible refine Upd.alloc ?_ _) | (with_reducible refine Cells4.alloc ?_ _) | (with_reducible refine Cells4.zero ?_) | (with_reducible refine cupd_new ?_ hlw)))
          · skip
            obtain ⟨hc0, hc1, hcf⟩ := H.rd
            obtain ⟨⟨r0, r1, r2, r3⟩, t0, t1, t2, t3⟩ := H.cr
            obtain ⟨⟨c0, c1, c2⟩, f0, f1, f2⟩ := H.cp
            have hlr := H.cr.lt
            have hlq := H.cp.lt
            have hnr := Nat.ne_of_lt hlr
            have hnq := Nat.ne_of_lt hlq
            go_wp2_with fail
            refine (done_no g _ s _ HS.out H.rd E).mono ?_
            rintro e w9 ⟨rfl, n, rfl⟩
            clear hc0 hc1 hcf r0 r1 r2 r3 t0 t1 t2 t3 c0 c1 c2 f0 f1 f2 hlr hlq hnr hnq
            replace H := H.drewN n
            generalize Z6.drewN n = Y at *
            clear HC
            obtain ⟨hc0, hc1, hcf⟩ := H.rd
            obtain ⟨⟨r0, r1, r2, r3⟩, t0, t1, t2, t3⟩ := H.cr
            obtain ⟨⟨c0, c1, c2⟩, f0, f1, f2⟩ := H.cp
            have hlr := H.cr.lt
            have hlq := H.cp.lt
            have hnr := Nat.ne_of_lt hlr
            have hnq := Nat.ne_of_lt hlq
            go_wp2_with fail
            obtain ⟨P, hK⟩ := H.at
            have hrg := H.rg
            have hlw := H.lr
            have HK := Lib.hid hK
            have HCr := Lib.hid H.cr
            clear hK hc0 hc1 hcf c0 c1 c2 f0 f1 f2 H
            go_region_held3 (fun w' => w'.cell? ⟨g, 1, none⟩ = some (.int .i64 P) ∧ Upd g w w') ((repeat (first | (with_reducible exact HK.out) | (with_reducible refine kf_drew ?_) | (with_reducible refine kf_alloc _ ?_) | (with_reducible refine kf_set hrg hlw _ _ _ _ ?_)))) (fail)
            all_goals go_wp2
            all_goals refine clk_end w g r s _ 0 0 0 0 (.iface 52 (.pointer (some ⟨Y.heap.size, 0, none⟩))) _ _ ?_ rfl rfl rfl ⟨?_, .inr ⟨fun h m c l hx => nofr_neg_false hx D E, _, rfl⟩⟩
            all_goals (repeat (first | (with_reducible exact HK.out.2) | (with_reducible exact HCr.out) | (with_reducible refine Upd.drew ?_) | (with_reducible refine Cells4.drew ?_) | (with_reducible refine Upd.alloc ?_ _) | (with_reducible refine Cells4.alloc ?_ _) | (with_reducible refine Cells4.zero ?_) | (with_reducible refine cupd_new ?_ hlw)))
      · skip
        obtain ⟨hc0, hc1, hcf⟩ := H.rd
        obtain ⟨⟨r0, r1, r2, r3⟩, t0, t1, t2, t3⟩ := H.cr
        obtain ⟨⟨c0, c1, c2⟩, f0, f1, f2⟩ := H.cp
        have hlr := H.cr.lt
        have hlq := H.cp.lt
        have hnr := Nat.ne_of_lt hlr
        have hnq := Nat.ne_of_lt hlq
        go_wp2_with fail
        refine (number_no g 2 s 4 _ HS.out (by omega) (by omega) (by omega) H.rd (by rw [show ((4 : Int)) = ((4 : Nat) : Int) from rfl, runI_nat]; omega)).mono ?_
        rintro e w9 ⟨rfl, rfl⟩
        go_wp2_with fail
        obtain ⟨P, hK⟩ := H.at
        have hrg := H.rg
        have hlw := H.lr
        have HK := Lib.hid hK
        have HCr := Lib.hid H.cr
        clear hK hc0 hc1 hcf c0 c1 c2 f0 f1 f2 H
        go_region_held3 (fun w' => w'.cell? ⟨g, 1, none⟩ = some (.int .i64 P) ∧ Upd g w w') ((repeat (first | (with_reducible exact HK.out) | (with_reducible refine kf_drew ?_) | (with_reducible refine kf_alloc _ ?_) | (with_reducible refine kf_set hrg hlw _ _ _ _ ?_)))) (fail)
        all_goals go_wp2
        all_goals refine clk_end w g r s _ 0 0 0 0 (.iface 52 (.pointer (some ⟨X2.heap.size, 0, none⟩))) _ _ ?_ rfl rfl rfl ⟨?_, .inr ⟨fun h m c l hx => absurd hx.r2 A2, _, rfl⟩⟩
        all_goals (repeat (first | (with_reducible exact HK.out.2) | (with_reducible exact HCr.out) | (with_reducible refine Upd.drew ?_) | (with_reducible refine Cells4.drew ?_) | (with_reducible refine Upd.alloc ?_ _) | (with_reducible refine Cells4.alloc ?_ _) | (with_reducible refine Cells4.zero ?_) | (with_reducible refine cupd_new ?_ hlw)))
    · skip
      obtain ⟨hc0, hc1, hcf⟩ := H.rd
      obtain ⟨⟨r0, r1, r2, r3⟩, t0, t1, t2, t3⟩ := H.cr
      obtain ⟨⟨c0, c1, c2⟩, f0, f1, f2⟩ := H.cp
      have hlr := H.cr.lt
      have hlq := H.cp.lt
      have hnr := Nat.ne_of_lt hlr
      have hnq := Nat.ne_of_lt hlq
      go_wp2_with fail
      refine (number_no g 2 s 2 _ HS.out (by omega) (by omega) (by omega) H.rd (by rw [show ((2 : Int)) = ((2 : Nat) : Int) from rfl, runI_nat]; omega)).mono ?_
      rintro e w9 ⟨rfl, rfl⟩
      go_wp2_with fail
      obtain ⟨P, hK⟩ := H.at
      have hrg := H.rg
      have hlw := H.lr
      have HK := Lib.hid hK
      have HCr := Lib.hid H.cr
      clear hK hc0 hc1 hcf c0 c1 c2 f0 f1 f2 H
      go_region_held3 (fun w' => w'.cell? ⟨g, 1, none⟩ = some (.int .i64 P) ∧ Upd g w w') ((repeat (first | (with_reducible exact HK.out) | (with_reducible refine kf_drew ?_) | (with_reducible refine kf_alloc _ ?_) | (with_reducible refine kf_set hrg hlw _ _ _ _ ?_)))) (fail)
      all_goals go_wp2
      all_goals refine clk_end w g r s _ 0 0 0 0 (.iface 52 (.pointer (some ⟨X1.heap.size, 0, none⟩))) _ _ ?_ rfl rfl rfl ⟨?_, .inr ⟨fun h m c l hx => absurd hx.r1 A1, _, rfl⟩⟩
      all_goals (repeat (first | (with_reducible exact HK.out.2) | (with_reducible exact HCr.out) | (with_reducible refine Upd.drew ?_) | (with_reducible refine Cells4.drew ?_) | (with_reducible refine Upd.alloc ?_ _) | (with_reducible refine Cells4.alloc ?_ _) | (with_reducible refine Cells4.zero ?_) | (with_reducible refine cupd_new ?_ hlw)))
  · skip
    obtain ⟨hc0, hc1, hcf⟩ := H.rd
    obtain ⟨⟨r0, r1, r2, r3⟩, t0, t1, t2, t3⟩ := H.cr
    obtain ⟨⟨c0, c1, c2⟩, f0, f1, f2⟩ := H.cp
    have hlr := H.cr.lt
    have hlq := H.cp.lt
    have hnr := Nat.ne_of_lt hlr
    have hnq := Nat.ne_of_lt hlq
    go_wp2_with fail
    refine (number_no g 2 s 0 _ HS.out (by omega) (by omega) (by omega) H.rd (by rw [show ((0 : Int)) = ((0 : Nat) : Int) from rfl, runI_nat]; omega)).mono ?_
    rintro e w9 ⟨rfl, rfl⟩
    go_wp2_with fail
    obtain ⟨P, hK⟩ := H.at
    have hrg := H.rg
    have hlw := H.lr
    have HK := Lib.hid hK
    have HCr := Lib.hid H.cr
    clear hK hc0 hc1 hcf c0 c1 c2 f0 f1 f2 H
    go_region_held3 (fun w' => w'.cell? ⟨g, 1, none⟩ = some (.int .i64 P) ∧ Upd g w w') ((repeat (first | (with_reducible exact HK.out) | (with_reducible refine kf_drew ?_) | (with_reducible refine kf_alloc _ ?_) | (with_reducible refine kf_set hrg hlw _ _ _ _ ?_)))) (fail)
    all_goals go_wp2
    all_goals refine clk_end w g r s _ 0 0 0 0 (.iface 52 (.pointer (some ⟨W0.heap.size, 0, none⟩))) _ _ ?_ rfl rfl rfl ⟨?_, .inr ⟨fun h m c l hx => absurd hx.r0 A0, _, rfl⟩⟩
    all_goals (repeat (first | (with_reducible exact HK.out.2) | (with_reducible exact HCr.out) | (with_reducible refine Upd.drew ?_) | (with_reducible refine Cells4.drew ?_) | (with_reducible refine Upd.alloc ?_ _) | (with_reducible refine Cells4.alloc ?_ _) | (with_reducible refine Cells4.zero ?_) | (with_reducible refine cupd_new ?_ hlw)))
end Go.Proofs.YtkdhlgfpnkdbmaaDoor
