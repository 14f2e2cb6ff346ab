/-
  Contract of the draw of a day of a week: it returns something small and leaves what was there. Conditions: as it states.
-/
import Derived.Test.YtjgpfadoebnchaaDoorDrawDate2
namespace Go.Proofs.YtjgpfadoebnchaaDoor
open Go.RowKit Go.PlainAid
set_option linter.unusedVariables false

/-- A small day of a week; what was there is as it was. -/
def WeekPost (w : World) (e : Ending) (w' : World) : Prop := ∃ y k d : Int, -10 ≤ y ∧ y ≤ 10000 ∧ -10 ≤ k ∧ k ≤ 100 ∧ -10 ≤ d ∧ d ≤ 100 ∧ e = .returned (.agg #[.int .i64 y, .int .i64 k, .int .i64 d]) ∧ Below w.heap.size w w'
theorem rd_new_low {B : Nat} {w : World} {a : Option Addr} {len cap : Nat} (T : TypeId) (hB : B ≤ w.heap.size) (h : Bytes B w a len) (h1 : len ≤ 2000) (h2 : len ≤ cap) : Rd B (w.alloc (.cells #[.slice a len cap, .int .i64 0] T)) w.heap.size 0 :=
  ⟨hB, by simp, by simp, by simp, a, len, cap, h1, h2, by simp, h.below ((Below.refl _ _).alloc hB _)⟩
theorem l6Open_low (B : Nat) (a : Option Addr) (len cap : Nat) (w : World) (hl : len ≤ cap) (hm : cap ≤ maxLen) (hB : B ≤ w.heap.size) (h : Bytes B w a len) : Calls Tryd.prog 45 #[.slice a len cap] w fun e w' => e = .returned (.pointer (some ⟨w.heap.size, 0, none⟩)) ∧ Rd B w' w.heap.size 0 ∧ Below w.heap.size w w' := by
  unfold maxLen at hm
  by_cases hlen : (2000 : Int) < (len : Int)
  · obtain ⟨b, off, rfl, hlt, hc⟩ := h.some_ (by omega)
    have HB := Lib.hid (bytes_take h (show 2000 ≤ len from by omega))
    clear h hc
    go_enter Tryd.func45, Tryd.ntmps45
    go_wp2
    go_ret
    exact ⟨rfl, rd_new_low _ hB HB.out (by omega) (by omega), (Below.refl _ _).alloc (Nat.le_refl _) _⟩
  · have HB := Lib.hid h
    clear h
    go_enter Tryd.func45, Tryd.ntmps45
    go_wp2
    go_ret
    exact ⟨rfl, rd_new_low _ hB HB.out (by omega) (by omega), (Below.refl _ _).alloc (Nat.le_refl _) _⟩
set_option maxHeartbeats 1000000 in
theorem DrawWeekDate_any (a : Option Addr) (len cap : Nat) (w : World) (hl : len ≤ cap) (hm : cap ≤ maxLen) (h : Bytes w.heap.size w a len) : Calls Tryd.prog 33 #[.slice a len cap] w (WeekPost w) := by
  go_enter Tryd.func33, Tryd.ntmps33
  go_wp2_with fail
  refine (l6Open_low w.heap.size a len cap _ hl hm (by simp) (h.below ((Below.refl _ _).alloc (Nat.le_refl _) _))).mono ?_
  rintro e w0 ⟨rfl, hR0, hb0⟩
  have hC := (Cells3.new w 29 (.int .i64 0) (.int .i64 0) (.int .i64 0)).below hb0
  have hu0 := ((Upd.refl (w.heap.size + 1) w).alloc (.cells #[.int .i64 0, .int .i64 0, .int .i64 0] 29)).trans (Upd.of_below hb0)
  have hsz : (w.alloc (.cells #[.int .i64 0, .int .i64 0, .int .i64 0] 29)).heap.size = w.heap.size + 1 := by simp
  rw [hsz] at hR0
  rw [hsz]
  obtain ⟨g, hg⟩ : ∃ g, g = w.heap.size + 1 := ⟨_, rfl⟩
  rw [← hg] at hR0 hu0 ⊢
  have hgr : w.heap.size ≠ g := by omega
  have hgl : w.heap.size < g := by omega
  clear hb0 hsz h hg
  go_wp2_with fail
  refine (l91Year_any w.heap.size g 0 w0 hR0 (by omega)).mono ?_
  rintro e w1 ⟨yy, hy0, hy1, rfl, ⟨p1, hp1, hR1⟩, hu1⟩
  have hC1 := hC.upd hu1 hgr
  have hv1 := hu0.trans hu1
  clear hR0 hu0 hu1 hC
  go_wp2_with fail
  refine (pick_any w.heap.size g _ _ _ hR1 (by omega) (by omega) (by omega)).mono ?_
  rintro e w2 ⟨k2, k20, k21, rfl, hR2, hu2⟩
  go_wp2_with fail
  refine (pick_any w.heap.size g _ _ _ hR2 (by omega) (by omega) (by omega)).mono ?_
  rintro e w3 ⟨k3, k30, k31, rfl, hR3, hu3⟩
  have hu23 := hu2.trans hu3
  have hC3 := hC1.upd hu23 hgr
  have hs3 := hC3.lt
  have hg3 := rd_lt hR3
  have hC4 := hC3.alloc (.cells #[.int .i64 yy, .int .i64 (1 + k2), .int .i64 (1 + k3)] 29)
  have H : LD w.heap.size g (p1 + 1 + 1) w.heap.size w3.heap.size yy (1 + k2) (1 + k3) w (w3.alloc (.cells #[.int .i64 yy, .int .i64 (1 + k2), .int .i64 (1 + k3)] 29)) :=
    { rd := rd_alloc hR3 _, upd := (hv1.trans hu23).alloc _, rg := hgr, bg := by omega, rb := by omega, lr := Nat.le_refl _, lb := by omega, sr := by simp; omega, sb := by simp, c0 := by simp, c1 := by simp, c2 := by simp, f1 := by simp, f2 := by simp,
      r0 := hC4.1, r1 := hC4.2.1, r2 := hC4.2.2.1, q0 := hC4.2.2.2.1, q1 := hC4.2.2.2.2.1, q2 := hC4.2.2.2.2.2 }
  clear hC1 hC3 hC4 hu23 hu2 hu3 hR2 hR3 hR1 hv1
  go_wp2_with fail
  refine (pick_any w.heap.size g _ _ _ H.rd (by omega) (by omega) (by omega)).mono ?_
  rintro e w4 ⟨k, k0, k1, rfl, hR4, hu4⟩
  replace H := H.step hu4 hR4
  clear hR4 hu4
  obtain ⟨kk, hkk⟩ : ∃ kk, kk = 1 + k2 := ⟨_, rfl⟩
  obtain ⟨dd, hdd⟩ : ∃ dd, dd = 1 + k3 := ⟨_, rfl⟩
  rw [← hkk, ← hdd] at H
  have hk0 : 1 ≤ kk := by omega
  have hk1 : kk ≤ 53 := by omega
  have hd0 : 1 ≤ dd := by omega
  have hd1 : dd ≤ 7 := by omega
  clear hkk hdd
  generalize w3.heap.size = bb at *
  by_cases h0 : k = 0
  · have q0 := dt_ h0
    clear h0 k0 k1
    have HI := Lib.hid (intRow_alloc w4 [0, 1, 52, 53, 54] 3 0 54 (by decide))
    have hsb := H.sb
    have hgw := rd_lt H.rd
    go_wp2_with fail
    refine (pick_any w.heap.size g _ _ _ (H.al _).rd (by omega) (by omega) (by omega)).mono ?_
    rintro e w5 ⟨x, x0, x1, rfl, hR5, hu5⟩
    obtain ⟨i, rfl⟩ := Int.eq_ofNat_of_zero_le x0
    obtain ⟨v, hv0, hv1, hc⟩ := HI.out.upd hu5 (by omega) i (by show i < 5; omega)
    replace H := (H.al _).step hu5 hR5
    clear hR5 hu5 HI
    have H' := H.s1 (Nat.le_refl _) v
    have c0 := H.c0
    have c1 := H.c1
    have c2 := H.c2
    have f1 := H.f1
    have f2 := H.f2
    have r0 := H.r0
    have r1 := H.r1
    have r2 := H.r2
    have t0 := H.q0
    have t1 := H.q1
    have t2 := H.q2
    have rb := H.rb
    have rb' := H.rb.symm
    go_wp2_with fail
    clear c0 c1 c2 f1 f2 r0 r1 r2 t0 t1 t2 rb rb'
    clear H hc hk0 hk1
    have H := H'
    clear H'
    generalize v = kk at *
    have hF := H.fin (Nat.le_refl _) (.int .i64 yy) (.int .i64 kk) (.int .i64 dd)
    have c0 := H.c0
    have c1 := H.c1
    have c2 := H.c2
    have f1 := H.f1
    have f2 := H.f2
    have r0 := H.r0
    have r1 := H.r1
    have r2 := H.r2
    have t0 := H.q0
    have t1 := H.q1
    have t2 := H.q2
    have rb := H.rb
    have rb' := H.rb.symm
    clear H
    have HF := Lib.hid hF
    clear hF
    go_wp2
    refine bodyPost_ret (v := .agg #[.int .i64 yy, .int .i64 kk, .int .i64 dd]) (by simp [results, Tryd.results33, go_sem, r0, r1, r2]) rfl ⟨yy, kk, dd, by omega, by omega, by omega, by omega, by omega, by omega, rfl, HF.out.2.below (by omega) (Nat.le_refl _)⟩
  · by_cases h1 : k = 1
    · have q0 := df_ h0
      have q1 := dt_ h1
      clear h0 h1 k0 k1
      go_wp2_with fail
      refine (pick_any w.heap.size g _ _ _ H.rd (by omega) (by omega) (by omega)).mono ?_
      rintro e w5 ⟨x, x0, x1, rfl, hR5, hu5⟩
      have H := H.step hu5 hR5
      clear hR5 hu5
      have H' := H.s2 (Nat.le_refl _) (x - 1)
      have c0 := H.c0
      have c1 := H.c1
      have c2 := H.c2
      have f1 := H.f1
      have f2 := H.f2
      have r0 := H.r0
      have r1 := H.r1
      have r2 := H.r2
      have t0 := H.q0
      have t1 := H.q1
      have t2 := H.q2
      have rb := H.rb
      have rb' := H.rb.symm
      go_wp2_with fail
      clear c0 c1 c2 f1 f2 r0 r1 r2 t0 t1 t2 rb rb'
      clear H hd0 hd1
      have hd0 : -1 ≤ x - 1 := by omega
      have hd1 : x - 1 ≤ 8 := by omega
      have H := H'
      clear H' x0 x1
      generalize x - 1 = dd at *
      have hF := H.fin (Nat.le_refl _) (.int .i64 yy) (.int .i64 kk) (.int .i64 dd)
      have c0 := H.c0
      have c1 := H.c1
      have c2 := H.c2
      have f1 := H.f1
      have f2 := H.f2
      have r0 := H.r0
      have r1 := H.r1
      have r2 := H.r2
      have t0 := H.q0
      have t1 := H.q1
      have t2 := H.q2
      have rb := H.rb
      have rb' := H.rb.symm
      clear H
      have HF := Lib.hid hF
      clear hF
      go_wp2
      refine bodyPost_ret (v := .agg #[.int .i64 yy, .int .i64 kk, .int .i64 dd]) (by simp [results, Tryd.results33, go_sem, r0, r1, r2]) rfl ⟨yy, kk, dd, by omega, by omega, by omega, by omega, by omega, by omega, rfl, HF.out.2.below (by omega) (Nat.le_refl _)⟩
    · have q0 := df_ h0
      have q1 := df_ h1
      clear h0 h1 k0 k1
      have hF := H.fin (Nat.le_refl _) (.int .i64 yy) (.int .i64 kk) (.int .i64 dd)
      have c0 := H.c0
      have c1 := H.c1
      have c2 := H.c2
      have f1 := H.f1
      have f2 := H.f2
      have r0 := H.r0
      have r1 := H.r1
      have r2 := H.r2
      have t0 := H.q0
      have t1 := H.q1
      have t2 := H.q2
      have rb := H.rb
      have rb' := H.rb.symm
      clear H
      have HF := Lib.hid hF
      clear hF
      go_wp2
      refine bodyPost_ret (v := .agg #[.int .i64 yy, .int .i64 kk, .int .i64 dd]) (by simp [results, Tryd.results33, go_sem, r0, r1, r2]) rfl ⟨yy, kk, dd, by omega, by omega, by omega, by omega, by omega, by omega, rfl, HF.out.2.below (by omega) (Nat.le_refl _)⟩
end Go.Proofs.YtjgpfadoebnchaaDoor
