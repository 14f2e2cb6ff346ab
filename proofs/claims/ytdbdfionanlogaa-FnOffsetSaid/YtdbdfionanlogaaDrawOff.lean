/-
  Contracts of the draws of offsets: each returns something small and leaves what was there. Conditions: as each states.
-/
import Derived.Test.YtdbdfionanlogaaDrawYear
namespace Go.Proofs.Ytdbdfionanlogaa
open Go.RowKit Go.PlainAid
set_option linter.unusedVariables false

theorem l91Offset_any (B g p : Nat) (w : World) (hR : Rd B w g p) (hp : p ≤ 1000) : Calls Try.prog 29 #[.pointer (some ⟨g, 0, none⟩)] w (NumDraw B g p 2 (-1440) 1440 w) := by
  have hg := rd_lt hR
  go_enter Try.func29, Try.ntmps29
  go_wp2_with fail
  refine (pick_any B g _ _ _ hR (by omega) (by omega) (by omega)).mono ?_
  rintro e w1 ⟨k, k0, k1, rfl, hR1, hu1⟩
  clear hR
  have hg1 := rd_lt hR1
  by_cases h0 : k = 0
  · have q0 := dt_ h0
    clear h0 k0 k1
    have HI := Lib.hid (intRow_alloc w1 [-1440, -1439, 1439, 1440, 1, -1] 3 (-1440) 1440 (by decide))
    go_wp2_with fail
    refine (pick_any B g _ _ _ (rd_alloc hR1 _) (by omega) (by omega) (by omega)).mono ?_
    rintro e w2 ⟨x, x0, x1, rfl, hR2, hu2⟩
    obtain ⟨i, rfl⟩ := Int.eq_ofNat_of_zero_le x0
    obtain ⟨v, hv0, hv1, hc⟩ := HI.out.upd hu2 (by omega) i (by show i < 6; omega)
    have hu := (hu1.alloc _).trans hu2
    clear hR1 hu1 hu2 HI
    go_wp2_with fail
    go_ret
    exact ⟨v, by omega, by omega, rfl, ⟨_, by omega, hR2⟩, hu⟩
  · have q0 := df_ h0
    by_cases h1 : k = 1
    · have q1 := dt_ h1
      clear h0 h1 k0 k1
      go_wp2_with fail
      go_ret
      exact ⟨0, by omega, by omega, rfl, ⟨_, by omega, hR1⟩, hu1⟩
    · have q1 := df_ h1
      by_cases h2 : k = 2
      · have q2 := dt_ h2
        clear h0 h1 h2 k0 k1
        go_wp2_with fail
        go_ret
        exact ⟨0, by omega, by omega, rfl, ⟨_, by omega, hR1⟩, hu1⟩
      · have q2 := df_ h2
        clear h0 h1 h2 k0 k1
        go_wp2_with fail
        refine (pick_any B g _ _ _ hR1 (by omega) (by omega) (by omega)).mono ?_
        rintro e w2 ⟨x, x0, x1, rfl, hR2, hu2⟩
        have hu := hu1.trans hu2
        clear hR1 hu1 hu2
        go_wp2_with fail
        go_ret
        exact ⟨30 * (x - 24), by omega, by omega, rfl, ⟨_, by omega, hR2⟩, hu⟩
theorem DrawOffsetText_any (a : Option Addr) (len cap : Nat) (w : World) (hl : len ≤ cap) (hm : cap ≤ maxLen) (h : Bytes w.heap.size w a len) : Calls Try.prog 17 #[.slice a len cap] w fun e w' => ∃ n : Int, -1440 ≤ n ∧ n ≤ 1440 ∧ e = .returned (.int .i64 n) ∧ Below w.heap.size w w' := by
  go_enter Try.func17, Try.ntmps17
  go_wp2_with fail
  refine (l6Open_any a len cap w hl hm h).mono ?_
  rintro e w0 ⟨rfl, hR0, hb0⟩
  clear h
  go_wp2_with fail
  refine (l91Offset_any _ _ _ _ hR0 (by omega)).mono ?_
  rintro e w1 ⟨n, n0, n1, rfl, -, hu1⟩
  have hb1 := hb0.trans (hu1.below (Nat.le_refl _) hb0.size)
  clear hR0 hb0 hu1
  go_wp2_with fail
  go_ret
  exact ⟨n, n0, n1, rfl, hb1⟩
end Go.Proofs.Ytdbdfionanlogaa
