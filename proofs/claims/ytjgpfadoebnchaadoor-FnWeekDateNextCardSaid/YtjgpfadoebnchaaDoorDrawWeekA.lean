/-
  The draw of a year of weeks: it returns something small and leaves what was there. Conditions: as it states.
-/
import Derived.Test.YtjgpfadoebnchaaDoorDrawYear
namespace Go.Proofs.YtjgpfadoebnchaaDoor
open Go.RowKit Go.PlainAid
set_option linter.unusedVariables false

theorem DrawWeeksOf_any (a : Option Addr) (len cap : Nat) (w : World) (hl : len ≤ cap) (hm : cap ≤ maxLen) (h : Bytes w.heap.size w a len) : Calls Tryd.prog 25 #[.slice a len cap] w (OnePost w) := by
  go_enter Tryd.func25, Tryd.ntmps25
  go_wp2_with fail
  refine (l6Open_any a len cap w hl hm h).mono ?_
  rintro e w0 ⟨rfl, hR0, hb0⟩
  clear h
  go_wp2_with fail
  refine (l91Year_any w.heap.size w.heap.size _ _ hR0 (by omega)).mono ?_
  rintro e w2 ⟨x, hx0, hx1, rfl, ⟨p2, hp2, hR2⟩, hu2⟩
  have hb2 := hb0.trans (hu2.below (Nat.le_refl _) hb0.size)
  clear hR0 hb0 hu2 hR2
  go_wp2_with fail
  go_ret
  exact ⟨x, by omega, by omega, rfl, hb2⟩
end Go.Proofs.YtjgpfadoebnchaaDoor
