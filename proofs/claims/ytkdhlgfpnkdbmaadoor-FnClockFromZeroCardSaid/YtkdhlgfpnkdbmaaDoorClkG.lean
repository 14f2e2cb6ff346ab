/-
  Contract: the time of a text, by the reference. Conditions: as it states.
-/
import Derived.Test.YtkdhlgfpnkdbmaaDoorClkF
import Derived.Test.YtkdhlgfpnkdbmaaDoorClkN
namespace Go.Proofs.YtkdhlgfpnkdbmaaDoor
open Go.RowKit Go.PlainAid
set_option linter.unusedVariables false

/-- The contract of one reading. -/
def ReadCon (g : Nat) : Prop := ∀ (s : ByteArray) (w : World), s.size ≤ 2000000 → Calls Tryd.prog 24 #[.string s, .int .i64 (g : Int)] w (ReadRes s g w)
/-- What the walk holds: the result's cells, and that nothing of before is turned. -/
structure GS (w W : World) : Prop where
  cr : Cells4 W w.heap.size (.int .i64 0) (.int .i64 0) (.int .i64 0) (.int .i64 0)
  bl : Below w.heap.size w W
theorem GS.below {w W W' : World} (h : GS w W) (hb : Below W.heap.size W W') : GS w W' := ⟨h.cr.below hb, below2 h.bl hb⟩
theorem GS.start (w : World) (T : TypeId) : GS w (w.alloc (.cells #[.int .i64 0, .int .i64 0, .int .i64 0, .int .i64 0] T)) := ⟨Cells4.new w T _ _ _ _, (Below.refl _ _).alloc (Nat.le_refl _) _⟩
set_option maxHeartbeats 2000000 in
theorem ClockFrom_s (hA : ReadCon 0) (hB : ReadCon 1) (s : ByteArray) (w : World) (hs : s.size ≤ 2000000) : Calls Tryd.prog 11 #[.string s] w (FromRes s w) := by
  go_enter Tryd.func11, Tryd.ntmps11
  go_wp2_with fail
  refine wp_loop_rounds 3 ?_
  rw [rounds_succ]
  go_wp2_with fail
  have H0 := GS.start w 25
  generalize w.alloc (.cells #[.int .i64 0, .int .i64 0, .int .i64 0, .int .i64 0] 25) = W0 at *
  refine (hA s _ hs).mono ?_
  rintro e w1 ⟨hb, ⟨h, m, c, l, hx, hok, rfl⟩ | ⟨hno, h, m, c, l, rfl⟩⟩
  · have H1 := H0.below hb
    clear hb
    have HX := Lib.hid (And.intro hx hok)
    clear hx hok
    obtain ⟨⟨r0, r1, r2, r3⟩, t0, t1, t2, t3⟩ := H1.cr
    have hlt := H1.cr.lt
    have hne := Nat.ne_of_lt hlt
    have hne' := Nat.ne_of_gt hlt
    go_wp2_with fail
    refine bodyPost_ret (v := .tuple #[.agg #[.int .i64 h, .int .i64 m, .int .i64 c, .int .i64 l], .bool false, .bool true]) ?_ rfl ⟨?_, .inl ⟨false, h, m, c, l, HX.out.1, HX.out.2, rfl⟩⟩
    · simp [results, Tryd.results11, go_sem, r0, r1, r2, r3, hlt]
    · (repeat (first | (with_reducible exact H1.bl) | (with_reducible refine Below.setCell ?_ (by exact Nat.le_refl _) _) | (with_reducible refine Below.alloc ?_ (by simp; omega) _)))
  · have H1 := H0.below hb
    have HNH1 := Lib.hid hno
    clear hb hno H0
    go_wp2_with fail
    have H2 := H1.below ((Below.refl _ _).alloc (Nat.le_refl _) (.cells #[.int .i64 h, .int .i64 m, .int .i64 c, .int .i64 l] 25))
    generalize w1.alloc (.cells #[.int .i64 h, .int .i64 m, .int .i64 c, .int .i64 l] 25) = W2 at *
    clear H1
    rw [rounds_succ]
    go_wp2_with fail
    refine (hB s _ hs).mono ?_
    rintro e w3 ⟨hb, ⟨h, m, c, l, hx, hok, rfl⟩ | ⟨hno, h, m, c, l, rfl⟩⟩
    · have H3 := H2.below hb
      clear hb
      have HX := Lib.hid (And.intro hx hok)
      clear hx hok
      obtain ⟨⟨r0, r1, r2, r3⟩, t0, t1, t2, t3⟩ := H3.cr
      have hlt := H3.cr.lt
      have hne := Nat.ne_of_lt hlt
      have hne' := Nat.ne_of_gt hlt
      go_wp2_with fail
      refine bodyPost_ret (v := .tuple #[.agg #[.int .i64 h, .int .i64 m, .int .i64 c, .int .i64 l], .bool true, .bool true]) ?_ rfl ⟨?_, .inl ⟨true, h, m, c, l, HX.out.1, HX.out.2, rfl⟩⟩
      · simp [results, Tryd.results11, go_sem, r0, r1, r2, r3, hlt]
      · (repeat (first | (with_reducible exact H3.bl) | (with_reducible refine Below.setCell ?_ (by exact Nat.le_refl _) _) | (with_reducible refine Below.alloc ?_ (by simp; omega) _)))
    · have H3 := H2.below hb
      have HNH3 := Lib.hid hno
      clear hb hno H2
      obtain ⟨⟨r0, r1, r2, r3⟩, t0, t1, t2, t3⟩ := H3.cr
      have hlt := H3.cr.lt
      have hne := Nat.ne_of_lt hlt
      have hne' := Nat.ne_of_gt hlt
      go_wp2_with fail
      rw [rounds_succ]
      go_wp2_with fail
      refine bodyPost_ret (v := .tuple #[.agg #[.int .i64 0, .int .i64 0, .int .i64 0, .int .i64 0], .bool false, .bool false]) ?_ rfl ⟨?_, .inr ⟨?_, rfl⟩⟩
      · simp [results, Tryd.results11, go_sem, r0, r1, r2, r3, hlt]
      · (repeat (first | (with_reducible exact H3.bl) | (with_reducible refine Below.setCell ?_ (by exact Nat.le_refl _) _) | (with_reducible refine Below.alloc ?_ (by simp; omega) _)))
      · intro b
        cases b
        · exact HNH1.out
        · exact HNH3.out
end Go.Proofs.YtkdhlgfpnkdbmaaDoor
