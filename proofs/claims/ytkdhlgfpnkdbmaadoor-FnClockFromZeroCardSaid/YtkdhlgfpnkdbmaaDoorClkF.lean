/-
  Contract: the time of a text, by the program. Conditions: as it states; it reads the variable errors.errorType as listed.
-/
import Derived.Test.YtkdhlgfpnkdbmaaDoorClkS
import Derived.Test.YtkdhlgfpnkdbmaaDoorClkAt
namespace Go.Proofs.YtkdhlgfpnkdbmaaDoor
open Go.RowKit Go.PlainAid
set_option linter.unusedVariables false

/-- What a text reads as, with or without colons. -/
def FromRes (s : ByteArray) (w : World) (e : Ending) (w' : World) : Prop := Below w.heap.size w w' ∧ ((∃ (b : Bool) (h m c l : Nat), ClkRd s (gapN b) h m c l ∧ ClockOk h m c l ∧ e = .returned (.tuple #[.agg #[.int .i64 h, .int .i64 m, .int .i64 c, .int .i64 l], .bool b, .bool true])) ∨
  ((∀ (b : Bool) (h m c l : Nat), ClkRd s (gapN b) h m c l → ¬ ClockOk h m c l) ∧ e = .returned (.tuple #[.agg #[.int .i64 0, .int .i64 0, .int .i64 0, .int .i64 0], .bool false, .bool false])))
/-- The reader's contract, for one form. -/
def ClkCon (b : Bool) : Prop := ∀ (g : Nat) (s : ByteArray) (w : World), s.size ≤ 2000000 → RdS w g s (0 : Int) → Calls Tryd.prog 22 #[.pointer (some ⟨g, 0, none⟩), .bool b] w (ClkRes w g s b)
/-- What the walk holds: the result's cells, the second form, and that nothing of before is turned. -/
structure FS (w W : World) : Prop where
  cr : Cells4 W w.heap.size (.int .i64 0) (.int .i64 0) (.int .i64 0) (.int .i64 0)
  ar : W.cell? ⟨w.heap.size + 1, 1, none⟩ = some (.bool false)
  bl : Below w.heap.size w W
theorem FS.upd {w W W' : World} {g : Nat} (h : FS w W) (hu : Upd g W W') (hg : w.heap.size + 1 < g) : FS w W' :=
  ⟨h.cr.upd hu (by omega), hu.cell (lt_of_cell h.ar) (by omega) h.ar, h.bl.trans (hu.below (by omega) h.bl.size)⟩
theorem FS.below {w W W' : World} (h : FS w W) (hb : Below W.heap.size W W') : FS w W' :=
  ⟨h.cr.below hb, (hb.cell (lt_of_cell h.ar)).trans h.ar, below2 h.bl hb⟩
theorem FS.lt {w W : World} (h : FS w W) : w.heap.size + 1 < W.heap.size := lt_of_cell h.ar
theorem FS.start (w : World) (T U : TypeId) : FS w ((w.alloc (.cells #[.int .i64 0, .int .i64 0, .int .i64 0, .int .i64 0] T)).alloc (.cells #[.bool true, .bool false] U)) := by
  refine ⟨(Cells4.new w T _ _ _ _).alloc _, ?_, ((Below.refl _ _).alloc (Nat.le_refl _) _).alloc (by simp) _⟩
  have e : (w.alloc (.cells #[.int .i64 0, .int .i64 0, .int .i64 0, .int .i64 0] T)).heap.size = w.heap.size + 1 := by simp
  rw [← e]
  simp
theorem rds_new (w : World) (T : TypeId) (s : ByteArray) : RdS (w.alloc (.cells #[.string s, .int .i64 0] T)) w.heap.size s 0 := ⟨by simp, by simp, by simp⟩
/-- From a world in which a reader was made, and read. -/
theorem FS.read {w W W' : World} {o : Obj} (h : FS w W) (hu : Upd W.heap.size (W.alloc o) W') : FS w W' :=
  (h.below ((Below.refl _ _).alloc (Nat.le_refl _) o)).upd hu h.lt
theorem fs_as (n : Nat) {w w1 : World} (H : FS w w1) (hE : w.cell? ⟨0, 0, none⟩ = some (.iface 93 (.agg #[.pointer (some ⟨4, 46, none⟩)]))) :
    Calls Tryd.prog 23 #[.iface 52 (.pointer (some ⟨n, 0, none⟩)), .iface 54 (.pointer (some ⟨w1.heap.size + 1, 0, none⟩))] ((w1.alloc (.cells #[.int .i64 0, .int .i64 0, .int .i64 0, .int .i64 0] 25)).alloc (.cells #[.pointer none] 52)) fun e w' => e = .returned (.bool true) ∧ FS w w' := by
  have e2 : (w1.alloc (.cells #[.int .i64 0, .int .i64 0, .int .i64 0, .int .i64 0] 25)).heap.size = w1.heap.size + 1 := by simp
  have hb : Below w1.heap.size w1 (w1.alloc (.cells #[.int .i64 0, .int .i64 0, .int .i64 0, .int .i64 0] 25)) := (Below.refl _ _).alloc (Nat.le_refl _) _
  generalize w1.alloc (.cells #[.int .i64 0, .int .i64 0, .int .i64 0, .int .i64 0] 25) = W at *
  rw [← e2]
  have H2 := H.below hb
  refine (as_hit ⟨n, 0, none⟩ ⟨W.heap.size, 0, none⟩ (.pointer none) _ (((H2.below ((Below.refl _ _).alloc (Nat.le_refl _) _)).bl.cell (lt_of_cell hE)).trans hE) (by simp) (by simp)).mono ?_
  rintro e w' ⟨rfl, rfl⟩
  refine ⟨rfl, H2.below ?_⟩
  refine Below.setCell ?_ (by exact Nat.le_refl _) _
  refine (((((Below.refl _ _).alloc (Nat.le_refl _) _).alloc ?_ _).alloc ?_ _).alloc ?_ _).alloc ?_ _
  all_goals (simp; try omega)
set_option maxHeartbeats 2000000 in
theorem ClockFrom_i (hF : ClkCon false) (hT : ClkCon true) (s : ByteArray) (w : World) (hs : s.size ≤ 2000000) (hE : w.cell? ⟨0, 0, none⟩ = some (.iface 93 (.agg #[.pointer (some ⟨4, 46, none⟩)]))) : Calls Tryd.prog 10 #[.string s] w (FromRes s w) := by
  have HE := Lib.hid hE
  clear hE
  go_enter Tryd.func10, Tryd.ntmps10
  go_wp2_with fail
  refine wp_loop_rounds 3 ?_
  rw [rounds_succ]
  go_wp2_with fail
  have H0 := FS.start w 25 4
  have e0 : ((w.alloc (.cells #[.int .i64 0, .int .i64 0, .int .i64 0, .int .i64 0] 25)).alloc (.cells #[.bool true, .bool false] 4)).heap.size = w.heap.size + 1 + 1 := by simp
  generalize (w.alloc (.cells #[.int .i64 0, .int .i64 0, .int .i64 0, .int .i64 0] 25)).alloc (.cells #[.bool true, .bool false] 4) = W0 at *
  rw [← e0]
  clear e0
  refine (hT _ s _ hs (rds_new W0 _ s)).mono ?_
  rintro e w1 ⟨hu, ⟨h, m, c, l, hx, hok, rfl⟩ | ⟨hno, n, rfl⟩⟩
  · have H1 := H0.read hu
    clear hu
    have HX := Lib.hid (And.intro hx hok)
    clear hx hok
    obtain ⟨⟨r0, r1, r2, r3⟩, t0, t1, t2, t3⟩ := H1.cr
    have hlt := H1.cr.lt
    have hne := Nat.ne_of_lt hlt
    have hne' := Nat.ne_of_gt hlt
    go_wp2_with fail
    refine (as_nil _ _).mono ?_
    rintro e w9 ⟨rfl, rfl⟩
    go_wp2_with fail
    refine bodyPost_ret (v := .tuple #[.agg #[.int .i64 h, .int .i64 m, .int .i64 c, .int .i64 l], .bool true, .bool true]) ?_ rfl ⟨?_, .inl ⟨true, h, m, c, l, HX.out.1, HX.out.2, rfl⟩⟩
    · simp [results, Tryd.results10, go_sem, r0, r1, r2, r3, hlt]
    · (repeat (first | (with_reducible exact H1.bl) | (with_reducible refine Below.setCell ?_ (by exact Nat.le_refl _) _) | (with_reducible refine Below.alloc ?_ (by simp; omega) _)))
  · have H1 := H0.read hu
    clear hu
    have HNH1 := Lib.hid hno
    clear hno
    go_wp2_with fail
    refine (fs_as n H1 HE.out).mono ?_
    rintro e w2 ⟨rfl, H2⟩
    clear H1 H0
    have AR := H2.ar
    go_wp2_with fail
    rw [rounds_succ]
    go_wp2_with fail
    clear AR
    refine (hF _ s _ hs (rds_new w2 _ s)).mono ?_
    rintro e w3 ⟨hu, ⟨h, m, c, l, hx, hok, rfl⟩ | ⟨hno, n2, rfl⟩⟩
    · have H3 := H2.read hu
      clear hu
      have HX := Lib.hid (And.intro hx hok)
      clear hx hok
      obtain ⟨⟨r0, r1, r2, r3⟩, t0, t1, t2, t3⟩ := H3.cr
      have hlt := H3.cr.lt
      have hne := Nat.ne_of_lt hlt
      have hne' := Nat.ne_of_gt hlt
      go_wp2_with fail
      refine (as_nil _ _).mono ?_
      rintro e w9 ⟨rfl, rfl⟩
      go_wp2_with fail
      refine bodyPost_ret (v := .tuple #[.agg #[.int .i64 h, .int .i64 m, .int .i64 c, .int .i64 l], .bool false, .bool true]) ?_ rfl ⟨?_, .inl ⟨false, h, m, c, l, HX.out.1, HX.out.2, rfl⟩⟩
      · simp [results, Tryd.results10, go_sem, r0, r1, r2, r3, hlt]
      · (repeat (first | (with_reducible exact H3.bl) | (with_reducible refine Below.setCell ?_ (by exact Nat.le_refl _) _) | (with_reducible refine Below.alloc ?_ (by simp; omega) _)))
    · have H3 := H2.read hu
      clear hu
      have HNH3 := Lib.hid hno
      clear hno
      go_wp2_with fail
      refine (fs_as n2 H3 HE.out).mono ?_
      rintro e w4 ⟨rfl, H4⟩
      clear H3 H2
      obtain ⟨⟨r0, r1, r2, r3⟩, t0, t1, t2, t3⟩ := H4.cr
      go_wp2_with fail
      rw [rounds_succ]
      go_wp2_with fail
      refine bodyPost_ret (v := .tuple #[.agg #[.int .i64 0, .int .i64 0, .int .i64 0, .int .i64 0], .bool false, .bool false]) ?_ rfl ⟨?_, .inr ⟨?_, rfl⟩⟩
      · simp [results, Tryd.results10, go_sem, r0, r1, r2, r3]
      · (repeat (first | (with_reducible exact H4.bl) | (with_reducible refine Below.setCell ?_ (by exact Nat.le_refl _) _)))
      · intro b
        cases b
        · exact HNH3.out
        · exact HNH1.out
end Go.Proofs.YtkdhlgfpnkdbmaaDoor
