/-
  The walk of the law that both read the same time of a text, over the contracts of the two. Conditions: as it states.
-/
import Derived.Test.YtkdhlgfpnkdbmaaDoorClkG
import Derived.Test.YtkdhlgfpnkdbmaaDoorLawM
namespace Go.Proofs.YtkdhlgfpnkdbmaaDoor
open Go.RowKit Go.PlainAid
set_option linter.unusedVariables false

/-- The variable errors.errorType is as it is listed. -/
def EK (w : World) : Prop := w.cell? ⟨0, 0, none⟩ = some (.iface 93 (.agg #[.pointer (some ⟨4, 46, none⟩)]))
theorem EK.below {w w' : World} (h : EK w) (hb : Below w.heap.size w w') : EK w' := by
  unfold EK at h ⊢
  exact (hb.cell (lt_of_cell h)).trans h
/-- What every reading of a text as a time answers. -/
theorem from_one (s : ByteArray) : ∃ (h m c l : Nat) (b k : Bool), ((k = true ∧ ClkRd s (gapN b) h m c l ∧ ClockOk h m c l) ∨ (k = false ∧ b = false ∧ h = 0 ∧ m = 0 ∧ c = 0 ∧ l = 0)) ∧
    ∀ (w : World) (e : Ending) (w' : World), FromRes s w e w' → e = .returned (.tuple #[.agg #[.int .i64 h, .int .i64 m, .int .i64 c, .int .i64 l], .bool b, .bool k]) ∧ Below w.heap.size w w' := by
  by_cases hx : ∃ (b : Bool) (h m c l : Nat), ClkRd s (gapN b) h m c l ∧ ClockOk h m c l
  · obtain ⟨b, h, m, c, l, hr, hk⟩ := hx
    refine ⟨h, m, c, l, b, true, .inl ⟨rfl, hr, hk⟩, fun w e w' hf => ?_⟩
    obtain ⟨hb, ⟨b', h', m', c', l', hr', hk', rfl⟩ | ⟨hno, rfl⟩⟩ := hf
    · have : b' = b := by
        cases b
        · cases b'
          · rfl
          · exact (hr.excl hr').elim
        · cases b'
          · exact (hr'.excl hr).elim
          · rfl
      subst this
      obtain ⟨rfl, rfl, rfl, rfl⟩ := hr.uniq hr'
      exact ⟨rfl, hb⟩
    · exact absurd hk (hno b h m c l hr)
  · refine ⟨0, 0, 0, 0, false, false, .inr ⟨rfl, rfl, rfl, rfl, rfl, rfl⟩, fun w e w' hf => ?_⟩
    obtain ⟨hb, ⟨b', h', m', c', l', hr', hk', rfl⟩ | ⟨hno, rfl⟩⟩ := hf
    · exact absurd ⟨b', h', m', c', l', hr', hk'⟩ hx
    · exact ⟨rfl, hb⟩
/-- The program's contract, and the reference's. -/
def ConI : Prop := ∀ (s : ByteArray) (w : World), s.size ≤ 2000000 → EK w → Calls Tryd.prog 10 #[.string s] w (FromRes s w)
def ConS : Prop := ∀ (s : ByteArray) (w : World), s.size ≤ 2000000 → Calls Tryd.prog 11 #[.string s] w (FromRes s w)
theorem core_ExactClockFrom (ci : ConI) (cs : ConS) (s : ByteArray) (w : World) (hs : s.size ≤ maxLen) (hE : EK w) : Calls Tryd.prog 6 #[.string s] w fun e w' => e = .returned (.bool true) ∧ Below w.heap.size w w' := by
  obtain ⟨h, m, c, l, b, k, -, hone⟩ := from_one s
  have HO := Lib.hid hone
  clear hone
  have HE := Lib.hid hE
  clear hE
  unfold maxLen at hs
  by_cases hbig : (1048576 : Int) < (s.size : Int)
  · go_enter Tryd.func6, Tryd.ntmps6
    go_wp2
    go_ret
    exact ⟨rfl, Below.refl _ _⟩
  · go_enter Tryd.func6, Tryd.ntmps6
    go_wp2_with fail
    refine (cs s _ (by omega)).mono ?_
    intro e w1 hr
    obtain ⟨rfl, hb1⟩ := HO.out _ _ _ hr
    clear hr
    go_wp2_with fail
    have hb1a := hb1.alloc hb1.size (.cells #[.int .i64 h, .int .i64 m, .int .i64 c, .int .i64 l] 25)
    refine (ci s _ (by omega) (HE.out.below hb1a)).mono ?_
    intro e w2 hr
    obtain ⟨rfl, hb2⟩ := HO.out _ _ _ hr
    clear hr
    have hC := (Cells4.new w1 25 (.int .i64 h) (.int .i64 m) (.int .i64 c) (.int .i64 l)).below hb2
    have HB := Lib.hid (below2 hb1a hb2)
    have HC := Lib.hid hC
    have hlt := hC.lt
    have hne := Nat.ne_of_lt hlt
    clear hb1 hb1a hb2
    obtain ⟨⟨r0, r1, r2, r3⟩, t0, t1, t2, t3⟩ := hC
    go_wp2_with fail
    refine (eqClock_same _ _ _ _ _).mono ?_
    rintro e w3 ⟨rfl, hb3⟩
    cases b
    all_goals cases k
    all_goals
      go_wp2_with fail
      go_ret
      exact ⟨rfl, below2 (HB.out.alloc HB.out.size _) hb3⟩
end Go.Proofs.YtkdhlgfpnkdbmaaDoor
