/-
  Contracts: the time of a text, by the reference. Conditions: as each states.
-/
import Derived.Test.YtkdhlgfpnkdbmaaDoorClkL
namespace Go.Proofs.YtkdhlgfpnkdbmaaDoor
open Go.RowKit Go.PlainAid
set_option linter.unusedVariables false

/-- What the reading of a text as a time answers. -/
def ReadRes (s : ByteArray) (g : Nat) (w : World) (e : Ending) (w' : World) : Prop := Below w.heap.size w w' ∧ ((∃ h m c l : Nat, ClkRd s g h m c l ∧ ClockOk h m c l ∧ e = .returned (.tuple #[.agg #[.int .i64 h, .int .i64 m, .int .i64 c, .int .i64 l], .bool true])) ∨
  ((∀ h m c l : Nat, ClkRd s g h m c l → ¬ ClockOk h m c l) ∧ ∃ h m c l : Int, e = .returned (.tuple #[.agg #[.int .i64 h, .int .i64 m, .int .i64 c, .int .i64 l], .bool false])))
/-- The post at the reading's end, kept shut: so the walk stops at it at once. -/
def ReadEnd (s : ByteArray) (g : Nat) (w : World) : Exit → Act → World → Prop := bodyPost Tryd.prog Tryd.f24 (ReadRes s g w)
theorem read_shut {s : ByteArray} {g : Nat} {w : World} (e : Exit) (a : Act) (W : World) (h : ReadEnd s g w e a W) : bodyPost Tryd.prog Tryd.f24 (ReadRes s g w) e a W := h
theorem get2_s (s : ByteArray) (p : Nat) (hs : s.size ≤ maxLen) (hp : p ≤ 10) : ∃ (v : Nat) (b : Bool), v ≤ 99 ∧ (∀ w', Calls Tryd.prog 38 #[.string s, .int .i64 (p : Int), .int .i64 2] w' fun e w'' => e = .returned (.tuple #[.int .i64 (v : Int), .bool b]) ∧ w' = w'') ∧ (b = true → 2 ≤ runN s p ∧ numN s p 2 = v) ∧ (b = false → ¬ 2 ≤ runN s p) := by
  by_cases h : 2 ≤ runN s p
  · have := num2_lt h
    exact ⟨numN s p 2, true, by omega, fun w' => DigitsGet_s_yes s p 2 w' hs (by omega) (by omega) h, fun _ => ⟨h, rfl⟩, (fun h => by cases h)⟩
  · exact ⟨0, false, by omega, fun w' => DigitsGet_s_no s (p : Int) 2 w' hs (by omega) (by omega) (fun hg => h (by have := hg.2.2; rw [runI_nat] at this; omega)), (fun h => by cases h), fun _ => h⟩
theorem nok_0 {s : ByteArray} {v0 v1 v2 l h m c l' : Nat} (hx : ClkRd s 0 h m c l') (HA : (2 ≤ runN s 0 ∧ numN s 0 2 = v0) ∧ (2 ≤ runN s 2 ∧ numN s 2 2 = v1) ∧ (2 ≤ runN s 4 ∧ numN s 4 2 = v2))
    (HF : (s.size = 6 + 2 * 0 ∧ l = 0) ∨ (∃ k, 1 ≤ k ∧ k ≤ 3 ∧ s.size = 7 + 2 * 0 + k ∧ bt s (6 + 2 * 0) = 46 ∧ k ≤ runN s (7 + 2 * 0) ∧ l = numN s (7 + 2 * 0) k * 10 ^ (3 - k))) (HO : ¬ ClockOk v0 v1 v2 l) : ¬ ClockOk h m c l' := by
  obtain ⟨e1, e2, e3, e4⟩ := hx.uniq ⟨HA.1.1, HA.2.1.1, HA.2.2.1, HA.1.2, HA.2.1.2, HA.2.2.2, hx.col, HF⟩
  rw [e1, e2, e3, e4]
  exact HO
theorem nok_1 {s : ByteArray} {v0 v1 v2 l h m c l' : Nat} (hx : ClkRd s 1 h m c l') (HA : (2 ≤ runN s 0 ∧ numN s 0 2 = v0) ∧ (2 ≤ runN s 3 ∧ numN s 3 2 = v1) ∧ (2 ≤ runN s 6 ∧ numN s 6 2 = v2))
    (HF : (s.size = 6 + 2 * 1 ∧ l = 0) ∨ (∃ k, 1 ≤ k ∧ k ≤ 3 ∧ s.size = 7 + 2 * 1 + k ∧ bt s (6 + 2 * 1) = 46 ∧ k ≤ runN s (7 + 2 * 1) ∧ l = numN s (7 + 2 * 1) k * 10 ^ (3 - k))) (HO : ¬ ClockOk v0 v1 v2 l) : ¬ ClockOk h m c l' := by
  obtain ⟨e1, e2, e3, e4⟩ := hx.uniq ⟨HA.1.1, HA.2.1.1, HA.2.2.1, HA.1.2, HA.2.1.2, HA.2.2.2, hx.col, HF⟩
  rw [e1, e2, e3, e4]
  exact HO
/-- One operation of a region, taken first; its temporary is named. -/
theorem tkY {P : Program} {md : Region.Mode} {ops : Array Oper} {Q : Exit → Act → World → Prop} {S : World → Prop} {i d : Nat} {oi : Oper} {v : Value} {fuel : Nat} {listed : Array Bool} {a : Act} {w : World} (hi : ops[i]? = some oi) (hd : oi.dst = some d)
    (hs : Region.noSelect ops = true) (hf : Region.free md ops listed i = true) (hr : (Region.ready md ops listed).contains i = true)
    (hQ : ∀ c a w, Q (.panic c) (a.put oi.dst v) w → Q (.panic c) a w) (hy : YieldsIf P ops S oi v a) (hS : S w)
    (h : wpAnyH P md ops Q S fuel (listed.setIfInBounds i true) (a.put (some d) v) w) : wpAnyH P md ops Q S (fuel + 1) listed a w :=
  wpAnyH_take hi hs hf hr hQ hy hS (by rw [hd]; exact h)
end Go.Proofs.YtkdhlgfpnkdbmaaDoor
