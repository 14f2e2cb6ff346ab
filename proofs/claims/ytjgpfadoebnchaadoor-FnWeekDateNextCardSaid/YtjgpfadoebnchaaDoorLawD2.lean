/-
  The walks of laws on days' numbers: each returns true, and nothing that was there is written. Conditions: the table of the months reads as listed.
-/
import Derived.Test.YtjgpfadoebnchaaDoorDrawDate2
namespace Go.Proofs.YtjgpfadoebnchaaDoor
open Go.RowKit Go.PlainAid
set_option linter.unusedVariables false

theorem DateOf_i_num (y m d : Int) (w : World) (hT : Tab w) (h : Cal.Ok y m d) : Calls Tryd.prog 30 #[.int .i64 (Cal.num y m d)] w fun e w' => e = .returned (.tuple #[.agg #[.int .i64 y, .int .i64 m, .int .i64 d], .bool true]) ∧ Below w.heap.size w w' := by
  have hb := Cal.num_bd h
  obtain ⟨h1, h2, h3⟩ := Cal.dt_num h
  have hc := DateOf_i_yes (Cal.num y m d) w hT hb.1 hb.2
  rw [h1, h2, h3] at hc
  exact hc
theorem DayNumber_i_dt (n : Int) (w : World) (hT : Tab w) (h0 : 0 ≤ n) (h1 : n ≤ 3652058) : Calls Tryd.prog 29 #[.agg #[.int .i64 (Cal.yo n), .int .i64 (Cal.mo n), .int .i64 (Cal.dd n)]] w fun e w' => e = .returned (.int .i64 n) ∧ Below w.heap.size w w' := by
  obtain ⟨h2, h3⟩ := Cal.dt_ok h0 h1
  have hc := DayNumber_i_yes _ _ _ w hT h2
  rw [h3] at hc
  exact hc
theorem cell3_lt {w w2 : World} {T : TypeId} {a b c : Value} (hb : Below (w.alloc (.cells #[a, b, c] T)).heap.size (w.alloc (.cells #[a, b, c] T)) w2) : w.heap.size < w2.heap.size := by
  have := hb.size
  simp at this
  omega
theorem decf {p : Prop} [Decidable p] (h : ¬ p) : decide p = false := by simp [h]
theorem dect {p : Prop} [Decidable p] (h : p) : decide p = true := by simp [h]
end Go.Proofs.YtjgpfadoebnchaaDoor
