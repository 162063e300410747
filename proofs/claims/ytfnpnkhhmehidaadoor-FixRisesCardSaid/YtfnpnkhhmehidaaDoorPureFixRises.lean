/- The law FixRises of layer 1: for all numbers the law answers true (no condition). -/
import Derived.Test.YtfnpnkhhmehidaaDoorStatFixRises
import Derived.Test.YtfnpnkhhmehidaaDoorFixPlain
namespace Go.Proofs.YtfnpnkhhmehidaaDoor.Pure
open Go.RowKit Go.Proofs.YtfnpnkhhmehidaaDoor.P Go.Proofs.YtfnpnkhhmehidaaDoor.Rp Go.Proofs.YtfnpnkhhmehidaaDoor.Fx Go.Proofs.YtfnpnkhhmehidaaDoorW.PrintWords Go.Proofs.YtfnpnkhhmehidaaDoorW.PrintLast Go.Proofs.YtfnpnkhhmehidaaDoorW.PrintMore
set_option linter.unusedVariables false
theorem cost_le (a b : Int) : 0 ≤ cost a b ∧ cost a b ≤ 1125899906842624 := bd_bd _
theorem cost_zero (a b : Int) : cost a 0 ≤ cost a b := by
  have := bd_bd a
  have := bd_bd b
  have e : bd 0 = 0 := rfl
  unfold cost
  rw [e]
  generalize bd a = x at *
  generalize bd b = y at *
  unfold bd
  (repeat' split) <;> omega
theorem cost_comm (a b : Int) : cost a b = cost b a := by
  unfold cost
  rw [Int.add_comm]
theorem bd_spec {s : Int} (h : 0 ≤ s) : 0 ≤ bd s ∧ bd s ≤ 1125899906842624 ∧ bd s ≤ s ∧ (bd s = 1125899906842624 ∨ bd s = s) := by
  unfold bd
  (repeat' split) <;> omega
theorem bd_id {s : Int} (h : 0 ≤ s) (h' : s ≤ 1125899906842624) : bd s = s := by
  unfold bd
  (repeat' split) <;> omega
theorem cost_assoc (a b c : Int) : cost (cost a b) c = cost a (cost b c) := by
  have ha := bd_bd a
  have hb := bd_bd b
  have hc := bd_bd c
  unfold cost
  generalize bd a = x at *
  generalize bd b = y at *
  generalize bd c = z at *
  have h1 := bd_spec (s := x + y) (by omega)
  have h2 := bd_spec (s := y + z) (by omega)
  rw [bd_id h1.1 h1.2.1, bd_id h2.1 h2.2.1]
  generalize bd (x + y) = u at *
  generalize bd (y + z) = v at *
  have h3 := bd_spec (s := u + z) (by omega)
  have h4 := bd_spec (s := x + v) (by omega)
  omega
theorem FixRises : FixRises_Pure := by
  intro a b c _ _ _
  suffices h : Ev (fun k => neumelaw01_FixRises.f k a b c) true from h.rounds
  unfold neumelaw01_FixRises.f
  have h1 := cost_zero a b
  have h2 := cost_comm a b
  have h3 := cost_le a b
  have h4 := cost_assoc a b c
  refine Ev.bindc (cost_eq a b) (Ev.bindc (cost_eq a 0) (Ev.pos h1 (Ev.bindc (cost_eq b a) (Ev.pos h2 (Ev.pos h3.2 (Ev.pos h3.1 (Ev.bindc (cost_eq a b) (Ev.bindc (cost_eq _ c) (Ev.bindc (cost_eq b c) (Ev.bindc (cost_eq a _) (Ev.pos h4 heads_bind)))))))))))
end Go.Proofs.YtfnpnkhhmehidaaDoor.Pure
