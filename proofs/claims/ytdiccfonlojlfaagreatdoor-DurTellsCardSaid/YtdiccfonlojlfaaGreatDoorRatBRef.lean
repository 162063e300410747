/- Fractions: products, quotients, roundings and rests of rat and its reference: plain values. -/
import Derived.Test.YtdiccfonlojlfaaGreatDoorPx11
import Derived.Test.YtdiccfonlojlfaaGreatDoorRatB
import Derived.Test.YtdiccfonlojlfaaGreatDoorRatARef
namespace Go.Proofs.YtdiccfonlojlfaaGreatDoor.Rp
open Go.RowKit Go.Proofs.YtdiccfonlojlfaaGreatDoor.P Go.Proofs.YtdiccfonlojlfaaGreatDoorW.PrintWords Go.Proofs.YtdiccfonlojlfaaGreatDoorW.PrintLast Go.Proofs.YtdiccfonlojlfaaGreatDoorW.PrintMore
set_option linter.unusedVariables false
set_option linter.unusedSimpArgs false

/-- What the reference does behind its tests: the parts are put together, and brought to lowest terms. -/
theorem tail_ev {a b c f N D : Int} (h1 : ab a * ab b ≤ 1099511627776) (h2 : ab c * ab f ≤ 1048576) (hcf : c * f ≠ 0) (hl : low N D = low (a * b) (c * f)) : Ev (fun k => (neumeref02_lowest.f k (wrap64 (a * b)) (wrap64 (c * f))).bind fun bt => some (bt.1, bt.2.1, bt.2.2)) (low N D) := by
  have h3 := (ab_le (x := a * b) (m := 1099511627776)).1 (by rw [ab_mul]; exact h1)
  have h4 := (ab_le (x := c * f) (m := 1048576)).1 (by rw [ab_mul]; exact h2)
  rw [wrap_id (x := a * b) (by omega) (by omega), wrap_id (x := c * f) (by omega) (by omega), hl]
  exact Ev.bind (lowest2_ev _ _ hcf (by omega) (by omega)) (Ev.now _)
theorem of2_ev (n d : Int) : Ev (fun k => neumeref02_Of.f k n d) (rof n d) := by
  unfold neumeref02_Of.f
  have bad : ¬ (d ≠ 0 ∧ (-1152921504606846976 ≤ n ∧ n ≤ 1152921504606846976) ∧ -1152921504606846976 ≤ d ∧ d ≤ 1152921504606846976) → Ev (fun k => some ((0 : Int), (0 : Int), (2 : Int))) (rof n d) := by
    intro h
    unfold rof
    rw [if_neg h]
    exact Ev.now _
  by_cases c1 : d = 0
  · exact Ev.pos c1 (bad (fun q => q.1 c1))
  refine Ev.neg c1 ?_
  by_cases c2 : n < -1152921504606846976
  · exact Ev.pos c2 (bad (fun q => by omega))
  refine Ev.neg c2 ?_
  by_cases c3 : n > 1152921504606846976
  · exact Ev.pos c3 (bad (fun q => by omega))
  refine Ev.neg c3 ?_
  by_cases c4 : d < -1152921504606846976
  · exact Ev.pos c4 (bad (fun q => by omega))
  refine Ev.neg c4 ?_
  by_cases c5 : d > 1152921504606846976
  · exact Ev.pos c5 (bad (fun q => by omega))
  refine Ev.neg c5 ?_
  unfold rof
  rw [if_pos (by omega)]
  exact Ev.bind (lowest2_ev n d c1 (by omega) (by omega)) (Ev.now _)
end Go.Proofs.YtdiccfonlojlfaaGreatDoor.Rp