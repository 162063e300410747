/- The law FixRoots of layer 1: for all numbers the law answers true (no condition). -/
import Derived.Test.YtfnpnkhhmehidaaDoorStatFixRoots
import Derived.Test.YtfnpnkhhmehidaaDoorFixPlain
namespace Go.Proofs.YtfnpnkhhmehidaaDoor.Pure
open Go.RowKit Go.Proofs.YtfnpnkhhmehidaaDoor.P Go.Proofs.YtfnpnkhhmehidaaDoor.Rp Go.Proofs.YtfnpnkhhmehidaaDoor.Fx Go.Proofs.YtfnpnkhhmehidaaDoorW.PrintWords Go.Proofs.YtfnpnkhhmehidaaDoorW.PrintLast Go.Proofs.YtfnpnkhhmehidaaDoorW.PrintMore
set_option linter.unusedVariables false
theorem FixRoots : FixRoots_Pure := by
  intro x hx
  suffices h : Ev (fun k => neumelaw01_FixRoots.f k x) true from h.rounds
  unfold neumelaw01_FixRoots.f
  refine Ev.bind (root_ev x) ?_
  by_cases c : x < 0
  · rw [root_neg c 32 0 (by omega)]
    exact Ev.pos c (Ev.pos rfl heads_bind)
  · refine Ev.neg c ?_
    obtain ⟨r0, r1, r2, r3⟩ := root_is (x := x) (by omega) 32 0 (by omega) (by omega) (by omega) (.inl (by decide))
    generalize rootGo x 32 0 = r at r0 r1 r2 r3 ⊢
    obtain ⟨s0, s1⟩ := sq_small (a := r) (by omega) r1
    rw [wrap_id (x := r * r) (by omega) (by omega)]
    refine Ev.neg (by omega) (Ev.neg (by omega) (Ev.neg (by omega) ?_))
    by_cases c2 : r = 3037000499
    · exact Ev.pos c2 heads_bind
    · refine Ev.neg c2 ?_
      have r4 : x < (r + 1) * (r + 1) := r3.resolve_left c2
      obtain ⟨s0, s1⟩ := sq_small (a := r + 1) (by omega) (by omega)
      rw [wrap_id (x := r + 1) (by omega) (by omega), wrap_id (x := (r + 1) * (r + 1)) (by omega) (by omega)]
      exact Ev.pos r4 heads_bind
end Go.Proofs.YtfnpnkhhmehidaaDoor.Pure
