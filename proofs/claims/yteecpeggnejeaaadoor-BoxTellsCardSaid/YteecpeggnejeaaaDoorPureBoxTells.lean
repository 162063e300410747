/- The law BoxTells of layer 3: for all two boxes, right or not, and numbers the law answers true (no condition). -/
import Derived.Test.YteecpeggnejeaaaDoorStatBoxTells
import Derived.Test.YteecpeggnejeaaaDoorBoxRef
namespace Go.Proofs.YteecpeggnejeaaaDoor.Pure
open Go.RowKit Go.Proofs.YteecpeggnejeaaaDoor.P Go.Proofs.YteecpeggnejeaaaDoor.Rp Go.Proofs.YteecpeggnejeaaaDoor.Bx Go.Proofs.YteecpeggnejeaaaDoorW.PrintWords Go.Proofs.YteecpeggnejeaaaDoorW.PrintLast Go.Proofs.YteecpeggnejeaaaDoorW.PrintMore
set_option linter.unusedVariables false
theorem BoxTells : BoxTells_Pure := by
  intro a b x y _ _ _ _
  suffices h : Ev (fun k => neumelaw03_BoxTells.f k a.f0 a.f1 a.f2 a.f3 b.f0 b.f1 b.f2 b.f3 x y) true from h.rounds
  unfold neumelaw03_BoxTells.f
  refine Ev.bindc (move_eq ..) (Ev.bindc (rmove ..) (Ev.bindc (grow_eq ..) (Ev.bindc (rgrow ..) (Ev.neg (by simp) (Ev.pos rfl (Ev.neg (by simp) (Ev.pos rfl (Ev.bindc rfl (Ev.bindc (rcheck ..) ?_)))))))))
  rw [bne_self_eq_false]
  refine Ev.succ ?_
  simp only [neumelaw03_BoxTells.j0]
  exact Ev.neg (by decide) (Ev.bind (jn_ev ..) (Ev.bind (rjn ..) (Ev.pos (by simp) (Ev.bindc (meet_eq ..) (Ev.bindc (rmeet ..) (Ev.pos (by simp) (Ev.bind (inside_ev ..) (Ev.bindc (rinside ..) (Ev.pos (by simp) heads_bind)))))))))
end Go.Proofs.YteecpeggnejeaaaDoor.Pure
