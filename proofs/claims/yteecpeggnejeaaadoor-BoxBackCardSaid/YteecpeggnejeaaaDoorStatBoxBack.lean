-- Written by a program of this session (wip/tools/xprint.py): Lean checks it.
import Derived.Test.YteecpeggnejeaaaDoorPx16
namespace Go.Proofs.YteecpeggnejeaaaDoor.Pure
open Go.RowKit Go.Proofs.YteecpeggnejeaaaDoor.P Go.Proofs.YteecpeggnejeaaaDoorW.PrintWords Go.Proofs.YteecpeggnejeaaaDoorW.PrintLast Go.Proofs.YteecpeggnejeaaaDoorW.PrintMore
/-- THE ONE PURE STATEMENT of neume/neumelaw03.BoxBack. -/
def BoxBack_Pure : Prop := ∀ (x0 : S23) (x1 : Int) (x2 : Int), ((Lit.int .i64 x0.f0).wf = true ∧ (Lit.int .i64 x0.f1).wf = true ∧ (Lit.int .i64 x0.f2).wf = true ∧ (Lit.int .i64 x0.f3).wf = true) → (Lit.int .i64 x1).wf = true → (Lit.int .i64 x2).wf = true → ∃ k, neumelaw03_BoxBack.f k x0.f0 x0.f1 x0.f2 x0.f3 x1 x2 = some true
end Go.Proofs.YteecpeggnejeaaaDoor.Pure
