-- Written by a program of this session (wip/tools/xprint.py): Lean checks it.
import Derived.Test.YteecpeggnejeaaaDoorPx8
namespace Go.Proofs.YteecpeggnejeaaaDoor.Pure
open Go.RowKit Go.Proofs.YteecpeggnejeaaaDoor.P Go.Proofs.YteecpeggnejeaaaDoorW.PrintWords Go.Proofs.YteecpeggnejeaaaDoorW.PrintLast Go.Proofs.YteecpeggnejeaaaDoorW.PrintMore
/-- THE ONE PURE STATEMENT of neume/neumelaw03.BoxTells. -/
def BoxTells_Pure : Prop := ∀ (x0 : S23) (x1 : S23) (x2 : Int) (x3 : Int), ((Lit.int .i64 x0.f0).wf = true ∧ (Lit.int .i64 x0.f1).wf = true ∧ (Lit.int .i64 x0.f2).wf = true ∧ (Lit.int .i64 x0.f3).wf = true) → ((Lit.int .i64 x1.f0).wf = true ∧ (Lit.int .i64 x1.f1).wf = true ∧ (Lit.int .i64 x1.f2).wf = true ∧ (Lit.int .i64 x1.f3).wf = true) → (Lit.int .i64 x2).wf = true → (Lit.int .i64 x3).wf = true → ∃ k, neumelaw03_BoxTells.f k x0.f0 x0.f1 x0.f2 x0.f3 x1.f0 x1.f1 x1.f2 x1.f3 x2 x3 = some true
end Go.Proofs.YteecpeggnejeaaaDoor.Pure
