-- Written by a program of this session (wip/tools/xprint.py): Lean checks it.
import Derived.Test.YtmbdbinbdiiapaaDoorPx20
namespace Go.Proofs.YtmbdbinbdiiapaaDoor.Pure
open Go.RowKit Go.Proofs.YtmbdbinbdiiapaaDoor.P Go.Proofs.YtmbdbinbdiiapaaDoorW.PrintWords Go.Proofs.YtmbdbinbdiiapaaDoorW.PrintLast Go.Proofs.YtmbdbinbdiiapaaDoorW.PrintMore
/-- THE ONE PURE STATEMENT of neume/neumelaw02.RatOrder. -/
def RatOrder_Pure : Prop := ∀ (x0 : S23) (x1 : S23) (x2 : S23), ((Lit.int .i64 x0.f0).wf = true ∧ (Lit.int .i64 x0.f1).wf = true) → ((Lit.int .i64 x1.f0).wf = true ∧ (Lit.int .i64 x1.f1).wf = true) → ((Lit.int .i64 x2.f0).wf = true ∧ (Lit.int .i64 x2.f1).wf = true) → ∃ k, neumelaw02_RatOrder.f k x0.f0 x0.f1 x1.f0 x1.f1 x2.f0 x2.f1 = some true
end Go.Proofs.YtmbdbinbdiiapaaDoor.Pure
