-- Written by a program of this session (wip/tools/xprint.py): Lean checks it.
import Derived.Test.YtdiccfonlojlfaaDoorPx19
namespace Go.Proofs.YtdiccfonlojlfaaDoor.Pure
open Go.RowKit Go.Proofs.YtdiccfonlojlfaaDoor.P Go.Proofs.YtdiccfonlojlfaaDoorW.PrintWords Go.Proofs.YtdiccfonlojlfaaDoorW.PrintLast Go.Proofs.YtdiccfonlojlfaaDoorW.PrintMore
/-- THE ONE PURE STATEMENT of neume/neumelaw07.DurBeats. -/
def DurBeats_Pure : Prop := ∀ (x0 : S42) (x1 : S25), ((Lit.int .i64 x0.f0).wf = true ∧ (Lit.int .i64 x0.f1).wf = true) → ((Lit.int .i64 x1.f0).wf = true ∧ (Lit.int .i64 x1.f1).wf = true) → ∃ k, neumelaw07_DurBeats.f k x0.f0 x0.f1 x1.f0 x1.f1 = some true
end Go.Proofs.YtdiccfonlojlfaaDoor.Pure
