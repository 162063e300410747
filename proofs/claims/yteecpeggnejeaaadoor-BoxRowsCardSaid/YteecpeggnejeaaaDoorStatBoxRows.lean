-- Written by a program of this session (wip/tools/xprint.py): Lean checks it.
import Derived.Test.YteecpeggnejeaaaDoorPx13
namespace Go.Proofs.YteecpeggnejeaaaDoor.Pure
open Go.RowKit Go.Proofs.YteecpeggnejeaaaDoor.P Go.Proofs.YteecpeggnejeaaaDoorW.PrintWords Go.Proofs.YteecpeggnejeaaaDoorW.PrintLast Go.Proofs.YteecpeggnejeaaaDoorW.PrintMore
/-- THE ONE PURE STATEMENT of neume/neumelaw03.BoxRows. -/
def BoxRows_Pure : Prop := ∀ (x0 : List (S23)), (x0.length ≤ 9223372036854775807 ∧ x0.length * 32 ≤ 140737488351232 ∧ ∀ z0_ ∈ x0, ((Lit.int .i64 z0_.f0).wf = true ∧ (Lit.int .i64 z0_.f1).wf = true ∧ (Lit.int .i64 z0_.f2).wf = true ∧ (Lit.int .i64 z0_.f3).wf = true)) → ∃ k, neumelaw03_BoxRows.f k x0 = some true
end Go.Proofs.YteecpeggnejeaaaDoor.Pure
