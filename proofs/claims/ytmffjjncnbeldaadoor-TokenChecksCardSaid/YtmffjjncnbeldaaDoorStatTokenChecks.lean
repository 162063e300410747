-- Written by a program of this session (wip/tools/xprint.py): Lean checks it.
import Derived.Test.YtmffjjncnbeldaaDoorPx14
namespace Go.Proofs.YtmffjjncnbeldaaDoor.Pure
open Go.RowKit Go.Proofs.YtmffjjncnbeldaaDoor.P Go.Proofs.YtmffjjncnbeldaaDoorW.PrintWords Go.Proofs.YtmffjjncnbeldaaDoorW.PrintLast Go.Proofs.YtmffjjncnbeldaaDoorW.PrintMore
/-- THE ONE PURE STATEMENT of neume/neumelaw08.TokenChecks. -/
def TokenChecks_Pure : Prop := ∀ (x0 : List (S34)), (x0.length ≤ 9223372036854775807 ∧ x0.length * 32 ≤ 140737488351232 ∧ ∀ z0_ ∈ x0, ((Lit.int .i64 z0_.f0).wf = true ∧ z0_.f1.size ≤ 140737488351232 ∧ (Lit.int .i64 z0_.f2).wf = true)) → ∃ k, neumelaw08_TokenChecks.f k x0 = some true
end Go.Proofs.YtmffjjncnbeldaaDoor.Pure
