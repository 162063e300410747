-- Written by a program of this session (wip/tools/xprint.py): Lean checks it.
import Derived.Test.YtcbeibmoblgaeaaPx12
namespace Go.Proofs.Ytcbeibmoblgaeaa.Pure
open Go.RowKit Go.Proofs.Ytcbeibmoblgaeaa.P Go.Proofs.YtcbeibmoblgaeaaW.PrintWords Go.Proofs.YtcbeibmoblgaeaaW.PrintLast Go.Proofs.YtcbeibmoblgaeaaW.PrintMore
/-- THE ONE PURE STATEMENT of neume/neumelaw28.SpringRises. -/
def SpringRises_Pure : Prop := ∀ (x0 : S23) (x1 : S23), ((Lit.int .i64 x0.f0).wf = true ∧ (Lit.int .i64 x0.f1).wf = true) → ((Lit.int .i64 x1.f0).wf = true ∧ (Lit.int .i64 x1.f1).wf = true) → ∃ k, neumelaw28_SpringRises.f k x0.f0 x0.f1 x1.f0 x1.f1 = some true
end Go.Proofs.Ytcbeibmoblgaeaa.Pure
