-- Written by a program of this session (wip/tools/xprint.py): Lean checks it.
import Derived.Test.YtcbeibmoblgaeaaPx11
namespace Go.Proofs.Ytcbeibmoblgaeaa.Pure
open Go.RowKit Go.Proofs.Ytcbeibmoblgaeaa.P Go.Proofs.YtcbeibmoblgaeaaW.PrintWords Go.Proofs.YtcbeibmoblgaeaaW.PrintLast Go.Proofs.YtcbeibmoblgaeaaW.PrintMore
/-- THE ONE PURE STATEMENT of neume/neumelaw28.SpringTells. -/
def SpringTells_Pure : Prop := ∀ (x0 : S23) (x1 : List (S48)) (x2 : Int) (x3 : Int) (x4 : Int) (x5 : Int), ((Lit.int .i64 x0.f0).wf = true ∧ (Lit.int .i64 x0.f1).wf = true) → (x1.length ≤ 9223372036854775807 ∧ x1.length * 56 ≤ 140737488351232 ∧ ∀ z0_ ∈ x1, (True ∧ ((Lit.int .i64 z0_.f1.f0).wf = true ∧ (Lit.int .i64 z0_.f1.f1).wf = true) ∧ (Lit.int .i64 z0_.f2).wf = true ∧ (z0_.f3.length ≤ 9223372036854775807 ∧ z0_.f3.length * 16 ≤ 140737488351232 ∧ ∀ z1_ ∈ z0_.f3, ((Lit.int .i64 z1_.f0).wf = true ∧ (Lit.int .i64 z1_.f1).wf = true)))) → (Lit.int .i64 x2).wf = true → (Lit.int .i64 x3).wf = true → (Lit.int .i64 x4).wf = true → (Lit.int .i64 x5).wf = true → ∃ k, neumelaw28_SpringTells.f k x0.f0 x0.f1 x1 x2 x3 x4 x5 = some true
end Go.Proofs.Ytcbeibmoblgaeaa.Pure
