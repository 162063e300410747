-- Written by a program of this session (wip/tools/xprint.py): Lean checks it.
import Derived.Test.YtipfgmflofdedaaPx5
namespace Go.Proofs.Ytipfgmflofdedaa.Pure
open Go.RowKit Go.Proofs.Ytipfgmflofdedaa.P Go.Proofs.YtipfgmflofdedaaW.PrintWords Go.Proofs.YtipfgmflofdedaaW.PrintLast Go.Proofs.YtipfgmflofdedaaW.PrintMore
/-- THE ONE PURE STATEMENT of neume/neumelaw29.SolveFits. -/
def SolveFits_Pure : Prop := ∀ (x0 : List Int) (x1 : List (S36)) (x2 : Int) (x3 : Bool), (x0.length ≤ 9223372036854775807 ∧ x0.length * 8 ≤ 140737488351232 ∧ ∀ z0_ ∈ x0, (Lit.int .i64 z0_).wf = true) → (x1.length ≤ 9223372036854775807 ∧ x1.length * 24 ≤ 140737488351232 ∧ ∀ z1_ ∈ x1, ((Lit.int .i64 z1_.f0).wf = true ∧ (Lit.int .i64 z1_.f1).wf = true ∧ (Lit.int .i64 z1_.f2).wf = true)) → (Lit.int .i64 x2).wf = true → ∃ k, neumelaw29_SolveFits.f k x0 x1 x2 x3 = some true
end Go.Proofs.Ytipfgmflofdedaa.Pure
