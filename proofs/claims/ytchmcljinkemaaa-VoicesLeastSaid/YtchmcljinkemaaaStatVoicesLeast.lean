-- Written by a program of this session (wip/tools/xprint.py): Lean checks it.
import Derived.Test.YtchmcljinkemaaaPx12
namespace Go.Proofs.Ytchmcljinkemaaa.Pure
open Go.RowKit Go.Proofs.Ytchmcljinkemaaa.P Go.Proofs.YtchmcljinkemaaaW.PrintWords Go.Proofs.YtchmcljinkemaaaW.PrintLast Go.Proofs.YtchmcljinkemaaaW.PrintMore
/-- THE ONE PURE STATEMENT of neume/neumelaw24.VoicesLeast. -/
def VoicesLeast_Pure : Prop := ∀ (x0 : List (S45)) (x1 : List (S45)) (x2 : Bool) (x3 : Int), (x0.length ≤ 9223372036854775807 ∧ x0.length * 32 ≤ 140737488351232 ∧ ∀ z0_ ∈ x0, ((Lit.int .i64 z0_.f0).wf = true ∧ (Lit.int .i64 z0_.f1).wf = true ∧ (Lit.int .i64 z0_.f2).wf = true ∧ (Lit.int .i64 z0_.f3).wf = true)) → (x1.length ≤ 9223372036854775807 ∧ x1.length * 32 ≤ 140737488351232 ∧ ∀ z1_ ∈ x1, ((Lit.int .i64 z1_.f0).wf = true ∧ (Lit.int .i64 z1_.f1).wf = true ∧ (Lit.int .i64 z1_.f2).wf = true ∧ (Lit.int .i64 z1_.f3).wf = true)) → (Lit.int .i64 x3).wf = true → ∃ k, neumelaw24_VoicesLeast.f k x0 x1 x2 x3 = some true
end Go.Proofs.Ytchmcljinkemaaa.Pure
