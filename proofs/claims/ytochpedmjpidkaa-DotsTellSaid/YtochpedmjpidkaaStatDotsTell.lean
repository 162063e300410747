-- Written by a program of this session (wip/tools/xprint.py): Lean checks it.
import Derived.Test.YtochpedmjpidkaaPx7
namespace Go.Proofs.Ytochpedmjpidkaa.Pure
open Go.RowKit Go.Proofs.Ytochpedmjpidkaa.P Go.Proofs.YtochpedmjpidkaaW.PrintWords Go.Proofs.YtochpedmjpidkaaW.PrintLast Go.Proofs.YtochpedmjpidkaaW.PrintMore
/-- THE ONE PURE STATEMENT of neume/neumelaw20.DotsTell. -/
def DotsTell_Pure : Prop := ∀ (x0 : List Int) (x1 : S24) (x2 : Bool) (x3 : Int) (x4 : Int), (x0.length ≤ 9223372036854775807 ∧ x0.length * 8 ≤ 140737488351232 ∧ ∀ z0_ ∈ x0, (Lit.int .i64 z0_).wf = true) → ((Lit.int .i64 x1.f0).wf = true ∧ (Lit.int .i64 x1.f1).wf = true) → (Lit.int .i64 x3).wf = true → (Lit.int .i64 x4).wf = true → ∃ k, neumelaw20_DotsTell.f k x0 x1.f0 x1.f1 x2 x3 x4 = some true
end Go.Proofs.Ytochpedmjpidkaa.Pure
