-- Written by a program of this session (wip/tools/xprint.py): Lean checks it.
import Derived.Test.YtchmcljinkemaaaPx9
namespace Go.Proofs.Ytchmcljinkemaaa.Pure
open Go.RowKit Go.Proofs.Ytchmcljinkemaaa.P Go.Proofs.YtchmcljinkemaaaW.PrintWords Go.Proofs.YtchmcljinkemaaaW.PrintLast Go.Proofs.YtchmcljinkemaaaW.PrintMore
/-- THE ONE PURE STATEMENT of neume/neumelaw24.VoicesTell. -/
def VoicesTell_Pure : Prop := ∀ (x0 : List (S45)) (x1 : List (List (S45))) (x2 : Bool), (x0.length ≤ 9223372036854775807 ∧ x0.length * 32 ≤ 140737488351232 ∧ ∀ z0_ ∈ x0, ((Lit.int .i64 z0_.f0).wf = true ∧ (Lit.int .i64 z0_.f1).wf = true ∧ (Lit.int .i64 z0_.f2).wf = true ∧ (Lit.int .i64 z0_.f3).wf = true)) → (x1.length ≤ 9223372036854775807 ∧ x1.length * 24 ≤ 140737488351232 ∧ ∀ z1_ ∈ x1, (z1_.length ≤ 9223372036854775807 ∧ z1_.length * 32 ≤ 140737488351232 ∧ ∀ z2_ ∈ z1_, ((Lit.int .i64 z2_.f0).wf = true ∧ (Lit.int .i64 z2_.f1).wf = true ∧ (Lit.int .i64 z2_.f2).wf = true ∧ (Lit.int .i64 z2_.f3).wf = true))) → ∃ k, neumelaw24_VoicesTell.f k x0 x1 x2 = some true
end Go.Proofs.Ytchmcljinkemaaa.Pure
