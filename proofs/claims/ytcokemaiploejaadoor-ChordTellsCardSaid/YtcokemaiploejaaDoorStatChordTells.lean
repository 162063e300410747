-- Written by a program of this session (wip/tools/xprint.py): Lean checks it.
import Derived.Test.YtcokemaiploejaaDoorPx19
namespace Go.Proofs.YtcokemaiploejaaDoor.Pure
open Go.RowKit Go.Proofs.YtcokemaiploejaaDoor.P Go.Proofs.YtcokemaiploejaaDoorW.PrintWords Go.Proofs.YtcokemaiploejaaDoorW.PrintLast Go.Proofs.YtcokemaiploejaaDoorW.PrintMore
/-- THE ONE PURE STATEMENT of neume/neumelaw23.ChordTells. -/
def ChordTells_Pure : Prop := ∀ (x0 : List Int) (x1 : List Int) (x2 : Int) (x3 : Bool) (x4 : Bool), (x0.length ≤ 9223372036854775807 ∧ x0.length * 8 ≤ 140737488351232 ∧ ∀ z0_ ∈ x0, (Lit.int .i64 z0_).wf = true) → (x1.length ≤ 9223372036854775807 ∧ x1.length * 8 ≤ 140737488351232 ∧ ∀ z1_ ∈ x1, (Lit.int .i64 z1_).wf = true) → (Lit.int .i64 x2).wf = true → ∃ k, neumelaw23_ChordTells.f k x0 x1 x2 x3 x4 = some true
end Go.Proofs.YtcokemaiploejaaDoor.Pure
