-- Written by a program of this session (wip/tools/xprint.py): Lean checks it.
import Derived.Test.YtcokemaiploejaaDoorPx20
namespace Go.Proofs.YtcokemaiploejaaDoor.Pure
open Go.RowKit Go.Proofs.YtcokemaiploejaaDoor.P Go.Proofs.YtcokemaiploejaaDoorW.PrintWords Go.Proofs.YtcokemaiploejaaDoorW.PrintLast Go.Proofs.YtcokemaiploejaaDoorW.PrintMore
/-- THE ONE PURE STATEMENT of neume/neumelaw23.ChordApart. -/
def ChordApart_Pure : Prop := ∀ (x0 : List Int) (x1 : Int) (x2 : Bool) (x3 : Bool), (x0.length ≤ 9223372036854775807 ∧ x0.length * 8 ≤ 140737488351232 ∧ ∀ z0_ ∈ x0, (Lit.int .i64 z0_).wf = true) → (Lit.int .i64 x1).wf = true → ∃ k, neumelaw23_ChordApart.f k x0 x1 x2 x3 = some true
end Go.Proofs.YtcokemaiploejaaDoor.Pure
