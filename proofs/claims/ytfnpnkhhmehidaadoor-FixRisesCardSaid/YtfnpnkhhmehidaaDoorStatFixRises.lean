-- Written by a program of this session (wip/tools/xprint.py): Lean checks it.
import Derived.Test.YtfnpnkhhmehidaaDoorPx7
namespace Go.Proofs.YtfnpnkhhmehidaaDoor.Pure
open Go.RowKit Go.Proofs.YtfnpnkhhmehidaaDoor.P Go.Proofs.YtfnpnkhhmehidaaDoorW.PrintWords Go.Proofs.YtfnpnkhhmehidaaDoorW.PrintLast Go.Proofs.YtfnpnkhhmehidaaDoorW.PrintMore
/-- THE ONE PURE STATEMENT of neume/neumelaw01.FixRises. -/
def FixRises_Pure : Prop := ∀ (x0 : Int) (x1 : Int) (x2 : Int), (Lit.int .i64 x0).wf = true → (Lit.int .i64 x1).wf = true → (Lit.int .i64 x2).wf = true → ∃ k, neumelaw01_FixRises.f k x0 x1 x2 = some true
end Go.Proofs.YtfnpnkhhmehidaaDoor.Pure
