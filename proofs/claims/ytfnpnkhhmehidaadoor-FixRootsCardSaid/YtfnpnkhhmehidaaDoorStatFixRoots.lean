-- Written by a program of this session (wip/tools/xprint.py): Lean checks it.
import Derived.Test.YtfnpnkhhmehidaaDoorPx8
namespace Go.Proofs.YtfnpnkhhmehidaaDoor.Pure
open Go.RowKit Go.Proofs.YtfnpnkhhmehidaaDoor.P Go.Proofs.YtfnpnkhhmehidaaDoorW.PrintWords Go.Proofs.YtfnpnkhhmehidaaDoorW.PrintLast Go.Proofs.YtfnpnkhhmehidaaDoorW.PrintMore
/-- THE ONE PURE STATEMENT of neume/neumelaw01.FixRoots. -/
def FixRoots_Pure : Prop := ∀ (x0 : Int), (Lit.int .i64 x0).wf = true → ∃ k, neumelaw01_FixRoots.f k x0 = some true
end Go.Proofs.YtfnpnkhhmehidaaDoor.Pure
