-- Written by a program of this session (wip/tools/xprint.py): Lean checks it.
import Derived.Test.YtkncoedagigliaaDoorPx11
namespace Go.Proofs.YtkncoedagigliaaDoor.Pure
open Go.RowKit Go.Proofs.YtkncoedagigliaaDoor.P Go.Proofs.YtkncoedagigliaaDoorW.PrintWords Go.Proofs.YtkncoedagigliaaDoorW.PrintLast Go.Proofs.YtkncoedagigliaaDoorW.PrintMore
/-- THE ONE PURE STATEMENT of neume/neumelaw06.PitchSigns. -/
def PitchSigns_Pure : Prop := ∀ (x0 : Int) (x1 : Int), (Lit.int .i64 x0).wf = true → (Lit.int .i64 x1).wf = true → ∃ k, neumelaw06_PitchSigns.f k x0 x1 = some true
end Go.Proofs.YtkncoedagigliaaDoor.Pure
