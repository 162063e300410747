-- Written by a program of this session (wip/tools/xprint.py): Lean checks it.
import Derived.Test.YtkncoedagigliaaDoorPx8
namespace Go.Proofs.YtkncoedagigliaaDoor.Pure
open Go.RowKit Go.Proofs.YtkncoedagigliaaDoor.P Go.Proofs.YtkncoedagigliaaDoorW.PrintWords Go.Proofs.YtkncoedagigliaaDoorW.PrintLast Go.Proofs.YtkncoedagigliaaDoorW.PrintMore
/-- THE ONE PURE STATEMENT of neume/neumelaw06.PitchTells. -/
def PitchTells_Pure : Prop := ∀ (x0 : S23) (x1 : Int) (x2 : Int) (x3 : ByteArray), ((Lit.int .i64 x0.f0).wf = true ∧ (Lit.int .i64 x0.f1).wf = true ∧ (Lit.int .i64 x0.f2).wf = true) → (Lit.int .i64 x1).wf = true → (Lit.int .i64 x2).wf = true → x3.size ≤ 140737488351232 → ∃ k, neumelaw06_PitchTells.f k x0.f0 x0.f1 x0.f2 x1 x2 x3 = some true
end Go.Proofs.YtkncoedagigliaaDoor.Pure
