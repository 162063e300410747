-- Written by a program of this session (wip/tools/xprint.py): Lean checks it.
import Derived.Test.YtmffjjncnbeldaaDoorPx17
namespace Go.Proofs.YtmffjjncnbeldaaDoor.Pure
open Go.RowKit Go.Proofs.YtmffjjncnbeldaaDoor.P Go.Proofs.YtmffjjncnbeldaaDoorW.PrintWords Go.Proofs.YtmffjjncnbeldaaDoorW.PrintLast Go.Proofs.YtmffjjncnbeldaaDoorW.PrintMore
/-- THE ONE PURE STATEMENT of neume/neumelaw08.TokenBlanks. -/
def TokenBlanks_Pure : Prop := ∀ (x0 : ByteArray) (x1 : Int) (x2 : ByteArray), x0.size ≤ 140737488351232 → (Lit.int .i64 x1).wf = true → x2.size ≤ 140737488351232 → ∃ k, neumelaw08_TokenBlanks.f k x0 x1 x2 = some true
end Go.Proofs.YtmffjjncnbeldaaDoor.Pure
