-- Written by a program of this session (wip/tools/xprint.py): Lean checks it.
import Derived.Test.YtmffjjncnbeldaaDoorPx18
namespace Go.Proofs.YtmffjjncnbeldaaDoor.Pure
open Go.RowKit Go.Proofs.YtmffjjncnbeldaaDoor.P Go.Proofs.YtmffjjncnbeldaaDoorW.PrintWords Go.Proofs.YtmffjjncnbeldaaDoorW.PrintLast Go.Proofs.YtmffjjncnbeldaaDoorW.PrintMore
/-- THE ONE PURE STATEMENT of neume/neumelaw08.TokenPlaces. -/
def TokenPlaces_Pure : Prop := ∀ (x0 : ByteArray), x0.size ≤ 140737488351232 → ∃ k, neumelaw08_TokenPlaces.f k x0 = some true
end Go.Proofs.YtmffjjncnbeldaaDoor.Pure
