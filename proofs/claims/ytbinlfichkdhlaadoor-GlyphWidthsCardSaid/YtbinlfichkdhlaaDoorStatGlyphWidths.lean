-- Written by a program of this session (wip/tools/xprint.py): Lean checks it.
import Derived.Test.YtbinlfichkdhlaaDoorPx11
namespace Go.Proofs.YtbinlfichkdhlaaDoor.Pure
open Go.RowKit Go.Proofs.YtbinlfichkdhlaaDoor.P Go.Proofs.YtbinlfichkdhlaaDoorW.PrintWords Go.Proofs.YtbinlfichkdhlaaDoorW.PrintLast Go.Proofs.YtbinlfichkdhlaaDoorW.PrintMore
/-- THE ONE PURE STATEMENT of neume/neumelaw05.GlyphWidths. -/
def GlyphWidths_Pure : Prop := ∀ (x0 : ByteArray) (x1 : ByteArray), x0.size ≤ 140737488351232 → x1.size ≤ 140737488351232 → ∃ k, neumelaw05_GlyphWidths.f k x0 x1 = some true
end Go.Proofs.YtbinlfichkdhlaaDoor.Pure
