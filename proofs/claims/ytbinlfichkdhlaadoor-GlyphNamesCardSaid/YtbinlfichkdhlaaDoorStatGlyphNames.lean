-- Written by a program of this session (wip/tools/xprint.py): Lean checks it.
import Derived.Test.YtbinlfichkdhlaaDoorPx9
namespace Go.Proofs.YtbinlfichkdhlaaDoor.Pure
open Go.RowKit Go.Proofs.YtbinlfichkdhlaaDoor.P Go.Proofs.YtbinlfichkdhlaaDoorW.PrintWords Go.Proofs.YtbinlfichkdhlaaDoorW.PrintLast Go.Proofs.YtbinlfichkdhlaaDoorW.PrintMore
/-- THE ONE PURE STATEMENT of neume/neumelaw05.GlyphNames. -/
def GlyphNames_Pure : Prop := ∀ (x0 : Int) (x1 : Int), (Lit.int .i64 x0).wf = true → (Lit.int .i64 x1).wf = true → ∃ k, neumelaw05_GlyphNames.f k x0 x1 = some true
end Go.Proofs.YtbinlfichkdhlaaDoor.Pure
