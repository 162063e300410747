-- Written by a program of this session (wip/tools/xprint.py): Lean checks it.
import Derived.Test.YtmbdbinbdiiapaaDoorPx21
namespace Go.Proofs.YtmbdbinbdiiapaaDoor.Pure
open Go.RowKit Go.Proofs.YtmbdbinbdiiapaaDoor.P Go.Proofs.YtmbdbinbdiiapaaDoorW.PrintWords Go.Proofs.YtmbdbinbdiiapaaDoorW.PrintLast Go.Proofs.YtmbdbinbdiiapaaDoorW.PrintMore
/-- THE ONE PURE STATEMENT of neume/neumelaw02.RatWords. -/
def RatWords_Pure : Prop := ∀ (x0 : S23) (x1 : ByteArray), ((Lit.int .i64 x0.f0).wf = true ∧ (Lit.int .i64 x0.f1).wf = true) → x1.size ≤ 140737488351232 → ∃ k, neumelaw02_RatWords.f k x0.f0 x0.f1 x1 = some true
end Go.Proofs.YtmbdbinbdiiapaaDoor.Pure
