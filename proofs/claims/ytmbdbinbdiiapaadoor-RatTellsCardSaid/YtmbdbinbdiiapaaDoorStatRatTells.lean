-- Written by a program of this session (wip/tools/xprint.py): Lean checks it.
import Derived.Test.YtmbdbinbdiiapaaDoorPx18
namespace Go.Proofs.YtmbdbinbdiiapaaDoor.Pure
open Go.RowKit Go.Proofs.YtmbdbinbdiiapaaDoor.P Go.Proofs.YtmbdbinbdiiapaaDoorW.PrintWords Go.Proofs.YtmbdbinbdiiapaaDoorW.PrintLast Go.Proofs.YtmbdbinbdiiapaaDoorW.PrintMore
/-- THE ONE PURE STATEMENT of neume/neumelaw02.RatTells. -/
def RatTells_Pure : Prop := ∀ (x0 : S23) (x1 : S23) (x2 : ByteArray), ((Lit.int .i64 x0.f0).wf = true ∧ (Lit.int .i64 x0.f1).wf = true) → ((Lit.int .i64 x1.f0).wf = true ∧ (Lit.int .i64 x1.f1).wf = true) → x2.size ≤ 140737488351232 → ∃ k, neumelaw02_RatTells.f k x0.f0 x0.f1 x1.f0 x1.f1 x2 = some true
end Go.Proofs.YtmbdbinbdiiapaaDoor.Pure
