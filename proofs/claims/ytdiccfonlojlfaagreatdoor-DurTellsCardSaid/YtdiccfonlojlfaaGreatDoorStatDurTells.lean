-- Written by a program of this session (wip/tools/xprint.py): Lean checks it.
import Derived.Test.YtdiccfonlojlfaaGreatDoorPx17
namespace Go.Proofs.YtdiccfonlojlfaaGreatDoor.Pure
open Go.RowKit Go.Proofs.YtdiccfonlojlfaaGreatDoor.P Go.Proofs.YtdiccfonlojlfaaGreatDoorW.PrintWords Go.Proofs.YtdiccfonlojlfaaGreatDoorW.PrintLast Go.Proofs.YtdiccfonlojlfaaGreatDoorW.PrintMore
/-- THE ONE PURE STATEMENT of neume/neumelaw07.DurTells. -/
def DurTells_Pure : Prop := ∀ (x0 : S23) (x1 : S25) (x2 : ByteArray), ((Lit.int .i64 x0.f0).wf = true ∧ (Lit.int .i64 x0.f1).wf = true) → ((Lit.int .i64 x1.f0).wf = true ∧ (Lit.int .i64 x1.f1).wf = true) → x2.size ≤ 140737488351232 → ∃ k, neumelaw07_DurTells.f k x0.f0 x0.f1 x1.f0 x1.f1 x2 = some true
end Go.Proofs.YtdiccfonlojlfaaGreatDoor.Pure
