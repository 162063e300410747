-- Written by a program of this session (wip/tools/xprint.py): Lean checks it.
import Derived.Test.YtdiccfonlojlfaaGreatDoorPx20
namespace Go.Proofs.YtdiccfonlojlfaaGreatDoor.Pure
open Go.RowKit Go.Proofs.YtdiccfonlojlfaaGreatDoor.P Go.Proofs.YtdiccfonlojlfaaGreatDoorW.PrintWords Go.Proofs.YtdiccfonlojlfaaGreatDoorW.PrintLast Go.Proofs.YtdiccfonlojlfaaGreatDoorW.PrintMore
/-- THE ONE PURE STATEMENT of neume/neumelaw07.DurMeters. -/
def DurMeters_Pure : Prop := ∀ (x0 : S45) (x1 : S25), ((Lit.int .i64 x0.f0).wf = true ∧ (Lit.int .i64 x0.f1).wf = true) → ((Lit.int .i64 x1.f0).wf = true ∧ (Lit.int .i64 x1.f1).wf = true) → ∃ k, neumelaw07_DurMeters.f k x0.f0 x0.f1 x1.f0 x1.f1 = some true
end Go.Proofs.YtdiccfonlojlfaaGreatDoor.Pure
