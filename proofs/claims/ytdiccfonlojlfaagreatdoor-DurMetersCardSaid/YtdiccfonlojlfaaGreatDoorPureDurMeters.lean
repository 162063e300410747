/- The law DurMeters of layer 7: how long bars are, and where beats begin. -/
import Derived.Test.YtdiccfonlojlfaaGreatDoorPx10
import Derived.Test.YtdiccfonlojlfaaGreatDoorPx20
import Derived.Test.YtdiccfonlojlfaaGreatDoorStatDurMeters
import Derived.Test.YtdiccfonlojlfaaGreatDoorDurMeterRef
namespace Go.Proofs.YtdiccfonlojlfaaGreatDoor.Pure
open Go.RowKit Go.Proofs.YtdiccfonlojlfaaGreatDoor.P Go.Proofs.YtdiccfonlojlfaaGreatDoor.Rp Go.Proofs.YtdiccfonlojlfaaGreatDoorW.PrintWords Go.Proofs.YtdiccfonlojlfaaGreatDoorW.PrintLast
set_option linter.unusedVariables false

theorem heads_bind : Ev (fun k => (neumelaw07_heads.f k).bind fun t => some t) true := Ev.some_bind (Ev.of neumelaw07_heads.mono neumelaw07_heads.at)
theorem DurMeters : DurMeters_Pure := by
  rintro ⟨a, b⟩ ⟨x, y⟩ _ ⟨hx, _⟩
  have wx : -9223372036854775808 ≤ x ∧ x ≤ 9223372036854775807 := by simp [Lit.wf, IntKind.min, IntKind.max, IntKind.signed, IntKind.bits] at hx; omega
  suffices h : Ev (fun k => neumelaw07_DurMeters.f k a b x y) true by
    obtain ⟨k, hk⟩ := h
    exact ⟨k, hk k (Nat.le_refl _)⟩
  unfold neumelaw07_DurMeters.f
  have hl : (if okM a b then (blM a b, (0 : Int)) else ([], 2)).1.length ≤ 1000 := by
    split
    · rename_i h
      have := len_bd h
      simp only
      omega
    · exact Nat.zero_le _
  refine Ev.bind (bar_ev a b) (Ev.bind (rbar_ev a b) (Ev.bind (beats_ev a b) (Ev.bind (rbeats_ev a b) (Ev.bind (beat_ev a b x y wx) (Ev.bind (rbeat_ev a b x y wx) ?_)))))
  refine Ev.pos (by simp) (Ev.pos rfl (Ev.bind (rats_same _ hl) (Ev.pos rfl (Ev.pos rfl (Ev.pos rfl (Ev.pos rfl (Ev.bindc (meter_eq a b) (Ev.bindc (rmeter_eq a b) (Ev.pos (by simp) heads_bind)))))))))
end Go.Proofs.YtdiccfonlojlfaaGreatDoor.Pure