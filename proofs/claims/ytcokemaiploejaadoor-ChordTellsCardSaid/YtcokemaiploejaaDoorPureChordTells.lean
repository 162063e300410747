/- The law ChordTells of layer 23: the second reckoning says the same. -/
import Derived.Test.YtcokemaiploejaaDoorStatChordTells
import Derived.Test.YtcokemaiploejaaDoorChordRef
namespace Go.Proofs.YtcokemaiploejaaDoor.Pure
open Go.RowKit Go.Proofs.YtcokemaiploejaaDoor.P Go.Proofs.YtcokemaiploejaaDoor.Rp Go.Proofs.YtcokemaiploejaaDoorW.PrintWords Go.Proofs.YtcokemaiploejaaDoorW.PrintLast
set_option linter.unusedVariables false
theorem tells_j0 (l xs : List Int) (g : Int) (up s b : Bool) (h : b = false → l.length ≤ 100) : Ev (fun k => neumelaw23_ChordTells.j0 k l xs g up s b) true := by
  refine Ev.succ ?_
  simp only [neumelaw23_ChordTells.j0]
  by_cases c : b = true
  · exact Ev.pos c heads_bind
  refine Ev.neg c ?_
  have hl := h (Bool.eq_false_iff.2 c)
  obtain ⟨r, h1, h2⟩ := stem_ev g up s
  refine Ev.bind (sides_ev l up) (Ev.bind (rsides_ev l up (by omega)) (Ev.bind (spots_ev l g up s) (Ev.bind (rspots_ev l g up s (by omega)) (Ev.bindc h1 (Ev.bind h2 (Ev.bind (boxes_ev l xs g s) (Ev.bind (rboxes_ev l xs g s (by omega)) ?_)))))))
  refine Ev.bind (numbers_ev _ ?_) (Ev.pos rfl (Ev.pos rfl (Ev.bind (numbers_ev _ ?_) (Ev.pos rfl (Ev.pos rfl (Ev.pos rfl (Ev.pos rfl (Ev.bind (same_ev _ ?_) (Ev.pos rfl (Ev.pos rfl heads_bind))))))))))
  · split
    · rw [sd_length]; omega
    · simp
  · split
    · rw [sp_length]; omega
    · simp
  · split
    · have := bl_len g s l xs l.length 0 []
      rw [List.length_nil] at this
      omega
    · simp
theorem ChordTells : ChordTells_Pure := by
  intro l xs g up s _ _ _
  suffices h : Ev (fun k => neumelaw23_ChordTells.f k l xs g up s) true by
    obtain ⟨k, hk⟩ := h
    exact ⟨k, hk k (Nat.le_refl _)⟩
  unfold neumelaw23_ChordTells.f
  by_cases c : (l.length : Int) > 100
  · exact Ev.pos c (tells_j0 l xs g up s true (fun q => Bool.noConfusion q))
  · exact Ev.neg c (tells_j0 l xs g up s _ (fun _ => by omega))
end Go.Proofs.YtcokemaiploejaaDoor.Pure
