/- The law PitchTells of layer 6: what pitches are, and are called, and where they stand. -/
import Derived.Test.YtkncoedagigliaaDoorStatPitchTells
import Derived.Test.YtkncoedagigliaaDoorPitchRef
import Derived.Test.YtkncoedagigliaaDoorPx5
namespace Go.Proofs.YtkncoedagigliaaDoor.Pure
open Go.RowKit Go.Proofs.YtkncoedagigliaaDoor.P Go.Proofs.YtkncoedagigliaaDoor.Rp Go.Proofs.YtkncoedagigliaaDoorW.PrintWords Go.Proofs.YtkncoedagigliaaDoorW.PrintLast
set_option linter.unusedVariables false
theorem heads_bind : Ev (fun k => (neumelaw06_heads.f k).bind fun t => some t) true := Ev.some_bind (Ev.of neumelaw06_heads.mono neumelaw06_heads.at)
theorem PitchTells : PitchTells_Pure := by
  rintro ⟨s, a, o⟩ c p x ⟨hs, ha, ho⟩ h1 h2 h3
  suffices h : Ev (fun k => neumelaw06_PitchTells.f k s a o c p x) true by
    obtain ⟨k, hk⟩ := h
    exact ⟨k, hk k (Nat.le_refl _)⟩
  have core : Ev (fun k => neumelaw06_PitchTells.j0 k false s a o) true := by
    refine Ev.succ ?_
    simp only [neumelaw06_PitchTells.j0]
    refine Ev.neg (by decide) (Ev.bindc (check_eq s a o) (Ev.bindc (rcheck_eq s a o) (Ev.pos (by simp) ?_)))
    obtain ⟨v, hv, hv'⟩ := tone_both s a o
    refine Ev.bindc hv (Ev.bindc hv' (Ev.pos rfl (Ev.bindc (count_eq s a o) (Ev.bindc (rcount_eq s a o) (Ev.pos rfl ?_)))))
    obtain ⟨t, ht, hr⟩ := rname s a o
    exact Ev.bindc ht (Ev.bind hr (Ev.pos rfl heads_bind))
  unfold neumelaw06_PitchTells.f
  by_cases hx : (x.size : Int) > 100
  · exact Ev.pos hx heads_bind
  · refine Ev.neg hx ?_
    obtain ⟨v, hv, hr⟩ := parse_ref x (by omega)
    refine Ev.bindc (place_eq s a o c) (Ev.bind (rplace_ev s a o c) (Ev.bindc (at_eq p c) (Ev.bind (rat_ev p c) (Ev.bindc hv (Ev.bind hr ?_)))))
    refine Ev.pos rfl (Ev.pos rfl (Ev.neg (by simp) (Ev.pos rfl (Ev.neg (by simp) ?_))))
    rw [show (v.2.2.2 != v.2.2.2) = false by simp]
    exact core
end Go.Proofs.YtkncoedagigliaaDoor.Pure
