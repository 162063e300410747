/- The law PitchBack of layer 6: places and pitches go there and back, and names. -/
import Derived.Test.YtkncoedagigliaaDoorStatPitchBack
import Derived.Test.YtkncoedagigliaaDoorPitchTab
import Derived.Test.YtkncoedagigliaaDoorPx5
namespace Go.Proofs.YtkncoedagigliaaDoor.Pure
open Go.RowKit Go.Proofs.YtkncoedagigliaaDoor.P Go.Proofs.YtkncoedagigliaaDoor.Rp Go.Proofs.YtkncoedagigliaaDoorW.PrintWords Go.Proofs.YtkncoedagigliaaDoorW.PrintLast
set_option linter.unusedVariables false
theorem heads_bind : Ev (fun k => (neumelaw06_heads.f k).bind fun t => some t) true := Ev.some_bind (Ev.of neumelaw06_heads.mono neumelaw06_heads.at)
theorem PitchBack : PitchBack_Pure := by
  rintro ⟨s, a, o⟩ c ⟨hs, ha, ho⟩ h1
  suffices h : Ev (fun k => neumelaw06_PitchBack.f k s a o c) true by
    obtain ⟨k, hk⟩ := h
    exact ⟨k, hk k (Nat.le_refl _)⟩
  have core : Ev (fun k => neumelaw06_PitchBack.j0 k c false s a o) true := by
    refine Ev.succ ?_
    simp only [neumelaw06_PitchBack.j0]
    refine Ev.neg (by decide) (Ev.bindc (place_eq s a o c) ?_)
    by_cases h : clefP c ∧ okP s a o
    · rw [if_pos h]
      obtain ⟨hc, hp⟩ := h
      have hm := mid_bd c
      have hp' := hp
      unfold okP at hp'
      refine Ev.pos rfl (Ev.bindc (at_eq _ c) ?_)
      rw [if_pos hc, if_pos (by omega), if_pos (by omega)]
      exact Ev.pos rfl (Ev.pos (by simp only; omega) (Ev.pos (by simp only; omega) (Ev.pos rfl heads_bind)))
    · rw [if_neg h]
      exact Ev.neg (by decide) heads_bind
  unfold neumelaw06_PitchBack.f
  by_cases hp : okP s a o
  · obtain ⟨t, ht, hr⟩ := name_ok hp
    refine Ev.bindc ht (Ev.bindc hr (Ev.bindc (check_eq s a o) ?_))
    rw [decide_eq_true hp]
    refine Ev.neg (by simp) (Ev.pos rfl ?_)
    have e : (!(s == s) || (!(a == a) || !(o == o))) = false := by simp
    simp only [e]
    exact core
  · refine Ev.bindc (name_no hp) (Ev.bindc parse_empty (Ev.bindc (check_eq s a o) ?_))
    rw [decide_eq_false hp]
    exact Ev.neg (by decide) (Ev.neg (by decide) core)
end Go.Proofs.YtkncoedagigliaaDoor.Pure
