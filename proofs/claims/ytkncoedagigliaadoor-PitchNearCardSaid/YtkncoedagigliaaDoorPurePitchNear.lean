/- The law PitchNear of layer 6: the nearest pitch is no farther than three steps, but for its marks. -/
import Derived.Test.YtkncoedagigliaaDoorStatPitchNear
import Derived.Test.YtkncoedagigliaaDoorPitchPlain
import Derived.Test.YtkncoedagigliaaDoorPx5
namespace Go.Proofs.YtkncoedagigliaaDoor.Pure
open Go.RowKit Go.Proofs.YtkncoedagigliaaDoor.P Go.Proofs.YtkncoedagigliaaDoor.Rp Go.Proofs.YtkncoedagigliaaDoorW.PrintWords Go.Proofs.YtkncoedagigliaaDoorW.PrintLast
set_option linter.unusedVariables false
theorem heads_bind : Ev (fun k => (neumelaw06_heads.f k).bind fun t => some t) true := Ev.some_bind (Ev.of neumelaw06_heads.mono neumelaw06_heads.at)
theorem PitchNear : PitchNear_Pure := by
  rintro ⟨s, a, o⟩ st al mk ⟨hs, ha, ho⟩ h1 h2 h3
  suffices h : Ev (fun k => neumelaw06_PitchNear.f k s a o st al mk) true by
    obtain ⟨k, hk⟩ := h
    exact ⟨k, hk k (Nat.le_refl _)⟩
  unfold neumelaw06_PitchNear.f
  refine Ev.bindc (near_eq s a o st al mk) ?_
  unfold nearV
  by_cases hn : nearOk s a o st al mk
  · rw [if_pos hn]
    obtain ⟨hp, hst, hal, hmk⟩ := hn
    have hp' := hp
    unfold okP at hp'
    by_cases hc : 0 ≤ nearN s o st mk ∧ nearN s o st mk ≤ 69
    · rw [if_pos hc]
      have e : nearN s o st mk % 7 = st := by unfold nearN; omega
      have q : okP (nearN s o st mk % 7) al (nearN s o st mk / 7) := by unfold okP; omega
      have v : wrap64 (wrap64 (7 * (nearN s o st mk / 7) + nearN s o st mk % 7 - wrap64 (7 * mk)) - (7 * o + s)) = nearN s o st mk - 7 * mk - (7 * o + s) := by
        rw [show 7 * (nearN s o st mk / 7) + nearN s o st mk % 7 = nearN s o st mk by omega, wid (x := 7 * mk) (by omega) (by omega), wid (x := nearN s o st mk - 7 * mk) (by omega) (by omega), wid (by omega) (by omega)]
      have b1 : -3 ≤ nearN s o st mk - 7 * mk - (7 * o + s) := by unfold nearN; omega
      have b2 : nearN s o st mk - 7 * mk - (7 * o + s) ≤ 3 := by unfold nearN; omega
      refine Ev.pos rfl (Ev.bindc (count_eq _ _ _) ?_)
      rw [if_pos q]
      refine Ev.bindc (count_eq _ _ _) ?_
      rw [if_pos hp]
      refine Ev.bindc (check_eq _ _ _) ?_
      simp only [v]
      exact Ev.pos (decide_eq_true q) (Ev.pos e (Ev.pos trivial (Ev.pos b1 (Ev.pos b2 heads_bind))))
    · rw [if_neg hc]
      exact Ev.neg (by decide) (Ev.pos rfl heads_bind)
  · rw [if_neg hn]
    exact Ev.neg (by decide) (Ev.pos rfl heads_bind)
end Go.Proofs.YtkncoedagigliaaDoor.Pure
