/- The law DurBack of layer 7: durations and their values, and names, go there and back. -/
import Derived.Test.YtdiccfonlojlfaaDoorStatDurBack
import Derived.Test.YtdiccfonlojlfaaDoorDurPlain
import Derived.Test.YtdiccfonlojlfaaDoorPx10
namespace Go.Proofs.YtdiccfonlojlfaaDoor.Pure
open Go.RowKit Go.Proofs.YtdiccfonlojlfaaDoor.P Go.Proofs.YtdiccfonlojlfaaDoor.Rp Go.Proofs.YtdiccfonlojlfaaDoorW.PrintWords Go.Proofs.YtdiccfonlojlfaaDoorW.PrintLast
set_option linter.unusedVariables false
theorem heads_bind : Ev (fun k => (neumelaw07_heads.f k).bind fun t => some t) true := Ev.some_bind (Ev.of neumelaw07_heads.mono neumelaw07_heads.at)
theorem tail_ev (x y : Int) : Ev (fun k => (dur_Of.f k x y).bind fun bt357 => ((dur_Value.f k bt357.1 bt357.2.1).bind fun bt361 => (if bt357.2.2 = true then (if bt361.2.2 = 0 then (if (bt361.1 == x && (bt361.2.1 == y)) = true then ((neumelaw07_heads.f k).bind fun t365 => (some t365)) else (some false)) else (some false)) else ((neumelaw07_heads.f k).bind fun t366 => (some t366))))) true := by
  obtain ⟨r, hr⟩ := dfound_ex x y
  refine Ev.bind (dof_ev hr) (Ev.bind (value_ev _ _) ?_)
  rcases dfound_tells hr with rfl | ⟨l, d, h1, h2, rfl⟩
  · exact Ev.neg (by decide) heads_bind
  · have e : valV l d = (x, y, 0) := by unfold valV; rw [if_pos h1, h2]
    simp only [e]
    exact Ev.pos trivial (Ev.pos trivial (Ev.pos (by simp) heads_bind))
theorem DurBack : DurBack_Pure := by
  rintro ⟨l, d⟩ ⟨x, y⟩ _ _
  suffices h : Ev (fun k => neumelaw07_DurBack.f k l d x y) true by
    obtain ⟨k, hk⟩ := h
    exact ⟨k, hk k (Nat.le_refl _)⟩
  have core : Ev (fun k => neumelaw07_DurBack.j0 k false x y) true := by
    refine Ev.succ ?_
    simp only [neumelaw07_DurBack.j0]
    exact Ev.neg (by decide) (tail_ev x y)
  unfold neumelaw07_DurBack.f
  refine Ev.bind (value_ev l d) (Ev.bindc (dcheck_eq l d) ?_)
  unfold valV
  by_cases h : okD l d
  · rw [if_pos h, decide_eq_true h]
    refine Ev.neg (show ¬ (((0 : Int) == 0) != true) = true by decide) (Ev.pos rfl ?_)
    obtain ⟨r, hr⟩ := dfound_ex (valT l d).1 (valT l d).2
    obtain rfl : r = (l, d, true) := hr.1 l d h rfl
    obtain ⟨t, ht, hp⟩ := name_ok h
    refine Ev.bind (dof_ev hr) (Ev.bindc ht (Ev.bind (Ev.of (dur_Parse.mono t) hp) (Ev.pos rfl (Ev.neg (by simp) (Ev.pos rfl ?_)))))
    have e : (!(l == l) || !(d == d)) = false := by simp
    simp only [e]
    exact core
  · rw [if_neg h, decide_eq_false h]
    exact Ev.neg (by decide) (Ev.neg (by decide) (tail_ev x y))
end Go.Proofs.YtdiccfonlojlfaaDoor.Pure
