/- The law SlopeLayers of layer 19: for every level and both directions the law answers true (no condition). -/
import Derived.Test.YtbmdbkjmleimmaaPx6
import Derived.Test.YtbmdbkjmleimmaaSlopeHeads
namespace Go.Proofs.Ytbmdbkjmleimmaa.Pure
open Go.RowKit Go.Proofs.Ytbmdbkjmleimmaa.P Go.Proofs.Ytbmdbkjmleimmaa.Rp Go.Proofs.YtbmdbkjmleimmaaW.PrintWords Go.Proofs.YtbmdbkjmleimmaaW.PrintLast Go.Proofs.YtbmdbkjmleimmaaW.PrintMore

theorem thick_bad (l : Int) (up : Bool) (h : l < 1 ∨ l > 4) : Ev (fun k => slope_Thick.f k l up) (0, 0) := by
  have bad : Ev (fun k => slope_Thick.j0 k l up true) (0, 0) := by
    refine Ev.succ ?_
    simp only [slope_Thick.j0, if_true]
    exact Ev.now _
  unfold slope_Thick.f
  by_cases c : l < 1
  · exact Ev.pos c bad
  · rw [decide_eq_true (show l > 4 by omega)]
    exact Ev.neg c bad
theorem SlopeLayers : neumelaw19_SlopeLayers.Pure := by
  intro l up _
  by_cases h : l < 1 ∨ l > 4
  · refine Ev.rounds (g := fun k => neumelaw19_SlopeLayers.f k l up) ?_
    unfold neumelaw19_SlopeLayers.f
    refine Ev.bind (thick_bad l up h) ?_
    have bad : Ev (fun k => neumelaw19_SlopeLayers.j0 k l up 0 0 true) true := by
      refine Ev.succ ?_
      simp only [neumelaw19_SlopeLayers.j0, if_true]
      exact heads_bind
    by_cases c : l < 1
    · exact Ev.pos c bad
    · rw [decide_eq_true (show l > 4 by omega)]
      exact Ev.neg c bad
  · have hl : l = 1 ∨ l = 2 ∨ l = 3 ∨ l = 4 := by omega
    rcases hl with rfl | rfl | rfl | rfl <;> cases up <;> exact ⟨80, by decide +kernel⟩
end Go.Proofs.Ytbmdbkjmleimmaa.Pure
