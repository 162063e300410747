/- The law BoxMeets of layer 3: for all two boxes, right or not, and numbers the law answers true (no condition). -/
import Derived.Test.YteecpeggnejeaaaDoorStatBoxMeets
import Derived.Test.YteecpeggnejeaaaDoorBoxPlain
namespace Go.Proofs.YteecpeggnejeaaaDoor.Pure
open Go.RowKit Go.Proofs.YteecpeggnejeaaaDoor.P Go.Proofs.YteecpeggnejeaaaDoor.Rp Go.Proofs.YteecpeggnejeaaaDoor.Bx Go.Proofs.YteecpeggnejeaaaDoorW.PrintWords Go.Proofs.YteecpeggnejeaaaDoorW.PrintLast Go.Proofs.YteecpeggnejeaaaDoorW.PrintMore
set_option linter.unusedVariables false
theorem mn_comm (a b : Int) : mn a b = mn b a := by unfold mn; split <;> split <;> omega
theorem mx_comm (a b : Int) : mx a b = mx b a := by unfold mx; split <;> split <;> omega
theorem mn_plus (a b c : Int) : mn (a + c) (b + c) = mn a b + c := by unfold mn; split <;> split <;> omega
theorem mx_plus (a b c : Int) : mx (a + c) (b + c) = mx a b + c := by unfold mx; split <;> split <;> omega
theorem meet_comm (a0 a1 a2 a3 b0 b1 b2 b3 : Int) : decide (T b0 b1 b2 b3 a0 a1 a2 a3) = decide (T a0 a1 a2 a3 b0 b1 b2 b3) := by
  rw [Bool.eq_iff_iff]
  simp only [decide_eq_true_eq, T, mn_comm b2 a2, mn_comm b3 a3, mx_comm b0 a0, mx_comm b1 a1]
  exact ⟨fun h => ⟨h.2.1, h.1, h.2.2⟩, fun h => ⟨h.2.1, h.1, h.2.2⟩⟩
theorem apart_two (p q : S23) : ∃ x y, Ev (fun k => box_Apart.f k [p, q]) (if B p.f0 p.f1 p.f2 p.f3 ∧ B q.f0 q.f1 q.f2 q.f3 then (x, y, !(decide (T p.f0 p.f1 p.f2 p.f3 q.f0 q.f1 q.f2 q.f3))) else (0, 0, false)) := by
  have r0 : rd_T23 [p, q] 0 = p := rfl
  have r1 : rd_T23 [p, q] 1 = q := rfl
  have w1 : wrap64 ((0 : Int) + 1) = 1 := by decide +kernel
  have w2 : wrap64 ((1 : Int) + 1) = 2 := by decide +kernel
  have ln : (([p, q] : List S23).length : Int) = 2 := rfl
  by_cases c : B p.f0 p.f1 p.f2 p.f3
  · by_cases d : B q.f0 q.f1 q.f2 q.f3
    · by_cases t : T p.f0 p.f1 p.f2 p.f3 q.f0 q.f1 q.f2 q.f3
      · refine ⟨0, 1, ?_⟩
        rw [if_pos ⟨c, d⟩, decide_eq_true t]
        unfold box_Apart.f
        rw [ln]
        refine Ev.neg (by decide) (Ev.succ ?_)
        simp only [box_Apart.l0]
        rw [r0, check_yes c, w1, ln]
        refine Ev.pos (by decide) (Ev.pos (by decide) (Ev.pos (by decide) (Ev.bindc rfl (Ev.pos rfl (Ev.succ ?_)))))
        simp only [box_Apart.l0]
        rw [r1, check_yes d, w2, ln]
        refine Ev.pos (by decide) (Ev.pos (by decide) (Ev.pos (by decide) (Ev.bindc rfl (Ev.pos rfl (Ev.succ ?_)))))
        simp only [box_Apart.l0]
        rw [ln]
        refine Ev.neg (by decide) (Ev.succ ?_)
        simp only [box_Apart.l1]
        rw [w1]
        refine Ev.pos (by decide) (Ev.succ ?_)
        simp only [box_Apart.l2]
        rw [r0, r1, ln, meet_eq, decide_eq_true t]
        exact Ev.pos (by decide) (Ev.pos (by decide) (Ev.pos (by decide) (Ev.pos (by decide) (Ev.bindc rfl (Ev.pos rfl (Ev.const rfl))))))
      · refine ⟨-1, -1, ?_⟩
        rw [if_pos ⟨c, d⟩, decide_eq_false t]
        unfold box_Apart.f
        rw [ln]
        refine Ev.neg (by decide) (Ev.succ ?_)
        simp only [box_Apart.l0]
        rw [r0, check_yes c, w1, ln]
        refine Ev.pos (by decide) (Ev.pos (by decide) (Ev.pos (by decide) (Ev.bindc rfl (Ev.pos rfl (Ev.succ ?_)))))
        simp only [box_Apart.l0]
        rw [r1, check_yes d, w2, ln]
        refine Ev.pos (by decide) (Ev.pos (by decide) (Ev.pos (by decide) (Ev.bindc rfl (Ev.pos rfl (Ev.succ ?_)))))
        simp only [box_Apart.l0]
        rw [ln]
        refine Ev.neg (by decide) (Ev.succ ?_)
        simp only [box_Apart.l1]
        rw [w1]
        refine Ev.pos (by decide) (Ev.succ ?_)
        simp only [box_Apart.l2]
        rw [r0, r1, ln, meet_eq, decide_eq_false t, w2, w1]
        refine Ev.pos (by decide) (Ev.pos (by decide) (Ev.pos (by decide) (Ev.pos (by decide) (Ev.bindc rfl (Ev.neg (by decide) (Ev.succ ?_))))))
        simp only [box_Apart.l2]
        rw [ln, w1]
        refine Ev.neg (by decide) (Ev.succ ?_)
        simp only [box_Apart.l1]
        rw [w2]
        refine Ev.pos (by decide) (Ev.succ ?_)
        simp only [box_Apart.l2]
        rw [ln, w2]
        refine Ev.neg (by decide) (Ev.succ ?_)
        simp only [box_Apart.l1]
        exact Ev.neg (by decide) (Ev.const rfl)
    · refine ⟨0, 0, ?_⟩
      rw [if_neg (fun h => d h.2)]
      unfold box_Apart.f
      rw [ln]
      refine Ev.neg (by decide) (Ev.succ ?_)
      simp only [box_Apart.l0]
      rw [r0, check_yes c, w1, ln]
      refine Ev.pos (by decide) (Ev.pos (by decide) (Ev.pos (by decide) (Ev.bindc rfl (Ev.pos rfl (Ev.succ ?_)))))
      simp only [box_Apart.l0]
      rw [r1, check_no d, w2, ln]
      exact Ev.pos (by decide) (Ev.pos (by decide) (Ev.pos (by decide) (Ev.bindc rfl (Ev.neg (by decide) (Ev.const rfl)))))
  · refine ⟨0, 0, ?_⟩
    rw [if_neg (fun h => c h.1)]
    unfold box_Apart.f
    rw [ln]
    refine Ev.neg (by decide) (Ev.succ ?_)
    simp only [box_Apart.l0]
    rw [r0, check_no c, w1, ln]
    exact Ev.pos (by decide) (Ev.pos (by decide) (Ev.pos (by decide) (Ev.bindc rfl (Ev.neg (by decide) (Ev.const rfl)))))
theorem meets_end (a0 a1 a2 a3 b0 b1 b2 b3 : Int) : Ev (fun k => neumelaw03_BoxMeets.j0 k (decide (T a0 a1 a2 a3 b0 b1 b2 b3)) false a0 a1 a2 a3 b0 b1 b2 b3) true := by
  refine Ev.succ ?_
  simp only [neumelaw03_BoxMeets.j0]
  obtain ⟨x, y, h⟩ := apart_two ⟨a0, a1, a2, a3⟩ ⟨b0, b1, b2, b3⟩
  refine Ev.neg (by decide) (Ev.bind h ?_)
  dsimp only
  by_cases c : B a0 a1 a2 a3
  · rw [check_yes c]
    refine Ev.bindc rfl (Ev.pos rfl ?_)
    by_cases d : B b0 b1 b2 b3
    · rw [check_yes d]
      refine Ev.bindc rfl (Ev.pos rfl (Ev.pos ?_ heads_bind))
      rw [if_pos ⟨c, d⟩]
      cases decide (T a0 a1 a2 a3 b0 b1 b2 b3) <;> rfl
    · rw [check_no d]
      exact Ev.bindc rfl (Ev.neg (by decide) heads_bind)
  · rw [check_no c]
    exact Ev.bindc rfl (Ev.neg (by decide) heads_bind)
theorem meets (a0 a1 a2 a3 b0 b1 b2 b3 x y : Int) : Ev (fun k => neumelaw03_BoxMeets.f k a0 a1 a2 a3 b0 b1 b2 b3 x y) true := by
  unfold neumelaw03_BoxMeets.f
  refine Ev.bindc (meet_eq ..) (Ev.bindc (meet_eq ..) ?_)
  rw [meet_comm a0 a1 a2 a3 b0 b1 b2 b3, bne_self_eq_false]
  refine Ev.neg (by decide) (Ev.bindc (move_eq ..) (Ev.bindc (move_eq ..) ?_))
  unfold bmove mv
  by_cases ca : B a0 a1 a2 a3 ∧ M a0 a1 a2 a3 x y x y
  · rw [if_pos ca.1, if_pos ca.2]
    refine Ev.pos rfl ?_
    by_cases cb : B b0 b1 b2 b3 ∧ M b0 b1 b2 b3 x y x y
    · rw [if_pos cb.1, if_pos cb.2]
      refine Ev.pos rfl (Ev.bindc (meet_eq ..) ?_)
      dsimp only
      have e : decide (T (a0 + x) (a1 + y) (a2 + x) (a3 + y) (b0 + x) (b1 + y) (b2 + x) (b3 + y)) = decide (T a0 a1 a2 a3 b0 b1 b2 b3) := by
        rw [Bool.eq_iff_iff]
        simp only [decide_eq_true_eq, T, mn_plus, mx_plus]
        obtain ⟨⟨c0, c1, c2, c3, c4, c5⟩, ⟨_, _, m0⟩, ⟨_, _, m1⟩, ⟨_, _, m2⟩, ⟨_, _, m3⟩⟩ := ca
        obtain ⟨⟨d0, d1, d2, d3, d4, d5⟩, ⟨_, _, n0⟩, ⟨_, _, n1⟩, ⟨_, _, n2⟩, ⟨_, _, n3⟩⟩ := cb
        constructor
        · intro h
          exact ⟨⟨c0, c1, c2, c3, c4, c5⟩, ⟨d0, d1, d2, d3, d4, d5⟩, by omega, by omega⟩
        · intro h
          exact ⟨⟨m0, m1, m2, m3, by omega, by omega⟩, ⟨n0, n1, n2, n3, by omega, by omega⟩, by omega, by omega⟩
      rw [e, bne_self_eq_false]
      exact meets_end ..
    · refine Ev.neg ?_ (meets_end ..)
      by_cases c1 : B b0 b1 b2 b3
      · rw [if_pos c1, if_neg (fun h => cb ⟨c1, h⟩)]; decide
      · rw [if_neg c1]; decide
  · refine Ev.neg ?_ (meets_end ..)
    by_cases c1 : B a0 a1 a2 a3
    · rw [if_pos c1, if_neg (fun h => ca ⟨c1, h⟩)]; decide
    · rw [if_neg c1]; decide
theorem BoxMeets : BoxMeets_Pure := by
  intro a b x y _ _ _ _
  exact (meets ..).rounds
end Go.Proofs.YteecpeggnejeaaaDoor.Pure
