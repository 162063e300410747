/- The law BoxBack of layer 3: for all boxes, right or not, and numbers the law answers true (no condition). -/
import Derived.Test.YteecpeggnejeaaaDoorStatBoxBack
import Derived.Test.YteecpeggnejeaaaDoorBoxPlain
namespace Go.Proofs.YteecpeggnejeaaaDoor.Pure
open Go.RowKit Go.Proofs.YteecpeggnejeaaaDoor.P Go.Proofs.YteecpeggnejeaaaDoor.Rp Go.Proofs.YteecpeggnejeaaaDoor.Bx Go.Proofs.YteecpeggnejeaaaDoorW.PrintWords Go.Proofs.YteecpeggnejeaaaDoorW.PrintLast Go.Proofs.YteecpeggnejeaaaDoorW.PrintMore
set_option linter.unusedVariables false
theorem back_grow (a0 a1 a2 a3 x : Int) : Ev (fun k => neumelaw03_BoxBack.j0 k x a0 a1 a2 a3) true := by
  refine Ev.succ ?_
  simp only [neumelaw03_BoxBack.j0]
  refine Ev.bindc (grow_eq a0 a1 a2 a3 x) ?_
  unfold bgrow
  refine (Decidable.em (B a0 a1 a2 a3)).elim (fun c => ?_) (fun c => ?_)
  rotate_left
  · rw [if_neg c]
    exact Ev.neg (by decide) (Ev.pos (by decide) heads_bind)
  rw [if_pos c]
  refine (Decidable.em (L x)).elim (fun cx => ?_) (fun cx => ?_)
  rotate_left
  · rw [if_neg cx]
    exact Ev.neg (by decide) (Ev.pos (by decide) heads_bind)
  rw [if_pos cx]
  refine (Decidable.em (M a0 a1 a2 a3 (-x) (-x) x x)).elim (fun cm => ?_) (fun cm => ?_)
  rotate_left
  · rw [if_neg cm]
    exact Ev.neg (by decide) (Ev.pos (by decide) heads_bind)
  rw [if_pos cm]
  refine (Decidable.em (B (a0 + -x) (a1 + -x) (a2 + x) (a3 + x))).elim (fun cb => ?_) (fun cb => ?_)
  rotate_left
  · rw [if_neg cb]
    exact Ev.neg (by decide) (Ev.pos (by decide) heads_bind)
  rw [if_pos cb]
  refine Ev.pos rfl ?_
  dsimp only
  rw [wrap_id (x := -x) (by omega) (by omega)]
  refine Ev.bindc (grow_eq _ _ _ _ _) ?_
  unfold bgrow
  rw [if_pos cb, if_pos (show L (-x) by omega)]
  have e0 : a0 + -x + - -x = a0 := by omega
  have e1 : a1 + -x + - -x = a1 := by omega
  have e2 : a2 + x + -x = a2 := by omega
  have e3 : a3 + x + -x = a3 := by omega
  obtain ⟨c0, c1, c2, c3, c4, c5⟩ := c
  obtain ⟨b0, b1, b2, b3, b4, b5⟩ := cb
  rw [if_pos (show M (a0 + -x) (a1 + -x) (a2 + x) (a3 + x) (- -x) (- -x) (-x) (-x) from ⟨⟨b0, by omega, by rw [e0]; exact c0⟩, ⟨b1, by omega, by rw [e1]; exact c1⟩, ⟨b2, by omega, by rw [e2]; exact c2⟩, ⟨b3, by omega, by rw [e3]; exact c3⟩⟩), e0, e1, e2, e3, if_pos ⟨c0, c1, c2, c3, c4, c5⟩]
  exact Ev.pos rfl (Ev.pos (by simp) heads_bind)
theorem back (a0 a1 a2 a3 x y : Int) : Ev (fun k => neumelaw03_BoxBack.f k a0 a1 a2 a3 x y) true := by
  unfold neumelaw03_BoxBack.f
  refine Ev.bindc (move_eq a0 a1 a2 a3 x y) ?_
  unfold bmove mv
  refine (Decidable.em (B a0 a1 a2 a3)).elim (fun c => ?_) (fun c => ?_)
  rotate_left
  · rw [if_neg c]
    exact Ev.neg (by decide) (back_grow ..)
  rw [if_pos c]
  refine (Decidable.em (M a0 a1 a2 a3 x y x y)).elim (fun cm => ?_) (fun cm => ?_)
  rotate_left
  · rw [if_neg cm]
    exact Ev.neg (by decide) (back_grow ..)
  rw [if_pos cm]
  refine Ev.pos rfl ?_
  dsimp only
  obtain ⟨⟨p0, p1, p2⟩, ⟨q0, q1, q2⟩, ⟨r0, r1, r2⟩, ⟨s0, s1, s2⟩⟩ := cm
  rw [wrap_id (x := -x) (by omega) (by omega), wrap_id (x := -y) (by omega) (by omega)]
  refine Ev.bindc (move_eq _ _ _ _ _ _) ?_
  unfold bmove mv
  have e0 : a0 + x + -x = a0 := by omega
  have e1 : a1 + y + -y = a1 := by omega
  have e2 : a2 + x + -x = a2 := by omega
  have e3 : a3 + y + -y = a3 := by omega
  obtain ⟨c0, c1, c2, c3, c4, c5⟩ := c
  rw [if_pos (show B (a0 + x) (a1 + y) (a2 + x) (a3 + y) from ⟨p2, q2, r2, s2, by omega, by omega⟩), if_pos (show M (a0 + x) (a1 + y) (a2 + x) (a3 + y) (-x) (-y) (-x) (-y) from ⟨⟨p2, by omega, by rw [e0]; exact p0⟩, ⟨q2, by omega, by rw [e1]; exact q0⟩, ⟨r2, by omega, by rw [e2]; exact r0⟩, ⟨s2, by omega, by rw [e3]; exact s0⟩⟩), e0, e1, e2, e3]
  refine Ev.pos rfl (Ev.neg (by simp) ?_)
  exact back_grow ..
theorem BoxBack : BoxBack_Pure := by
  intro a x y _ _ _
  exact (back ..).rounds
end Go.Proofs.YteecpeggnejeaaaDoor.Pure
