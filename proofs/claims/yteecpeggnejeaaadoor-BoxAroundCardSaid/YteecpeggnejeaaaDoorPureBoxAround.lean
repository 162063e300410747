/- The law BoxAround of layer 3: for all three boxes, right or not, the law answers true (no condition). -/
import Derived.Test.YteecpeggnejeaaaDoorStatBoxAround
import Derived.Test.YteecpeggnejeaaaDoorBoxPlain
namespace Go.Proofs.YteecpeggnejeaaaDoor.Pure
open Go.RowKit Go.Proofs.YteecpeggnejeaaaDoor.P Go.Proofs.YteecpeggnejeaaaDoor.Rp Go.Proofs.YteecpeggnejeaaaDoor.Bx Go.Proofs.YteecpeggnejeaaaDoorW.PrintWords Go.Proofs.YteecpeggnejeaaaDoorW.PrintLast Go.Proofs.YteecpeggnejeaaaDoorW.PrintMore
set_option linter.unusedVariables false
theorem around (a0 a1 a2 a3 b0 b1 b2 b3 c0 c1 c2 c3 : Int) : Ev (fun k => neumelaw03_BoxAround.f k a0 a1 a2 a3 b0 b1 b2 b3 c0 c1 c2 c3) true := by
  unfold neumelaw03_BoxAround.f
  have out : Ev (fun k => neumelaw03_BoxAround.j0 k true a0 a1 a2 a3 b0 b1 b2 b3 c0 c1 c2 c3) true := by
    refine Ev.succ ?_
    simp only [neumelaw03_BoxAround.j0]
    exact Ev.pos (by decide) heads_bind
  refine (Decidable.em (B a0 a1 a2 a3)).elim (fun ca => ?_) (fun ca => ?_)
  rotate_left
  · rw [check_no ca]
    exact Ev.bindc rfl (Ev.neg (by decide) out)
  rw [check_yes ca]
  refine Ev.bindc rfl (Ev.pos rfl ?_)
  refine (Decidable.em (B b0 b1 b2 b3)).elim (fun cb => ?_) (fun cb => ?_)
  rotate_left
  · rw [check_no cb]
    exact Ev.bindc rfl out
  rw [check_yes cb]
  refine Ev.bindc rfl ?_
  refine Ev.succ ?_
  simp only [neumelaw03_BoxAround.j0]
  refine Ev.neg (by decide) (Ev.bind (jn_ev ..) ?_)
  have ej : jn a0 a1 a2 a3 b0 b1 b2 b3 = (mn a0 b0, mn a1 b1, mx a2 b2, mx a3 b3) := by unfold jn; rw [if_pos ca, if_pos cb]
  have ej2 : jn b0 b1 b2 b3 a0 a1 a2 a3 = (mn a0 b0, mn a1 b1, mx a2 b2, mx a3 b3) := by
    unfold jn
    rw [if_pos cb, if_pos ca]
    have e : ∀ x y : Int, mn y x = mn x y := fun x y => by unfold mn; split <;> split <;> omega
    have e' : ∀ x y : Int, mx y x = mx x y := fun x y => by unfold mx; split <;> split <;> omega
    rw [e a0 b0, e a1 b1, e' a2 b2, e' a3 b3]
  rw [ej]
  dsimp only
  have h0 := mn_spec a0 b0
  have h1 := mn_spec a1 b1
  have h2 := mx_spec a2 b2
  have h3 := mx_spec a3 b3
  generalize mn a0 b0 = j0 at *
  generalize mn a1 b1 = j1 at *
  generalize mx a2 b2 = j2 at *
  generalize mx a3 b3 = j3 at *
  obtain ⟨ca0, ca1, ca2, ca3, ca4, ca5⟩ := ca
  obtain ⟨cb0, cb1, cb2, cb3, cb4, cb5⟩ := cb
  have cj : B j0 j1 j2 j3 := ⟨by unfold L at *; omega, by unfold L at *; omega, by unfold L at *; omega, by unfold L at *; omega, by omega, by omega⟩
  have ia : I a0 a1 a2 a3 j0 j1 j2 j3 := ⟨⟨ca0, ca1, ca2, ca3, ca4, ca5⟩, cj, by omega, by omega, by omega, by omega⟩
  have ib : I b0 b1 b2 b3 j0 j1 j2 j3 := ⟨⟨cb0, cb1, cb2, cb3, cb4, cb5⟩, cj, by omega, by omega, by omega, by omega⟩
  refine Ev.bind (inside_ev ..) ?_
  rw [decide_eq_true ia]
  refine Ev.pos rfl (Ev.bind (inside_ev ..) ?_)
  rw [decide_eq_true ib]
  refine Ev.pos rfl ?_
  rw [check_yes cj]
  refine Ev.bindc rfl (Ev.pos rfl (Ev.bind (jn_ev ..) ?_))
  rw [ej2]
  dsimp only
  refine Ev.succ ?_
  simp only [neumelaw03_BoxAround.j1]
  refine Ev.neg (by simp) (Ev.bind (inside_ev ..) ?_)
  refine (Decidable.em (I a0 a1 a2 a3 c0 c1 c2 c3)).elim (fun ia2 => ?_) (fun ia2 => ?_)
  rotate_left
  · rw [decide_eq_false ia2]
    exact Ev.neg (by decide) heads_bind
  rw [decide_eq_true ia2]
  refine Ev.pos rfl (Ev.bind (inside_ev ..) ?_)
  refine (Decidable.em (I b0 b1 b2 b3 c0 c1 c2 c3)).elim (fun ib2 => ?_) (fun ib2 => ?_)
  rotate_left
  · rw [decide_eq_false ib2]
    exact Ev.neg (by decide) heads_bind
  rw [decide_eq_true ib2]
  refine Ev.pos rfl (Ev.bind (inside_ev ..) ?_)
  obtain ⟨-, cc, p0, p1, p2, p3⟩ := ia2
  obtain ⟨-, -, q0, q1, q2, q3⟩ := ib2
  have ij : I j0 j1 j2 j3 c0 c1 c2 c3 := ⟨cj, cc, by omega, by omega, by omega, by omega⟩
  rw [decide_eq_true ij]
  exact Ev.pos rfl heads_bind
theorem BoxAround : BoxAround_Pure := by
  intro a b c _ _ _
  exact (around ..).rounds
end Go.Proofs.YteecpeggnejeaaaDoor.Pure
