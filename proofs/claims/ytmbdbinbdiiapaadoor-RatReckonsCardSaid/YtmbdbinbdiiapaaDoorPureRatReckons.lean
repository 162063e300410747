/- The law RatReckons of layer 2: for all fractions and numbers the law answers true (no condition). -/
import Derived.Test.YtmbdbinbdiiapaaDoorStatRatReckons
import Derived.Test.YtmbdbinbdiiapaaDoorRatMore
namespace Go.Proofs.YtmbdbinbdiiapaaDoor.Pure
open Go.RowKit Go.Proofs.YtmbdbinbdiiapaaDoor.P Go.Proofs.YtmbdbinbdiiapaaDoor.Rp Go.Proofs.YtmbdbinbdiiapaaDoorW.PrintWords Go.Proofs.YtmbdbinbdiiapaaDoorW.PrintLast Go.Proofs.YtmbdbinbdiiapaaDoorW.PrintMore
set_option linter.unusedVariables false
theorem reckons_heads : Ev (fun k => (neumelaw02_heads.f k).bind fun t => some t) true := Ev.some_bind (Ev.of neumelaw02_heads.mono neumelaw02_heads.at)
theorem RatReckons : RatReckons_Pure := by
  intro x y n d hx hy hn hd
  obtain ⟨a, b⟩ := x
  obtain ⟨a', b'⟩ := y
  have wf : ∀ z : Int, (Lit.int .i64 z).wf = true → -9223372036854775808 ≤ z ∧ z ≤ 9223372036854775807 := fun z h => by simp [Lit.wf, IntKind.min, IntKind.max, IntKind.signed, IntKind.bits] at h; omega
  have h1 := wf _ hx.1
  have h2 := wf _ hy.1
  suffices h : Ev (fun k => neumelaw02_RatReckons.f k a b a' b' n d) true by
    obtain ⟨k, hk⟩ := h
    exact ⟨k, hk k (Nat.le_refl _)⟩
  unfold neumelaw02_RatReckons.f
  refine Ev.bind (add_ev a b a' b' h1 h2) (Ev.bind (add2_ev a b a' b' h1 h2) (Ev.bind (sub_ev a b a' b' h1 h2) (Ev.bind (sub2_ev a b a' b' h1 h2) ?_)))
  refine Ev.neg (by simp) (Ev.pos rfl (Ev.neg (by simp) ?_))
  refine Ev.succ ?_
  simp only [neumelaw02_RatReckons.j0]
  refine Ev.neg (by simp) (Ev.bind (mul_ev a b a' b' h1 h2) (Ev.bind (mul2_ev a b a' b' h1 h2) (Ev.bind (div_ev a b a' b' h1 h2) (Ev.bind (div2_ev a b a' b' h1 h2) (Ev.bind (of_ev n d) (Ev.bind (of2_ev n d) ?_))))))
  exact Ev.pos (by simp) (Ev.pos rfl (Ev.pos (by simp) (Ev.pos rfl (Ev.pos (by simp) (Ev.pos rfl reckons_heads)))))
end Go.Proofs.YtmbdbinbdiiapaaDoor.Pure
