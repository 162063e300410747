/- The law RatTells of layer 2: for all fractions and texts the law answers true (no condition). -/
import Derived.Test.YtmbdbinbdiiapaaDoorStatRatTells
import Derived.Test.YtmbdbinbdiiapaaDoorRatMod
import Derived.Test.YtmbdbinbdiiapaaDoorRatRead
namespace Go.Proofs.YtmbdbinbdiiapaaDoor.Pure
open Go.RowKit Go.Proofs.YtmbdbinbdiiapaaDoor.P Go.Proofs.YtmbdbinbdiiapaaDoor.Rp Go.Proofs.YtmbdbinbdiiapaaDoorW.PrintWords Go.Proofs.YtmbdbinbdiiapaaDoorW.PrintLast Go.Proofs.YtmbdbinbdiiapaaDoorW.PrintMore
set_option linter.unusedVariables false
theorem tells_heads : Ev (fun k => (neumelaw02_heads.f k).bind fun t => some t) true := Ev.some_bind (Ev.of neumelaw02_heads.mono neumelaw02_heads.at)
theorem both_read (s : ByteArray) (hs : s.size ≤ 100) : ∃ r, Ev (fun k => rat_Parse.f k s) r ∧ Ev (fun k => neumeref02_Parse.f k s) r := by
  obtain ⟨r, h1, h2⟩ := parse_any s (by omega)
  obtain ⟨t, h3, h4⟩ := parse2_any s (by omega)
  rcases h2 with rfl | ⟨n, d, ok, e, rfl⟩
  · rcases h4 with rfl | ⟨n, d, ok, e, rfl⟩
    · exact ⟨_, h1, h3⟩
    · have := parse_yes n d ok
      rw [e] at this
      exact ⟨_, this, h3⟩
  · have := parse2_yes n d ok
    rw [e] at this
    exact ⟨_, h1, this⟩
theorem RatTells : RatTells_Pure := by
  intro x y s hx hy _
  obtain ⟨a, b⟩ := x
  obtain ⟨a', b'⟩ := y
  have wf : ∀ z : Int, (Lit.int .i64 z).wf = true → -9223372036854775808 ≤ z ∧ z ≤ 9223372036854775807 := fun z h => by simp [Lit.wf, IntKind.min, IntKind.max, IntKind.signed, IntKind.bits] at h; omega
  have h1 := wf _ hx.1
  have h2 := wf _ hy.1
  suffices h : Ev (fun k => neumelaw02_RatTells.f k a b a' b' s) true by
    obtain ⟨k, hk⟩ := h
    exact ⟨k, hk k (Nat.le_refl _)⟩
  unfold neumelaw02_RatTells.f
  by_cases c : (s.size : Int) > 100
  · exact Ev.pos c tells_heads
  obtain ⟨r, r1, r2⟩ := both_read s (by omega)
  refine Ev.neg c (Ev.bind (mod_ev a b a' b' h1 h2) (Ev.bind (mod2_ev a b a' b' h1 h2) (Ev.bind r1 (Ev.bind r2 ?_))))
  refine Ev.pos (by simp) (Ev.pos rfl (Ev.pos (by simp) (Ev.pos (by simp) ?_)))
  refine Ev.bind (cmp_ev a b a' b' h1 h2) (Ev.bind (cmp2_ev a b a' b' h1 h2) (Ev.pos rfl ?_))
  refine Ev.bind (floor_ev a b h1) (Ev.bind (floor2_ev a b h1) (Ev.pos rfl ?_))
  refine Ev.bind (text_ev a b h1) (Ev.bind (text2_ev a b h1) (Ev.pos rfl ?_))
  exact Ev.bind (check_ev a b h1) (Ev.bind (check2_ev a b h1) (Ev.pos (by simp) tells_heads))
end Go.Proofs.YtmbdbinbdiiapaaDoor.Pure
