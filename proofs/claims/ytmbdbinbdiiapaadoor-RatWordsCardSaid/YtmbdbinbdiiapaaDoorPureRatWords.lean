/- The law RatWords of layer 2: for all fractions and texts the law answers true (no condition). -/
import Derived.Test.YtmbdbinbdiiapaaDoorStatRatWords
import Derived.Test.YtmbdbinbdiiapaaDoorRatText
namespace Go.Proofs.YtmbdbinbdiiapaaDoor.Pure
open Go.RowKit Go.Proofs.YtmbdbinbdiiapaaDoor.P Go.Proofs.YtmbdbinbdiiapaaDoor.Rp Go.Proofs.YtmbdbinbdiiapaaDoorW.PrintWords Go.Proofs.YtmbdbinbdiiapaaDoorW.PrintLast Go.Proofs.YtmbdbinbdiiapaaDoorW.PrintMore
set_option linter.unusedVariables false
theorem words_heads : Ev (fun k => (neumelaw02_heads.f k).bind fun t => some t) true := Ev.some_bind (Ev.of neumelaw02_heads.mono neumelaw02_heads.at)
theorem words_j0 (s : ByteArray) (hs : s.size ≤ 100) : Ev (fun k => neumelaw02_RatWords.j0 k s false) true := by
  obtain ⟨r, h1, h2⟩ := parse_any s (by omega)
  refine Ev.succ ?_
  simp only [neumelaw02_RatWords.j0]
  refine Ev.neg (by simp) (Ev.bind h1 ?_)
  rcases h2 with rfl | ⟨n, d, ok, e, rfl⟩
  · exact Ev.neg (by decide) words_heads
  · have hn : -9223372036854775808 ≤ n ∧ n ≤ 9223372036854775807 := by
      have := ok.2.2.1
      have := ok.2.2.2.1
      omega
    refine Ev.pos rfl (Ev.bind (text_ev n d hn) (Ev.pos (by rw [e]) (Ev.bind (check_ev n d hn) ?_)))
    rw [decide_eq_true ok]
    exact Ev.pos rfl words_heads
theorem RatWords : RatWords_Pure := by
  intro x s hx _
  obtain ⟨n, d⟩ := x
  have wf : ∀ z : Int, (Lit.int .i64 z).wf = true → -9223372036854775808 ≤ z ∧ z ≤ 9223372036854775807 := fun z h => by simp [Lit.wf, IntKind.min, IntKind.max, IntKind.signed, IntKind.bits] at h; omega
  have hn := wf _ hx.1
  suffices h : Ev (fun k => neumelaw02_RatWords.f k n d s) true by
    obtain ⟨k, hk⟩ := h
    exact ⟨k, hk k (Nat.le_refl _)⟩
  unfold neumelaw02_RatWords.f
  by_cases c : (s.size : Int) > 100
  · exact Ev.pos c words_heads
  refine Ev.neg c (Ev.bind (text_ev n d hn) ?_)
  by_cases ok : Ok n d
  · refine Ev.bind (parse_yes n d ok) (Ev.bind (check_ev n d hn) ?_)
    rw [decide_eq_true ok]
    refine Ev.neg (by simp) (Ev.pos rfl ?_)
    rw [show (!((n, d, true) : Int × Int × Bool).1 == n || (!((n, d, true) : Int × Int × Bool).2.1 == d)) = false by simp]
    exact words_j0 s (by omega)
  · have e : txt n d = [] := if_neg ok
    rw [e]
    refine Ev.bind (parse_none (if_neg (by decide))) (Ev.bind (check_ev n d hn) ?_)
    rw [decide_eq_false ok]
    exact Ev.neg (by simp) (Ev.neg (by decide) (words_j0 s (by omega)))
end Go.Proofs.YtmbdbinbdiiapaaDoor.Pure
