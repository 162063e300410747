/- How far groups are moved, and how far they reach: the program and the reference say the same. -/
import Derived.Test.YtchmcljinkemaaaStatVoicesTell
import Derived.Test.YtchmcljinkemaaaVoicesRef
namespace Go.Proofs.Ytchmcljinkemaaa.Pure
open Go.RowKit Go.Proofs.Ytchmcljinkemaaa.P Go.Proofs.YtchmcljinkemaaaW.PrintWords Go.Proofs.YtchmcljinkemaaaW.PrintLast Go.Proofs.Ytchmcljinkemaaa.Rp
theorem tell_loop (l : List S45) (gs : List (List S45)) (right : Bool) (hl : l.length ≤ 30) (hn : gs.length ≤ 10) (hg : ∀ g ∈ gs, g.length ≤ 10) : ∀ (n i : Nat), n = gs.length - i → i ≤ gs.length → Ev (fun k => neumelaw24_VoicesTell.l0 k l gs right (i : Int)) true
  | 0, i => by
    intro hi hil
    obtain ⟨a, b, h1, h2⟩ := span_ev l (by omega)
    refine Ev.succ ?_
    simp only [neumelaw24_VoicesTell.l0]
    refine Ev.neg (by omega) (Ev.bindc h1 (Ev.bind h2 (Ev.pos rfl (Ev.pos rfl (Ev.bind heads_ev (Ev.now _))))))
  | n + 1, i => by
    intro hi hil
    have hi2 : i < gs.length := by omega
    have hgi := hg gs[i] (List.getElem_mem hi2)
    refine Ev.succ ?_
    simp only [neumelaw24_VoicesTell.l0, rdL hi2, wsucc (show i ≤ 1000000000000 by omega)]
    refine Ev.pos (by omega) (Ev.pos (by omega) (Ev.bind (Push_ev right l gs[i] (by omega) (by omega)) (Ev.bind (rPush_ev right l gs[i] (by omega) (by omega)) (Ev.pos rfl (Ev.pos rfl ?_)))))
    exact tell_loop l gs right hl hn hg n (i + 1) (by omega) (by omega)
theorem VoicesTell : VoicesTell_Pure := by
  intro l gs right _ _
  refine Ev.rounds ?_
  unfold neumelaw24_VoicesTell.f
  refine Ev.bind (few_ev l gs) ?_
  by_cases c1 : fewB l gs = true
  · refine Ev.pos c1 ?_
    obtain ⟨hl, hn, hg⟩ := fewB_is c1
    have hg2 : ∀ g ∈ gs, g.length ≤ 100000 := fun g h => by have := hg g h; omega
    refine Ev.bind (Row_ev right l gs (by omega) hg2) (Ev.bind (rRow_ev right l gs (by omega) hg2) (Ev.bind (Shifts_ev gs hg2) (Ev.bind (rShifts_ev gs hg2) ?_)))
    have l1 := RowB_len right l gs
    have l2 := RowB_len true [] gs
    refine Ev.bind (numbers_ev _ (by omega)) (Ev.pos rfl (Ev.pos rfl (Ev.bind (numbers_ev _ (by omega)) (Ev.pos rfl (Ev.succ ?_)))))
    simp only [neumelaw24_VoicesTell.j0]
    refine Ev.neg (by simp) (tell_loop l gs right hl hn hg gs.length 0 rfl (Nat.zero_le _))
  · exact Ev.neg c1 (Ev.bind heads_ev (Ev.now _))
end Go.Proofs.Ytchmcljinkemaaa.Pure
