/- No lesser push would do. -/
import Derived.Test.YtchmcljinkemaaaStatVoicesLeast
import Derived.Test.YtchmcljinkemaaaVoicesApart
namespace Go.Proofs.Ytchmcljinkemaaa.Pure
open Go.RowKit Go.Proofs.Ytchmcljinkemaaa.P Go.Proofs.YtchmcljinkemaaaW.PrintWords Go.Proofs.YtchmcljinkemaaaW.PrintLast Go.Proofs.Ytchmcljinkemaaa.Rp
theorem VoicesLeast : VoicesLeast_Pure := by
  intro l g a2 a3 hl hg h3
  have h3 : -9223372036854775808 ≤ a3 ∧ a3 ≤ 9223372036854775807 := by simp [Lit.wf, IntKind.min, IntKind.max, IntKind.signed, IntKind.bits] at h3; omega
  refine Ev.rounds ?_
  unfold neumelaw24_VoicesLeast.f
  refine Ev.bind (few_ev l [g]) ?_
  by_cases c1 : fewB l [g] = true
  · refine Ev.pos c1 ?_
    obtain ⟨hl, _, hg⟩ := fewB_is c1
    have hg := hg g List.mem_cons_self
    by_cases c2 : a3 < 1
    · exact Ev.pos c2 heads_ev
    refine Ev.neg c2 (Ev.bind (Push_ev a2 l g (by omega) (by omega)) ?_)
    by_cases c3 : (PushB a2 l g).2 = 0
    · refine Ev.pos c3 ?_
      obtain ⟨nl, ng, he⟩ := PushB_is c3
      rw [he] at c3 ⊢
      obtain ⟨s1, s2, s3, s4, s5, s6⟩ := push_side nl ng c3
      have hleast := fun t => push_least (t := t) nl ng c3
      generalize (pushB l g a2).1 = s at s1 s2 s3 s4 s5 s6 hleast ⊢
      by_cases c4 : s = 0
      · exact Ev.pos c4 heads_ev
      refine Ev.neg c4 (Ev.pos (by omega) ?_)
      have key : ∀ t, meetsB l g t = true → Ev (fun k => least_tail k l g s t) true := by
        intro t ht
        unfold least_tail
        refine Ev.bind (moved_ev g (by omega) t) (Ev.bind (Ev.to (meet_ev l g t (by omega) (by omega)) ht) (Ev.pos rfl ?_))
        refine Ev.bind (moved_ev g (by omega) s) (Ev.bind (Ev.to (meet_ev l g s (by omega) (by omega)) s5) (Ev.neg (by decide) heads_ev))
      cases a2 with
      | true =>
        have s3 := s3 rfl
        have hw : least_to true s a3 = s - a3 := by
          unfold least_to
          rw [if_pos rfl]
          exact wrap_id (by omega) (by omega)
        rw [hw]
        by_cases c5 : s - a3 < 0
        · exact Ev.pos (by rw [if_pos rfl]; exact c5) heads_ev
        · exact Ev.neg (by rw [if_pos rfl]; exact c5) (key _ (hleast _ (fun _ => ⟨by omega, by omega⟩) (fun h => by cases h)))
      | false =>
        have s4 := s4 rfl
        have hmn : 1 ≤ mn a3 1099511627776 ∧ mn a3 1099511627776 ≤ 1099511627776 := by unfold mn; split <;> omega
        have hw : least_to false s a3 = s + mn a3 1099511627776 := by
          unfold least_to
          rw [if_neg (by decide)]
          exact wrap_id (by omega) (by omega)
        rw [hw]
        by_cases c5 : 0 < s + mn a3 1099511627776
        · exact Ev.pos (by rw [if_neg (by decide)]; exact c5) heads_ev
        · exact Ev.neg (by rw [if_neg (by decide)]; exact c5) (key _ (hleast _ (fun h => by cases h) (fun _ => ⟨by omega, by omega⟩)))
    · exact Ev.neg c3 heads_ev
  · exact Ev.neg c1 heads_ev
end Go.Proofs.Ytchmcljinkemaaa.Pure
