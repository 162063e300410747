/- Behind a row nothing meets, and each went its way. -/
import Derived.Test.YtchmcljinkemaaaStatVoicesApart
import Derived.Test.YtchmcljinkemaaaVoicesApart
namespace Go.Proofs.Ytchmcljinkemaaa.Pure
open Go.RowKit Go.Proofs.Ytchmcljinkemaaa.P Go.Proofs.YtchmcljinkemaaaW.PrintWords Go.Proofs.YtchmcljinkemaaaW.PrintLast Go.Proofs.Ytchmcljinkemaaa.Rp
theorem apart_loop (right : Bool) (gs : List (List S45)) (hn : gs.length ≤ 200) (hg : ∀ g ∈ gs, g.all nearB = true ∧ g.length ≤ 10) (s : List Int) (hs : s.length = gs.length) :
    ∀ (n i : Nat) (all : List S45), n = gs.length - i → i ≤ gs.length → all.all nearB = true → all.length + 10 * n ≤ 100000 → rowB right (gs.drop i) all (s.take i) = (s, 0) → Ev (fun k => neumelaw24_VoicesApart.l0 k gs right s all (i : Int)) true
  | 0, i, all => by
    intro hi hil ha hb hr
    refine Ev.succ ?_
    simp only [neumelaw24_VoicesApart.l0]
    exact Ev.neg (by omega) (Ev.bind heads_ev (Ev.now _))
  | n + 1, i, all => by
    intro hi hil ha hb hr
    have hi2 : i < gs.length := by omega
    have his : i < s.length := by omega
    rw [List.drop_eq_getElem_cons hi2] at hr
    obtain ⟨g, hge⟩ : ∃ g, gs[i] = g := ⟨_, rfl⟩
    have hgg := hg gs[i] (List.getElem_mem hi2)
    rw [hge] at hr hgg
    obtain ⟨gn, gl⟩ := hgg
    unfold rowB at hr
    by_cases c : (pushB all g right).2 = 0
    · rw [if_pos c] at hr
      obtain ⟨b1, b2, b3, b4, b5, b6⟩ := push_side ha gn c
      generalize (pushB all g right).1 = b at hr b1 b2 b3 b4 b5 b6
      obtain ⟨s2, e1, e2⟩ := rowB_good right (gs.drop (i + 1)) (all ++ mvL b g) (s.take i ++ [b]) (by rw [hr])
      rw [hr] at e1
      simp only at e1
      have hsi : s[i] = b := by
        have h1 : s[i]? = some s[i] := List.getElem?_eq_getElem his
        have h2 : s[i]? = (s.take i ++ [b] ++ s2)[i]? := congrArg (fun z => z[i]?) e1
        rw [h2, List.append_assoc, List.getElem?_append_right (by rw [List.length_take]; omega), List.length_take, Nat.min_eq_left (by omega), Nat.sub_self] at h1
        simp at h1
        exact h1.symm
      have ht : s.take (i + 1) = s.take i ++ [b] := by
        rw [List.take_succ_eq_append_getElem his, hsi]
      rw [← ht] at hr
      refine Ev.succ ?_
      simp only [neumelaw24_VoicesApart.l0, rd_at his, hsi]
      refine Ev.pos (by omega) (Ev.pos (by omega) (Ev.pos (by omega) (Ev.neg (by omega) (Ev.succ ?_))))
      simp only [neumelaw24_VoicesApart.j1, rd_at his, hsi, rdL hi2, hge, wsucc (show i ≤ 1000000000000 by omega)]
      refine Ev.neg (by simp; omega) (Ev.pos (by omega) (Ev.pos (by omega) (Ev.pos (by omega) ?_)))
      refine Ev.bind (moved_ev g (by omega) b) (Ev.bind (Ev.to (meet_ev all g b (by omega) (by omega)) b5) (Ev.neg (by decide) ?_))
      have hml : (mvL b g).length = g.length := by simp [mvL]
      have ih := apart_loop right gs hn hg s hs n (i + 1) (all ++ mvL b g) (by omega) (by omega) (by rw [List.all_append, ha, b6]; rfl) (by rw [List.length_append, hml]; omega) hr
      cases right with
      | true => exact Ev.pos rfl (Ev.neg (by have := b3 rfl; omega) (Ev.pos (by omega) ih))
      | false => exact Ev.neg (by decide) (Ev.neg (by have := b4 rfl; omega) (Ev.pos (by omega) ih))
    · rw [if_neg c] at hr
      exact absurd (congrArg Prod.snd hr) c
theorem VoicesApart : VoicesApart_Pure := by
  intro l gs right hl hgs
  refine Ev.rounds ?_
  unfold neumelaw24_VoicesApart.f
  refine Ev.bind (few_ev l gs) ?_
  by_cases c1 : fewB l gs = true
  · refine Ev.pos c1 ?_
    obtain ⟨hl, hn, hg⟩ := fewB_is c1
    refine Ev.bind (Row_ev right l gs (by omega) (fun g h => by have := hg g h; omega)) ?_
    by_cases c2 : (RowB right l gs).2 = 0
    · refine Ev.pos c2 ?_
      obtain ⟨nl, ng, he, _, _⟩ := RowB_is c2
      rw [he] at c2 ⊢
      obtain ⟨s, hs, hsl⟩ := rowB_good right gs l [] c2
      rw [List.nil_append] at hs
      have hr : rowB right gs l [] = (s, 0) := Prod.ext hs c2
      rw [hs]
      refine Ev.pos (by omega) (Ev.bind (Ev.now _) (Ev.pos (by simp; omega) ?_))
      rw [List.nil_append]
      exact apart_loop right gs (by omega) (fun g h => ⟨ng g h, hg g h⟩) s hsl gs.length 0 l (by omega) (Nat.zero_le _) nl (by omega) (by rw [List.drop_zero]; exact hr)
    · refine Ev.neg c2 ?_
      rw [RowB_bad c2]
      exact Ev.pos rfl (Ev.bind heads_ev (Ev.now _))
  · exact Ev.neg c1 (Ev.bind heads_ev (Ev.now _))
end Go.Proofs.Ytchmcljinkemaaa.Pure
