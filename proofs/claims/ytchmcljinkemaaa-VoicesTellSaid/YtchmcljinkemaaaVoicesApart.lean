/- Voices: what the law's own small functions come to (few, moved, meet). -/
import Derived.Test.YtchmcljinkemaaaPx1
import Derived.Test.YtchmcljinkemaaaPx10
import Derived.Test.YtchmcljinkemaaaPx10
import Derived.Test.YtchmcljinkemaaaPx5
import Derived.Test.YtchmcljinkemaaaPx5
import Derived.Test.YtchmcljinkemaaaVoicesLaw
namespace Go.Proofs.Ytchmcljinkemaaa.Rp
open Go.RowKit Go.Proofs.Ytchmcljinkemaaa.P Go.Proofs.YtchmcljinkemaaaW.PrintWords Go.Proofs.YtchmcljinkemaaaW.PrintLast
set_option linter.unusedVariables false
theorem refCheck_some (a b c d : Int) : neumeref03_Check.f a b c d = some (box_ok a b c d) := by
  have h : ∀ x, neumeref01_Ok.f x = some (fx_ok x) := by
    intro x
    unfold neumeref01_Ok.f fx_ok
    by_cases h : x ≥ -1099511627776
    · rw [if_pos h]
      congr 1
      exact decide_eq_decide.2 ⟨fun q => ⟨h, q⟩, fun q => q.2⟩
    · rw [if_neg h]
      congr 1
      exact (decide_eq_false (fun q => h q.1)).symm
  unfold neumeref03_Check.f box_ok
  simp only [h, Option.bind_some]
  cases fx_ok a <;> cases fx_ok b <;> cases fx_ok c <;> cases fx_ok d <;> simp
  by_cases q : a ≤ c
  · simp [q]
  · simp [q]
theorem refMeet_some (x y : S45) : neumeref03_Meet.f x.f0 x.f1 x.f2 x.f3 y.f0 y.f1 y.f2 y.f3 = some (meetB x y) := by
  unfold neumeref03_Meet.f meetB box_Meet.f box_Check.f box_overlap.f
  simp only [refCheck_some, Option.bind_some]
  cases box_ok x.f0 x.f1 x.f2 x.f3
  · rfl
  · cases box_ok y.f0 y.f1 y.f2 y.f3
    · rfl
    · by_cases q : mx x.f0 y.f0 < mn x.f2 y.f2
      · simp [q]
      · simp [q]
def fewB (l : List S45) (g : List (List S45)) : Bool := decide (l.length ≤ 30) && (decide (g.length ≤ 10) && g.all fun x => decide (x.length ≤ 10))
theorem few_in (g : List (List S45)) (hg : g.length ≤ 10) : ∀ (n i : Nat), n = g.length - i → i ≤ g.length → Ev (fun k => neumelaw24_few.l0 k g (i : Int)) ((g.drop i).all fun x => decide (x.length ≤ 10))
  | 0, i => by
    intro hn hi
    obtain rfl : i = g.length := by omega
    refine Ev.succ ?_
    simp only [neumelaw24_few.l0]
    refine Ev.neg (by omega) ?_
    rw [List.drop_length]
    exact Ev.now _
  | n + 1, i => by
    intro hn hi
    have hi2 : i < g.length := by omega
    refine Ev.succ ?_
    simp only [neumelaw24_few.l0, rdL hi2, wsucc (show i ≤ 1000000000000 by omega)]
    rw [List.drop_eq_getElem_cons hi2, List.all_cons]
    generalize g[i] = x
    refine Ev.pos (by omega) (Ev.pos (by omega) ?_)
    by_cases c : (x.length : Int) > 10
    · refine Ev.pos c (Ev.to (Ev.now _) ?_)
      rw [decide_eq_false (by omega)]; rfl
    · refine Ev.neg c (Ev.to (few_in g hg n (i + 1) (by omega) (by omega)) ?_)
      rw [decide_eq_true (by omega : x.length ≤ 10)]; rfl
theorem few_ev (l : List S45) (g : List (List S45)) : Ev (fun k => neumelaw24_few.f k l g) (fewB l g) := by
  unfold neumelaw24_few.f fewB
  by_cases c : (l.length : Int) > 30
  · refine Ev.pos c (Ev.succ ?_)
    simp only [neumelaw24_few.j0]
    refine Ev.pos trivial (Ev.to (Ev.now _) ?_)
    rw [decide_eq_false (by omega)]; rfl
  · refine Ev.neg c (Ev.succ ?_)
    simp only [neumelaw24_few.j0]
    rw [decide_eq_true (by omega : l.length ≤ 30)]
    by_cases c2 : (g.length : Int) > 10
    · refine Ev.pos (by rw [decide_eq_true c2]) (Ev.to (Ev.now _) ?_)
      rw [decide_eq_false (by omega : ¬ g.length ≤ 10)]; rfl
    · refine Ev.neg (by rw [decide_eq_false c2]; decide) ?_
      have := few_in g (by omega) g.length 0 rfl (Nat.zero_le _)
      rw [List.drop_zero] at this
      refine Ev.to this ?_
      rw [decide_eq_true (by omega : g.length ≤ 10)]; rfl
theorem moved_in (g : List S45) (hg : g.length ≤ 100000) (b : Int) : ∀ (n i : Nat) (out : List S45), n = g.length - i → i ≤ g.length → out.length + n ≤ 1000000 → Ev (fun k => neumelaw24_moved.l0 k g b out (i : Int)) (out ++ mvL b (g.drop i))
  | 0, i, out => by
    intro hn hi ho
    obtain rfl : i = g.length := by omega
    refine Ev.succ ?_
    simp only [neumelaw24_moved.l0]
    refine Ev.neg (by omega) ?_
    rw [List.drop_length, show mvL b [] = [] from rfl, List.append_nil]
    exact Ev.now _
  | n + 1, i, out => by
    intro hn hi ho
    have hi2 : i < g.length := by omega
    refine Ev.succ ?_
    simp only [neumelaw24_moved.l0, rdB hi2, wsucc (show i ≤ 1000000000000 by omega)]
    rw [List.drop_eq_getElem_cons hi2, show ∀ x l, mvL b (x :: l) = mvB x b :: mvL b l from fun _ _ => rfl]
    generalize g[i] = x
    refine Ev.pos (by omega) (Ev.pos (by omega) (Ev.pos (by omega) (Ev.to (moved_in g hg b n (i + 1) _ (by omega) (by omega) (by simp; omega)) ?_)))
    rw [List.append_assoc]
    rfl
theorem moved_ev (g : List S45) (hg : g.length ≤ 100000) (b : Int) : Ev (fun k => neumelaw24_moved.f k g b) (mvL b g) := by
  have := moved_in g hg b g.length 0 [] rfl (Nat.zero_le _) (by simp; omega)
  rw [List.drop_zero] at this
  exact this
theorem meet_in (l m : List S45) (hm : m.length ≤ 100000) {i : Nat} (hi : i < l.length) : ∀ (n j : Nat) {r : Bool}, n = m.length - j → j ≤ m.length → ((m.drop j).any (fun y => meetB l[i] y) = true → r = true) → ((m.drop j).any (fun y => meetB l[i] y) = false → Ev (fun k => neumelaw24_meet.l0 k l m (wrap64 ((i : Int) + 1))) r) → Ev (fun k => neumelaw24_meet.l1 k l m (i : Int) (j : Int)) r
  | 0, j, r => by
    intro hn hj h1 h2
    obtain rfl : j = m.length := by omega
    refine Ev.succ ?_
    simp only [neumelaw24_meet.l1]
    refine Ev.neg (by omega) (h2 ?_)
    rw [List.drop_length]
    rfl
  | n + 1, j, r => by
    intro hn hj h1 h2
    have hj2 : j < m.length := by omega
    rw [List.drop_eq_getElem_cons hj2, List.any_cons] at h1 h2
    refine Ev.succ ?_
    simp only [neumelaw24_meet.l1, rdB hj2, rdB hi, wsucc (show j ≤ 1000000000000 by omega), refMeet_some, Option.bind_some]
    refine Ev.pos (by omega) (Ev.pos (by omega) (Ev.pos (by omega) (Ev.pos (by omega) ?_)))
    cases c : meetB l[i] m[j] with
    | true => exact Ev.pos rfl (Ev.to (Ev.now true) (h1 (by rw [c]; rfl)).symm)
    | false =>
      rw [c, Bool.false_or] at h1 h2
      exact Ev.neg (by decide) (meet_in l m hm hi n (j + 1) (by omega) (by omega) h1 h2)
theorem meet_out (l m : List S45) (hl : l.length ≤ 100000) (hm : m.length ≤ 100000) : ∀ (n i : Nat), n = l.length - i → i ≤ l.length → Ev (fun k => neumelaw24_meet.l0 k l m (i : Int)) ((l.drop i).any fun x => m.any fun y => meetB x y)
  | 0, i => by
    intro hn hi
    obtain rfl : i = l.length := by omega
    refine Ev.succ ?_
    simp only [neumelaw24_meet.l0]
    refine Ev.neg (by omega) ?_
    rw [List.drop_length]
    exact Ev.now _
  | n + 1, i => by
    intro hn hi
    have hi2 : i < l.length := by omega
    refine Ev.succ ?_
    simp only [neumelaw24_meet.l0]
    rw [List.drop_eq_getElem_cons hi2, List.any_cons]
    refine Ev.pos (by omega) (meet_in l m hm hi2 m.length 0 rfl (Nat.zero_le _) ?_ ?_)
    · intro h
      rw [List.drop_zero] at h
      rw [h]; rfl
    · intro h
      rw [List.drop_zero] at h
      rw [h, Bool.false_or, wsucc (by omega)]
      exact meet_out l m hl hm n (i + 1) (by omega) (by omega)
theorem any_swap {α β : Type} (l : List α) (m : List β) (p : α → β → Bool) : (l.any fun x => m.any fun y => p x y) = (m.any fun y => l.any fun x => p x y) := by
  rw [Bool.eq_iff_iff]
  simp only [List.any_eq_true]
  constructor
  · rintro ⟨x, hx, y, hy, h⟩; exact ⟨y, hy, x, hx, h⟩
  · rintro ⟨y, hy, x, hx, h⟩; exact ⟨x, hx, y, hy, h⟩
theorem meet_ev (l g : List S45) (b : Int) (hl : l.length ≤ 100000) (hg : g.length ≤ 100000) : Ev (fun k => neumelaw24_meet.f k l (mvL b g)) (meetsB l g b) := by
  have := meet_out l (mvL b g) hl (by simp only [mvL, List.length_map]; omega) l.length 0 rfl (Nat.zero_le _)
  rw [List.drop_zero, any_swap] at this
  refine Ev.to this ?_
  unfold mvL meetsB
  rw [List.any_map]
  rfl
theorem heads_ev : Ev (fun k => neumelaw24_heads.f k) true := Ev.of neumelaw24_heads.mono neumelaw24_heads.at
theorem fitB_near : ∀ (gs : List (List S45)) (left : Int), fitB left gs = true → ∀ g ∈ gs, g.all nearB = true
  | [], left, _, g, hg => by cases hg
  | x :: gs, left, h, g, hg => by
    unfold fitB at h
    split at h
    · cases h
    · split at h
      · rename_i hx
        rcases List.mem_cons.1 hg with rfl | hg
        · exact hx
        · exact fitB_near gs _ h g hg
      · cases h
theorem rowB_bad : ∀ (right : Bool) (gs : List (List S45)) (there : List S45) (out : List Int), (rowB right gs there out).2 ≠ 0 → (rowB right gs there out).1 = []
  | right, [], there, out, h => absurd rfl h
  | right, g :: gs, there, out, h => by
    unfold rowB at h ⊢
    split
    · rename_i c
      rw [if_pos c] at h
      exact rowB_bad right gs _ _ h
    · rfl
theorem rowB_good : ∀ (right : Bool) (gs : List (List S45)) (there : List S45) (out : List Int), (rowB right gs there out).2 = 0 → ∃ s, (rowB right gs there out).1 = out ++ s ∧ s.length = gs.length
  | right, [], there, out, _ => ⟨[], by simp [rowB], rfl⟩
  | right, g :: gs, there, out, h => by
    unfold rowB at h ⊢
    split
    · rename_i c
      rw [if_pos c] at h
      obtain ⟨s, hs, hl⟩ := rowB_good right gs _ _ h
      exact ⟨(pushB there g right).1 :: s, by rw [hs]; simp, by simp [hl]⟩
    · rename_i c
      rw [if_neg c] at h
      exact absurd h c
theorem RowB_is {right : Bool} {placed : List S45} {gs : List (List S45)} (h : (RowB right placed gs).2 = 0) : placed.all nearB = true ∧ (∀ g ∈ gs, g.all nearB = true) ∧ RowB right placed gs = rowB right gs placed [] ∧ gs.length ≤ 200 ∧ placed.length ≤ 2000 := by
  unfold RowB at h ⊢
  by_cases c1 : (gs.length : Int) > 200
  · rw [if_pos c1] at h; cases h
  rw [if_neg c1] at h ⊢
  by_cases c2 : (placed.length : Int) > 2000
  · rw [if_pos c2] at h; cases h
  rw [if_neg c2] at h ⊢
  by_cases c3 : placed.all nearB = true
  · rw [if_pos c3] at h ⊢
    by_cases c4 : fitB (2000 - (placed.length : Int)) gs = true
    · rw [if_pos c4]
      exact ⟨c3, fitB_near gs _ c4, rfl, by omega, by omega⟩
    · rw [if_neg c4] at h; cases h
  · rw [if_neg c3] at h; cases h
theorem RowB_bad {right : Bool} {placed : List S45} {gs : List (List S45)} (h : (RowB right placed gs).2 ≠ 0) : (RowB right placed gs).1 = [] := by
  unfold RowB at h ⊢
  by_cases c1 : (gs.length : Int) > 200
  · rw [if_pos c1]
  rw [if_neg c1] at h ⊢
  by_cases c2 : (placed.length : Int) > 2000
  · rw [if_pos c2]
  rw [if_neg c2] at h ⊢
  by_cases c3 : placed.all nearB = true
  · rw [if_pos c3] at h ⊢
    by_cases c4 : fitB (2000 - (placed.length : Int)) gs = true
    · rw [if_pos c4] at h ⊢
      exact rowB_bad _ _ _ _ h
    · rw [if_neg c4]
  · rw [if_neg c3]
theorem PushB_is {right : Bool} {placed g : List S45} (h : (PushB right placed g).2 = 0) : placed.all nearB = true ∧ g.all nearB = true ∧ PushB right placed g = pushB placed g right := by
  unfold PushB at h ⊢
  by_cases c1 : (placed.length : Int) > 2000
  · rw [if_pos c1] at h; cases h
  rw [if_neg c1] at h ⊢
  by_cases c2 : (g.length : Int) > 2000 - (placed.length : Int)
  · rw [if_pos c2] at h; cases h
  rw [if_neg c2] at h ⊢
  by_cases c3 : placed.all nearB = true
  · rw [if_pos c3] at h ⊢
    by_cases c4 : g.all nearB = true
    · rw [if_pos c4]; exact ⟨c3, c4, rfl⟩
    · rw [if_neg c4] at h; cases h
  · rw [if_neg c3] at h; cases h
theorem fewB_is {l : List S45} {g : List (List S45)} (h : fewB l g = true) : l.length ≤ 30 ∧ g.length ≤ 10 ∧ ∀ x ∈ g, x.length ≤ 10 := by
  unfold fewB at h
  simp only [Bool.and_eq_true, decide_eq_true_eq, List.all_eq_true] at h
  exact h
end Go.Proofs.Ytchmcljinkemaaa.Rp
