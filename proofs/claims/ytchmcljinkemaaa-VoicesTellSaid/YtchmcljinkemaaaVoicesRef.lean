/- Voices: the reference comes to the same. -/
import Derived.Test.YtchmcljinkemaaaPx6
import Derived.Test.YtchmcljinkemaaaPx6
import Derived.Test.YtchmcljinkemaaaPx6
import Derived.Test.YtchmcljinkemaaaPx7
import Derived.Test.YtchmcljinkemaaaPx8
import Derived.Test.YtchmcljinkemaaaPx8
import Derived.Test.YtchmcljinkemaaaPx8
import Derived.Test.YtchmcljinkemaaaPx9
import Derived.Test.YtchmcljinkemaaaPx4
import Derived.Test.YtchmcljinkemaaaPx4
import Derived.Test.YtchmcljinkemaaaVoicesApart
namespace Go.Proofs.Ytchmcljinkemaaa.Rp
open Go.RowKit Go.Proofs.Ytchmcljinkemaaa.P Go.Proofs.YtchmcljinkemaaaW.PrintWords Go.Proofs.YtchmcljinkemaaaW.PrintLast
set_option linter.unusedVariables false
theorem refNear_some (x : S45) : neumeref24_near.f x.f0 x.f1 x.f2 x.f3 = some (nearB x) := by
  have hn := near_some x
  unfold voices_near.f box_Check.f at hn
  unfold neumeref24_near.f
  rw [refCheck_some]
  exact hn
theorem rfit_ev (l : List S45) (hl : l.length ≤ 100000) : Ev (fun k => neumeref24_fit.f k l) (l.all nearB) := by
  have h : ∀ (n i : Nat), n = l.length - i → i ≤ l.length → Ev (fun k => neumeref24_fit.l0 k l (i : Int)) ((l.drop i).all nearB) := by
    intro n
    induction n with
    | zero =>
      intro i hn hi
      obtain rfl : i = l.length := by omega
      refine Ev.succ ?_
      simp only [neumeref24_fit.l0]
      refine Ev.neg (by omega) ?_
      rw [List.drop_length]
      exact Ev.now _
    | succ n ih =>
      intro i hn hi
      have hi2 : i < l.length := by omega
      refine Ev.succ ?_
      simp only [neumeref24_fit.l0, rdB hi2, wsucc (show i ≤ 1000000000000 by omega), refNear_some, Option.bind_some]
      rw [List.drop_eq_getElem_cons hi2, List.all_cons]
      refine Ev.pos (by omega) (Ev.pos (by omega) ?_)
      cases c : nearB l[i] with
      | true => exact Ev.pos rfl (ih (i + 1) (by omega) (by omega))
      | false => exact Ev.neg (by decide) (Ev.now _)
  have := h l.length 0 rfl (Nat.zero_le _)
  rw [List.drop_zero] at this
  exact this
theorem rmeet_in (l m : List S45) (hm : m.length ≤ 100000) (b : Int) {i : Nat} (hi : i < l.length) : ∀ (n j : Nat) {r : Bool}, n = m.length - j → j ≤ m.length → ((m.drop j).any (fun y => meetB l[i] (mvB y b)) = true → r = true) → ((m.drop j).any (fun y => meetB l[i] (mvB y b)) = false → Ev (fun k => neumeref24_meets.l0 k l m b (wrap64 ((i : Int) + 1))) r) → Ev (fun k => neumeref24_meets.l1 k l m b (i : Int) (j : Int)) r
  | 0, j, r => by
    intro hn hj h1 h2
    obtain rfl : j = m.length := by omega
    refine Ev.succ ?_
    simp only [neumeref24_meets.l1]
    refine Ev.neg (by omega) (h2 ?_)
    rw [List.drop_length]
    rfl
  | n + 1, j, r => by
    intro hn hj h1 h2
    have hj2 : j < m.length := by omega
    rw [List.drop_eq_getElem_cons hj2, List.any_cons] at h1 h2
    refine Ev.succ ?_
    simp only [neumeref24_meets.l1, rdB hj2, rdB hi, wsucc (show j ≤ 1000000000000 by omega)]
    refine Ev.pos (by omega) (Ev.pos (by omega) (Ev.pos (by omega) (Ev.pos (by omega) ?_)))
    refine Ev.bindc (a := ((mvB m[j] b).f0, (mvB m[j] b).f1, (mvB m[j] b).f2, (mvB m[j] b).f3)) rfl (Ev.bindc (refMeet_some _ _) ?_)
    cases c : meetB l[i] (mvB m[j] b) with
    | true => exact Ev.pos rfl (Ev.to (Ev.now true) (h1 (by rw [c]; rfl)).symm)
    | false =>
      rw [c, Bool.false_or] at h1 h2
      exact Ev.neg (by decide) (rmeet_in l m hm b hi n (j + 1) (by omega) (by omega) h1 h2)
theorem rmeets_ev (l m : List S45) (b : Int) (hl : l.length ≤ 100000) (hm : m.length ≤ 100000) : Ev (fun k => neumeref24_meets.f k l m b) (meetsB l m b) := by
  have h : ∀ (n i : Nat), n = l.length - i → i ≤ l.length → Ev (fun k => neumeref24_meets.l0 k l m b (i : Int)) ((l.drop i).any fun x => m.any fun y => meetB x (mvB y b)) := by
    intro n
    induction n with
    | zero =>
      intro i hn hi
      obtain rfl : i = l.length := by omega
      refine Ev.succ ?_
      simp only [neumeref24_meets.l0]
      refine Ev.neg (by omega) ?_
      rw [List.drop_length]
      exact Ev.now _
    | succ n ih =>
      intro i hn hi
      have hi2 : i < l.length := by omega
      refine Ev.succ ?_
      simp only [neumeref24_meets.l0]
      rw [List.drop_eq_getElem_cons hi2, List.any_cons]
      refine Ev.pos (by omega) (rmeet_in l m hm b hi2 m.length 0 rfl (Nat.zero_le _) ?_ ?_)
      · intro h
        rw [List.drop_zero] at h
        rw [h]; rfl
      · intro h
        rw [List.drop_zero] at h
        rw [h, Bool.false_or, wsucc (by omega)]
        exact ih (i + 1) (by omega) (by omega)
  have := h l.length 0 rfl (Nat.zero_le _)
  rw [List.drop_zero, any_swap] at this
  exact this
/-- What the reference holds while it looks: the best so far, whether there is one, what is still to be looked at. -/
def Held (right : Bool) (placed g : List S45) (best : Int) (found : Bool) (left : List Int) : Prop :=
  (found = true → best ∈ 0 :: candB right placed g ∧ meetsB placed g best = false) ∧ (found = false → best = 0) ∧ ∀ c ∈ 0 :: candB right placed g, meetsB placed g c = false → c ∈ left ∨ (found = true ∧ nearer right best c)
theorem held_end {right : Bool} {placed g : List S45} {best b : Int} {found : Bool} {left : List Int} (h : Held right placed g best found left) (hl : left = [] ∨ (found = true ∧ best = 0)) (hp : placed.all nearB = true) (hg : g.all nearB = true)
    (hb : firstB placed g (ordB right (0 :: candB right placed g)) = some b) : best = b := by
  obtain ⟨h1, h2, h3⟩ := h
  obtain ⟨f1, f2, f3⟩ := first_some hb
  rcases hl with rfl | ⟨hf, rfl⟩
  · rcases h3 b f1 f2 with h4 | ⟨h4, h5⟩
    · cases h4
    · have h6 := f3 best (h1 h4).1 (h1 h4).2
      unfold nearer at h5 h6
      cases right with
      | true => rw [if_pos rfl] at h5 h6; omega
      | false => rw [if_neg (by decide)] at h5 h6; omega
  · have h6 := f3 0 (h1 hf).1 (h1 hf).2
    obtain ⟨_, _, s3, s4⟩ := cand_side hp hg f1
    unfold nearer at h6
    cases right with
    | true => rw [if_pos rfl] at h6; have := s3 rfl; omega
    | false => rw [if_neg (by decide)] at h6; have := s4 rfl; omega
/-- A candidate that is not taken: it meets something, or is no nearer. -/
theorem held_pass {right : Bool} {placed g : List S45} {best c : Int} {found : Bool} {left : List Int} (h : Held right placed g best found (c :: left)) (hc : meetsB placed g c = true ∨ (found = true ∧ nearer right best c)) : Held right placed g best found left := by
  obtain ⟨h1, h2, h3⟩ := h
  refine ⟨h1, h2, fun d hd hm => ?_⟩
  rcases h3 d hd hm with h4 | h4
  · rcases List.mem_cons.1 h4 with rfl | h5
    · rcases hc with hc | hc
      · rw [hc] at hm; cases hm
      · exact .inr hc
    · exact .inl h5
  · exact .inr h4
/-- A candidate that is taken. -/
theorem held_take {right : Bool} {placed g : List S45} {best c : Int} {found : Bool} {left : List Int} (h : Held right placed g best found (c :: left)) (hc : c ∈ 0 :: candB right placed g) (hm : meetsB placed g c = false) (hn : found = true → nearer right c best) : Held right placed g c true left := by
  obtain ⟨h1, h2, h3⟩ := h
  refine ⟨fun _ => ⟨hc, hm⟩, fun h => (by cases h), fun d hd hdm => ?_⟩
  rcases h3 d hd hdm with h4 | ⟨h4, h5⟩
  · rcases List.mem_cons.1 h4 with rfl | h5
    · exact .inr ⟨rfl, by unfold nearer; split <;> exact Int.le_refl _⟩
    · exact .inl h5
  · refine .inr ⟨rfl, ?_⟩
    have := hn h4
    unfold nearer at this h5 ⊢
    split <;> rename_i q
    · rw [if_pos q] at this h5; omega
    · rw [if_neg q] at this h5; omega
theorem held_more {right : Bool} {placed g : List S45} {best c : Int} {found : Bool} {left : List Int} (h : Held right placed g best found left) : Held right placed g best found (c :: left) :=
  ⟨h.1, h.2.1, fun d hd hm => (h.2.2 d hd hm).imp (fun q => List.mem_cons_of_mem _ q) id⟩
theorem rpush_near (b : Int) (g : List S45) (hg : g.length ≤ 100000) : ∀ (n i : Nat), n = g.length - i → i ≤ g.length → Ev (fun k => neumeref24_push.l2 k g b (i : Int)) (if (g.drop i).all (fun x => nearB (mvB x b)) = true then (b, 0) else (0, 3))
  | 0, i => by
    intro hn hi
    obtain rfl : i = g.length := by omega
    refine Ev.succ ?_
    simp only [neumeref24_push.l2]
    refine Ev.neg (by omega) ?_
    rw [List.drop_length]
    exact Ev.now _
  | n + 1, i => by
    intro hn hi
    have hi2 : i < g.length := by omega
    refine Ev.succ ?_
    simp only [neumeref24_push.l2, rdB hi2, wsucc (show i ≤ 1000000000000 by omega)]
    rw [List.drop_eq_getElem_cons hi2, List.all_cons]
    generalize g[i] = x
    refine Ev.pos (by omega) (Ev.pos (by omega) ?_)
    refine Ev.bindc (a := ((mvB x b).f0, (mvB x b).f1, (mvB x b).f2, (mvB x b).f3)) rfl ?_
    refine Ev.bindc (refNear_some (mvB x b)) ?_
    cases h : nearB (mvB x b) with
    | true => exact Ev.pos rfl (Ev.to (rpush_near b g hg n (i + 1) (by omega) (by omega)) (by simp))
    | false => exact Ev.neg (by decide) (Ev.to (Ev.now _) (by simp))
section
variable (right : Bool) (placed g : List S45) (hpl : placed.length ≤ 100000) (hgl : g.length ≤ 100000)
include hpl hgl
/-- One way, looked at (behind the test of its side). -/
theorem rpush_one {best : Int} {found : Bool} {left : List Int} {i j : Int} {c : Int} {r : Int × Int} (hs : if right = true then 0 ≤ c else c ≤ 0) (hc : c ∈ 0 :: candB right placed g) (hj : wrap64 (j + 1) = j + 1)
    (h : Held right placed g best found (c :: left)) (hr : ∀ best' found', Held right placed g best' found' left → Ev (fun k => neumeref24_push.l1 k placed g right best' found' i (j + 1)) r) :
    Ev (fun k => neumeref24_push.j4 k placed g right best found i j c false) r := by
  have hm := rmeets_ev placed g c hpl hgl
  have key : ∀ hn : found = true → nearer right c best, Ev (fun k => (neumeref24_meets.f k placed g c).bind fun t => if t = true then neumeref24_push.l1 k placed g right best found i (j + 1) else neumeref24_push.l1 k placed g right c true i (j + 1)) r := by
    intro hn
    refine Ev.bind hm ?_
    cases hmc : meetsB placed g c with
    | true => exact Ev.pos rfl (hr _ _ (held_pass h (.inl hmc)))
    | false => exact Ev.neg (by decide) (hr _ _ (held_take h hc hmc hn))
  refine Ev.succ ?_
  simp only [neumeref24_push.j4, hj]
  refine Ev.neg (by decide) ?_
  cases right with
  | true =>
    refine Ev.pos rfl ?_
    by_cases c1 : c < best
    · refine Ev.pos c1 ?_
      have hn : found = true → nearer true c best := fun _ => by unfold nearer; rw [if_pos rfl]; omega
      cases found with
      | true => exact Ev.pos rfl (key hn)
      | false => exact Ev.neg (by decide) (key hn)
    · refine Ev.neg c1 ?_
      cases found with
      | true => exact Ev.pos rfl (hr _ _ (held_pass h (.inr ⟨rfl, by unfold nearer; rw [if_pos rfl]; omega⟩)))
      | false => exact Ev.neg (by decide) (key (fun h => by cases h))
  | false =>
    refine Ev.neg (by decide) ?_
    cases found with
    | true =>
      refine Ev.pos rfl ?_
      by_cases c1 : c > best
      · exact Ev.pos c1 (key (fun _ => by unfold nearer; rw [if_neg (by decide)]; omega))
      · exact Ev.neg c1 (hr _ _ (held_pass h (.inr ⟨rfl, by unfold nearer; rw [if_neg (by decide)]; omega⟩)))
    | false => exact Ev.neg (by decide) (key (fun h => by cases h))
variable (hp : placed.all nearB = true) (hg : g.all nearB = true)
include hp hg
theorem rpush_in {b : Int} {i : Nat} (hi : i < placed.length) (left : List Int) {r : Int × Int} (hr : ∀ best' found', Held right placed g best' found' left → Ev (fun k => neumeref24_push.l0 k placed g right best' found' (wrap64 ((i : Int) + 1))) r) :
    ∀ (n j : Nat) (best : Int) (found : Bool), n = g.length - j → j ≤ g.length → Held right placed g best found (newBy right placed[i] (g.drop j) ++ left) → Ev (fun k => neumeref24_push.l1 k placed g right best found (i : Int) (j : Int)) r := by
  intro n
  induction n with
  | zero =>
    intro j best found hn hj h
    obtain rfl : j = g.length := by omega
    refine Ev.succ ?_
    simp only [neumeref24_push.l1]
    refine Ev.neg (by omega) ?_
    rw [List.drop_length] at h
    exact hr _ _ h
  | succ n ih =>
    intro j best found hn hj h
    have hj2 : j < g.length := by omega
    have hyn := all_of hp (List.getElem_mem hi)
    have hxn := all_of hg (List.getElem_mem hj2)
    have hbe := by_eq (right := right) hyn hxn
    have hin : ∀ c, okBy right c = true → byOf right placed[i] g[j] = c → c ∈ candB right placed g := fun c h1 h2 => cand_mem.2 ⟨_, List.getElem_mem hi, _, List.getElem_mem hj2, h2, h1⟩
    have hwj : wrap64 ((j : Int) + 1) = (j : Int) + 1 := wrap_id (by omega) (by omega)
    rw [List.drop_eq_getElem_cons hj2, newBy_cons] at h
    have ih := fun best found => ih (j + 1) best found (by omega) (by omega)
    refine Ev.succ ?_
    simp only [neumeref24_push.l1, rdB hi, rdB hj2]
    refine Ev.pos (by omega) (Ev.pos (by omega) (Ev.pos (by omega) (Ev.pos (by omega) ?_)))
    have e2 : wrap64 ((j : Int) + 1) = ((j + 1 : Nat) : Int) := wsucc (by omega)
    have e3 : (j : Int) + 1 = ((j + 1 : Nat) : Int) := by omega
    unfold byOf at hbe hin h
    cases right with
    | true =>
      refine Ev.pos rfl (Ev.succ ?_)
      simp only [if_pos] at hbe hin h
      simp only [neumeref24_push.j3]
      refine Ev.pos trivial ?_
      generalize wrap64 (placed[i].f2 - g[j].f0) = c at hbe hin h ⊢
      by_cases c1 : c < 0
      · refine Ev.pos c1 (Ev.succ ?_)
        simp only [neumeref24_push.j4, e2]
        refine Ev.pos trivial (ih _ _ ?_)
        rw [if_neg (by unfold okBy; simp; omega)] at h
        exact h
      · refine Ev.neg c1 ?_
        by_cases c2 : c = 0
        · subst c2
          rw [if_neg (by unfold okBy; simp)] at h
          exact rpush_one true placed g hpl hgl (by simp) List.mem_cons_self hwj (held_more h) (fun b' f' h' => by rw [e3]; exact ih b' f' h')
        · have ho : okBy true c = true := by unfold okBy; simp; omega
          rw [if_pos ho] at h
          exact rpush_one true placed g hpl hgl (by simp; omega) (List.mem_cons_of_mem _ (hin c ho rfl)) hwj h (fun b' f' h' => by rw [e3]; exact ih b' f' h')
    | false =>
      refine Ev.neg (by decide) (Ev.succ ?_)
      simp only [Bool.false_eq_true, if_neg, not_false_eq_true] at hbe hin h
      simp only [neumeref24_push.j3]
      refine Ev.neg (by simp) ?_
      generalize wrap64 (placed[i].f0 - g[j].f2) = c at hbe hin h ⊢
      by_cases c1 : c > 0
      · rw [decide_eq_true c1]
        refine Ev.succ ?_
        simp only [neumeref24_push.j4, e2]
        refine Ev.pos trivial (ih _ _ ?_)
        rw [if_neg (by unfold okBy; simp; omega)] at h
        exact h
      · rw [decide_eq_false c1]
        by_cases c2 : c = 0
        · subst c2
          rw [if_neg (by unfold okBy; simp)] at h
          exact rpush_one false placed g hpl hgl (by simp) List.mem_cons_self hwj (held_more h) (fun b' f' h' => by rw [e3]; exact ih b' f' h')
        · have ho : okBy false c = true := by unfold okBy; simp; omega
          rw [if_pos ho] at h
          exact rpush_one false placed g hpl hgl (by simp; omega) (List.mem_cons_of_mem _ (hin c ho rfl)) hwj h (fun b' f' h' => by rw [e3]; exact ih b' f' h')
theorem rpush_out {b : Int} (hb : firstB placed g (ordB right (0 :: candB right placed g)) = some b) : ∀ (n i : Nat) (best : Int) (found : Bool), n = placed.length - i → i ≤ placed.length → Held right placed g best found (candB right (placed.drop i) g) →
    Ev (fun k => neumeref24_push.l0 k placed g right best found (i : Int)) (if g.all (fun x => nearB (mvB x b)) = true then (b, 0) else (0, 3)) := by
  intro n
  induction n with
  | zero =>
    intro i best found hn hi h
    obtain rfl : i = placed.length := by omega
    rw [List.drop_length] at h
    obtain rfl := held_end h (.inl rfl) hp hg hb
    refine Ev.succ ?_
    simp only [neumeref24_push.l0]
    refine Ev.neg (by omega) (Ev.succ ?_)
    simp only [neumeref24_push.j1]
    refine Ev.neg (by decide) ?_
    have := rpush_near best g hgl g.length 0 rfl (Nat.zero_le _)
    rw [List.drop_zero] at this
    exact this
  | succ n ih =>
    intro i best found hn hi h
    have hi2 : i < placed.length := by omega
    have go : Ev (fun k => neumeref24_push.j1 k placed g right best found (i : Int) true) (if g.all (fun x => nearB (mvB x b)) = true then (b, 0) else (0, 3)) := by
      refine Ev.succ ?_
      simp only [neumeref24_push.j1]
      rw [List.drop_eq_getElem_cons hi2, candB_cons] at h
      refine Ev.pos trivial (rpush_in right placed g hpl hgl hp hg (b := b) hi2 _ (fun b' f' h' => ?_) g.length 0 best found rfl (Nat.zero_le _) (by rw [List.drop_zero]; exact h))
      rw [wsucc (by omega)]
      exact ih (i + 1) b' f' (by omega) (by omega) h'
    refine Ev.succ ?_
    simp only [neumeref24_push.l0]
    refine Ev.pos (by omega) ?_
    cases found with
    | false => exact Ev.neg (by decide) go
    | true =>
      refine Ev.pos rfl ?_
      by_cases c : best = 0
      · obtain rfl := held_end h (.inr ⟨rfl, c⟩) hp hg hb
        rw [show (!(best == 0)) = false by rw [c]; rfl]
        refine Ev.succ ?_
        simp only [neumeref24_push.j1]
        refine Ev.neg (by decide) ?_
        have := rpush_near best g hgl g.length 0 rfl (Nat.zero_le _)
        rw [List.drop_zero] at this
        exact this
      · rw [show (!(best == 0)) = true by simp [c]]
        exact go
theorem rpush_ev : Ev (fun k => neumeref24_push.f k placed g right) (pushB placed g right) := by
  obtain ⟨b, hb⟩ := first_is right hp hg
  unfold pushB
  rw [hb]
  refine Ev.bind (rmeets_ev placed g 0 hpl hgl) (rpush_out right placed g hpl hgl hp hg hb _ 0 0 _ rfl (Nat.zero_le _) ?_)
  rw [List.drop_zero]
  refine ⟨fun h => ⟨List.mem_cons_self, by simpa using h⟩, fun _ => rfl, fun c hc hm => ?_⟩
  rcases List.mem_cons.1 hc with rfl | hc
  · exact .inr ⟨by rw [hm]; rfl, by unfold nearer; split <;> exact Int.le_refl _⟩
  · exact .inl hc
end
theorem rPush_ev (right : Bool) (placed g : List S45) (hp : placed.length ≤ 100000) (hg : g.length ≤ 100000) : Ev (fun k => neumeref24_Push.f k placed g right) (PushB right placed g) := by
  have hw : wrap64 (2000 - (placed.length : Int)) = 2000 - (placed.length : Int) := by unfold wrap64; omega
  unfold PushB neumeref24_Push.f
  rw [hw]
  refine Ev.ite (fun _ => Ev.now _) (fun c1 => Ev.ite (fun _ => Ev.now _) (fun c2 => ?_))
  refine Ev.bind (rfit_ev placed hp) (Ev.ite (fun c3 => Ev.bind (rfit_ev g hg) (Ev.ite (fun c4 => ?_) (fun _ => Ev.now _))) (fun _ => Ev.now _))
  exact Ev.bind (rpush_ev right placed g hp hg c3 c4) (Ev.now _)
theorem rrow_in (right : Bool) (b : Int) (gs : List (List S45)) (hgs : gs.length ≤ 100000) (out : List Int) {j : Nat} (hj : j < gs.length) (hg : gs[j].length ≤ 100000) : ∀ (n i : Nat) (there : List S45) {r : List Int × Int}, n = gs[j].length - i → i ≤ gs[j].length → there.length + (gs[j].length - i) ≤ 1000000 →
    Ev (fun k => neumeref24_Row.l1 k gs right (there ++ mvL b (gs[j].drop i)) out (wrap64 ((j : Int) + 1))) r → Ev (fun k => neumeref24_Row.l2 k gs right there out (j : Int) b (i : Int)) r
  | 0, i, there, r => by
    intro hn hi hb h
    have hi3 : i = gs[j].length := by omega
    refine Ev.succ ?_
    simp only [neumeref24_Row.l2, rdL hj]
    refine Ev.pos (by omega) (Ev.pos (by omega) (Ev.neg (by omega) ?_))
    rw [hi3, List.drop_length, show mvL b [] = [] from rfl, List.append_nil] at h
    exact h
  | n + 1, i, there, r => by
    intro hn hi hb h
    have hi2 : i < gs[j].length := by omega
    have ih := fun there => rrow_in right b gs hgs out hj hg n (i + 1) there (r := r) (by omega) (by omega)
    rw [List.drop_eq_getElem_cons hi2, show ∀ x l, mvL b (x :: l) = mvB x b :: mvL b l from fun _ _ => rfl] at h
    refine Ev.succ ?_
    simp only [neumeref24_Row.l2, rdL hj, rdB hi2, wsucc (show i ≤ 1000000000000 by omega)]
    refine Ev.pos (by omega) (Ev.pos (by omega) (Ev.pos (by omega) (Ev.pos (by omega) ?_)))
    refine Ev.bindc (a := ((mvB gs[j][i] b).f0, (mvB gs[j][i] b).f1, (mvB gs[j][i] b).f2, (mvB gs[j][i] b).f3)) rfl ?_
    refine Ev.pos (by omega) (ih _ (by simp; omega) ?_)
    rw [List.append_assoc]
    exact h
theorem rrow_out (right : Bool) (gs : List (List S45)) (hgs : gs.length ≤ 100000) (hn : ∀ g ∈ gs, g.all nearB = true) : ∀ (n j : Nat) (there : List S45) (out : List Int), n = gs.length - j → j ≤ gs.length → there.all nearB = true → there.length + ((gs.drop j).map List.length).sum ≤ 10000 → out.length + n ≤ 1000000 →
    Ev (fun k => neumeref24_Row.l1 k gs right there out (j : Int)) (rowB right (gs.drop j) there out)
  | 0, j, there, out => by
    intro hm hj ht hs ho
    obtain rfl : j = gs.length := by omega
    refine Ev.succ ?_
    simp only [neumeref24_Row.l1]
    refine Ev.neg (by omega) ?_
    rw [List.drop_length]
    exact Ev.now _
  | n + 1, j, there, out => by
    intro hm hj ht hs ho
    have hj2 : j < gs.length := by omega
    have gn := hn gs[j] (List.getElem_mem hj2)
    refine Ev.succ ?_
    simp only [neumeref24_Row.l1, rdL hj2]
    rw [List.drop_eq_getElem_cons hj2, List.map_cons, List.sum_cons] at hs
    rw [List.drop_eq_getElem_cons hj2]
    refine Ev.pos (by omega) (Ev.pos (by omega) ?_)
    refine Ev.bind (rpush_ev right there gs[j] (by omega) (by omega) ht gn) ?_
    unfold rowB
    by_cases c : (pushB there gs[j] right).2 = 0
    · rw [if_pos c]
      obtain ⟨_, _, _, _, _, b6⟩ := push_side ht gn c
      refine Ev.pos c (Ev.pos (by omega) (rrow_in right _ gs hgs _ hj2 (by omega) gs[j].length 0 there (by omega) (Nat.zero_le _) (by omega) ?_))
      rw [List.drop_zero, wsucc (by omega)]
      exact rrow_out right gs hgs hn n (j + 1) _ _ (by omega) (by omega) (by rw [List.all_append, ht, b6]; rfl) (by rw [List.length_append]; simp only [mvL, List.length_map]; omega) (by simp; omega)
    · rw [if_neg c]
      exact Ev.neg c (Ev.now _)
theorem rfits (right : Bool) (placed : List S45) (gs : List (List S45)) (hgs : gs.length ≤ 100000) (hall : ∀ g ∈ gs, g.length ≤ 100000) {r : List Int × Int} :
    ∀ (n j : Nat) (left : Int), n = gs.length - j → j ≤ gs.length → 0 ≤ left → left ≤ 2000 → (fitB left (gs.drop j) = true → Ev (fun k => (some (([] : List (S45)) : List (S45))).bind fun y => if y.length + placed.length < 4398046511104 then neumeref24_Row.l1 k gs right (y ++ placed) ([] : List Int) 0 else none) r) → Ev (fun k => neumeref24_Row.l0 k placed gs right (2000 - left) (j : Int)) (if fitB left (gs.drop j) = true then r else ([], 2))
  | 0, j, left => by
    intro hn hj h0 h1 hr
    obtain rfl : j = gs.length := by omega
    refine Ev.succ ?_
    simp only [neumeref24_Row.l0]
    refine Ev.neg (by omega) ?_
    have hf : fitB left (gs.drop gs.length) = true := by rw [List.drop_length]; unfold fitB; simpa using h0
    rw [if_pos hf]
    exact hr hf
  | n + 1, j, left => by
    intro hn hj h0 h1 hr
    have hj2 : j < gs.length := by omega
    have hg := hall gs[j] (List.getElem_mem hj2)
    refine Ev.succ ?_
    simp only [neumeref24_Row.l0, rdL hj2, wsucc (show j ≤ 1000000000000 by omega)]
    rw [List.drop_eq_getElem_cons hj2] at hr ⊢
    generalize gs[j] = g at hg hr ⊢
    have hw : wrap64 (2000 - (2000 - left)) = left := by unfold wrap64; omega
    rw [hw]
    refine Ev.pos (by omega) (Ev.pos (by omega) ?_)
    unfold fitB at hr ⊢
    by_cases c : (g.length : Int) > left
    · rw [if_pos (show left - (g.length : Int) < 0 by omega), if_neg (by decide)]
      exact Ev.pos c (Ev.now _)
    · rw [if_neg (show ¬ left - (g.length : Int) < 0 by omega)] at hr ⊢
      refine Ev.neg c (Ev.bind (rfit_ev g hg) ?_)
      by_cases c2 : g.all nearB = true
      · rw [if_pos c2] at hr ⊢
        refine Ev.pos c2 ?_
        have hw2 : wrap64 (2000 - left + (g.length : Int)) = 2000 - (left - (g.length : Int)) := by unfold wrap64; omega
        rw [hw2]
        exact rfits right placed gs hgs hall n (j + 1) _ (by omega) (by omega) (by omega) (by omega) hr
      · rw [if_neg c2, if_neg (by decide)]
        exact Ev.neg c2 (Ev.now _)
theorem rRow_ev (right : Bool) (placed : List S45) (gs : List (List S45)) (hp : placed.length ≤ 100000) (hall : ∀ g ∈ gs, g.length ≤ 100000) : Ev (fun k => neumeref24_Row.f k placed gs right) (RowB right placed gs) := by
  unfold RowB
  by_cases c1 : (gs.length : Int) > 200
  · rw [if_pos c1]
    refine Ev.pos c1 (Ev.succ ?_)
    simp only [neumeref24_Row.j0]
    exact Ev.pos trivial (Ev.now _)
  rw [if_neg c1]
  by_cases c2 : (placed.length : Int) > 2000
  · rw [if_pos c2]
    refine Ev.neg c1 (Ev.pos c2 (Ev.succ ?_))
    simp only [neumeref24_Row.j0]
    exact Ev.pos trivial (Ev.now _)
  rw [if_neg c2]
  refine Ev.neg c1 (Ev.neg c2 (Ev.bind (rfit_ev placed hp) (Ev.succ ?_)))
  simp only [neumeref24_Row.j0]
  by_cases c3 : placed.all nearB = true
  · rw [if_pos c3]
    refine Ev.neg (by rw [c3]; decide) ?_
    have h := rfits right placed gs (by omega) hall (r := rowB right gs placed []) _ 0 (2000 - (placed.length : Int)) rfl (Nat.zero_le _) (by omega) (by omega) (fun c4 => by
      rw [List.drop_zero] at c4
      have hs := fitB_sum gs _ c4
      refine Ev.bind (Ev.now _) (Ev.pos (by simp; omega) ?_)
      rw [List.nil_append]
      have := rrow_out right gs (by omega) (fitB_near gs _ c4) _ 0 placed [] rfl (Nat.zero_le _) c3 (by rw [List.drop_zero]; omega) (by simp; omega)
      rw [List.drop_zero] at this
      exact this)
    rw [List.drop_zero, show (2000 - (2000 - (placed.length : Int))) = (placed.length : Int) by omega] at h
    exact h
  · rw [if_neg c3]
    exact Ev.pos (by simpa using c3) (Ev.now _)
theorem rShifts_ev (gs : List (List S45)) (hall : ∀ g ∈ gs, g.length ≤ 100000) : Ev (fun k => neumeref24_Shifts.f k gs) (RowB true [] gs) :=
  Ev.bind (rRow_ev true [] gs (by simp) hall) (Ev.now _)
theorem numbers_ev (l : List Int) (hl : l.length ≤ 1000000) : Ev (fun k => neumeref18_Numbers.f k l l) true := by
  have h : ∀ (n i : Nat), n = l.length - i → i ≤ l.length → Ev (fun k => neumeref18_Numbers.l0 k l l (i : Int)) true := by
    intro n
    induction n with
    | zero =>
      intro i hn hi
      refine Ev.succ ?_
      simp only [neumeref18_Numbers.l0]
      exact Ev.neg (by omega) (Ev.now _)
    | succ n ih =>
      intro i hn hi
      refine Ev.succ ?_
      simp only [neumeref18_Numbers.l0, wsucc (show i ≤ 1000000000000 by omega)]
      exact Ev.pos (by omega) (Ev.pos (by omega) (Ev.pos (by omega) (Ev.pos trivial (ih (i + 1) (by omega) (by omega)))))
  unfold neumeref18_Numbers.f
  exact Ev.pos rfl (h l.length 0 rfl (Nat.zero_le _))
theorem rowB_len : ∀ (right : Bool) (gs : List (List S45)) (there : List S45) (out : List Int), (rowB right gs there out).1.length ≤ out.length + gs.length
  | right, [], there, out => by simp [rowB]
  | right, g :: gs, there, out => by
    unfold rowB
    split
    · have := rowB_len right gs (there ++ mvL (pushB there g right).1 g) (out ++ [(pushB there g right).1])
      simp at this ⊢
      omega
    · simp
theorem RowB_len (right : Bool) (placed : List S45) (gs : List (List S45)) : (RowB right placed gs).1.length ≤ gs.length := by
  have := rowB_len right gs placed []
  unfold RowB
  repeat' split
  all_goals first | (simp at this ⊢; done) | (simp at this ⊢; omega)
theorem span_ends {l : List S45} (hn : l.all nearB = true) : ∀ (n : Nat), n < l.length → acc_min l n ∈ l ∧ acc_max l n ∈ l ∧ (∀ i, (h : i < l.length) → i ≤ n → (acc_min l n).f0 ≤ l[i].f0 ∧ l[i].f2 ≤ (acc_max l n).f2)
  | 0, h => by
    have e : l.getD 0 z45 = l[0] := by rw [List.getD_eq_getElem?_getD, List.getElem?_eq_getElem h]; rfl
    unfold acc_min acc_max
    rw [e]
    refine ⟨List.getElem_mem h, List.getElem_mem h, fun i hi h0 => ?_⟩
    obtain rfl : i = 0 := by omega
    exact ⟨Int.le_refl _, Int.le_refl _⟩
  | n + 1, h => by
    obtain ⟨h1, h2, h3⟩ := span_ends hn n (by omega)
    have e : l.getD (n + 1) z45 = l[n + 1] := by rw [List.getD_eq_getElem?_getD, List.getElem?_eq_getElem h]; rfl
    have hx : l[n + 1] ∈ l := List.getElem_mem h
    have nx := (near_iff _).1 (all_of hn hx)
    have n1 := (near_iff _).1 (all_of hn h1)
    have n2 := (near_iff _).1 (all_of hn h2)
    have w1 : wrap64 (l[n + 1].f0 - (acc_min l n).f0) = l[n + 1].f0 - (acc_min l n).f0 := wrap_id (by omega) (by omega)
    have w2 : wrap64 (l[n + 1].f2 - (acc_max l n).f2) = l[n + 1].f2 - (acc_max l n).f2 := wrap_id (by omega) (by omega)
    unfold acc_min acc_max
    rw [e]
    unfold sel_min sel_max
    rw [w1, w2]
    refine ⟨by split <;> assumption, by split <;> assumption, fun i hi h0 => ?_⟩
    by_cases c : i = n + 1
    · subst c
      constructor
      · split <;> omega
      · split <;> omega
    · obtain ⟨q1, q2⟩ := h3 i hi (by omega)
      constructor
      · split <;> omega
      · split <;> omega
theorem rspan_in (l : List S45) (hl : l.length ≤ 100000) {A B : Int} (hA : (∃ x ∈ l, x.f0 = A) ∧ ∀ x ∈ l, A ≤ x.f0) (hB : (∃ x ∈ l, x.f2 = B) ∧ ∀ x ∈ l, x.f2 ≤ B) : ∀ (n i : Nat) (a b : Int), n = l.length - i → i ≤ l.length → A ≤ a → b ≤ B → (∀ j, (h : j < l.length) → j < i → a ≤ l[j].f0 ∧ l[j].f2 ≤ b) → Ev (fun k => neumeref24_Span.l0 k l a b (i : Int)) (A, B)
  | 0, i, a, b => by
    intro hn hi ha hb h
    refine Ev.succ ?_
    simp only [neumeref24_Span.l0]
    refine Ev.to (Ev.neg (by omega) (Ev.now _)) ?_
    obtain ⟨⟨x, hx, ex⟩, _⟩ := hA
    obtain ⟨⟨y, hy, ey⟩, _⟩ := hB
    obtain ⟨i1, hi1, e1⟩ := List.mem_iff_getElem.1 hx
    obtain ⟨i2, hi2, e2⟩ := List.mem_iff_getElem.1 hy
    have q1 := (h i1 hi1 (by omega)).1
    have q2 := (h i2 hi2 (by omega)).2
    rw [e1] at q1
    rw [e2] at q2
    exact Prod.ext (by simp; omega) (by simp; omega)
  | n + 1, i, a, b => by
    intro hn hi ha hb h
    have hi2 : i < l.length := by omega
    have m1 := hA.2 _ (List.getElem_mem hi2)
    have m2 := hB.2 _ (List.getElem_mem hi2)
    refine Ev.succ ?_
    simp only [neumeref24_Span.l0, rdB hi2, wsucc (show i ≤ 1000000000000 by omega)]
    refine Ev.pos (by omega) (Ev.pos (by omega) (rspan_in l hl hA hB n (i + 1) _ _ (by omega) (by omega) (by unfold mn; split <;> omega) (by unfold mx; split <;> omega) (fun j hj hlt => ?_)))
    by_cases c : j = i
    · subst c
      constructor
      · unfold mn; split <;> omega
      · unfold mx; split <;> omega
    · obtain ⟨q1, q2⟩ := h j hj (by omega)
      constructor
      · unfold mn; split <;> omega
      · unfold mx; split <;> omega
/-- How far boxes reach: both say the same. -/
theorem span_ev (l : List S45) (hl : l.length ≤ 1000) : ∃ a b, voices_Span.f l = some (a, b) ∧ Ev (fun k => neumeref24_Span.f k l) (a, b) := by
  unfold voices_Span.f neumeref24_Span.f
  by_cases c0 : l.length = 0
  · refine ⟨0, 0, by rw [if_pos (.inl c0)], Ev.pos (by omega) (Ev.succ ?_)⟩
    simp only [neumeref24_Span.j0]
    exact Ev.pos trivial (Ev.now _)
  by_cases c : l.all nearB = true
  · obtain ⟨h1, h2, h3⟩ := span_ends c (l.length - 1) (by omega)
    refine ⟨_, _, by rw [if_neg (by omega), if_pos c], Ev.neg (by omega) (Ev.neg (by omega) (Ev.bind (rfit_ev l (by omega)) (Ev.succ ?_)))⟩
    simp only [neumeref24_Span.j0]
    have hr : rd_T45 l 0 = l[0] := rdB (i := 0) (by omega)
    rw [hr]
    refine Ev.neg (by rw [c]; decide) (Ev.pos (by omega) ?_)
    refine rspan_in l (by omega) ⟨⟨_, h1, rfl⟩, fun x hx => ?_⟩ ⟨⟨_, h2, rfl⟩, fun x hx => ?_⟩ l.length 0 _ _ rfl (Nat.zero_le _) (h3 0 (by omega) (by omega)).1 (h3 0 (by omega) (by omega)).2 (fun j hj h => by omega)
    · obtain ⟨i, hi, rfl⟩ := List.mem_iff_getElem.1 hx
      exact (h3 i hi (by omega)).1
    · obtain ⟨i, hi, rfl⟩ := List.mem_iff_getElem.1 hx
      exact (h3 i hi (by omega)).2
  · refine ⟨0, 0, by rw [if_neg (by omega), if_neg c], Ev.neg (by omega) (Ev.neg (by omega) (Ev.bind (rfit_ev l (by omega)) (Ev.succ ?_)))⟩
    simp only [neumeref24_Span.j0]
    exact Ev.pos (by simpa using c) (Ev.now _)
end Go.Proofs.Ytchmcljinkemaaa.Rp
