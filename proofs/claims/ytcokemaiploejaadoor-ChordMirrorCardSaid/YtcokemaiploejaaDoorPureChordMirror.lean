/- The law ChordMirror of layer 23: turned over, the sides are turned over. -/
import Derived.Test.YtcokemaiploejaaDoorStatChordMirror
import Derived.Test.YtcokemaiploejaaDoorChordPlain
namespace Go.Proofs.YtcokemaiploejaaDoor.Pure
open Go.RowKit Go.Proofs.YtcokemaiploejaaDoor.P Go.Proofs.YtcokemaiploejaaDoor.Rp Go.Proofs.YtcokemaiploejaaDoorW.PrintWords Go.Proofs.YtcokemaiploejaaDoorW.PrintLast
set_option linter.unusedVariables false
set_option linter.unusedSimpArgs false
/-- The same, upside down. -/
def nr (l : List Int) : List Int := (l.map fun x => -x).reverse
theorem nr_length (l : List Int) : (nr l).length = l.length := by unfold nr; rw [List.length_reverse, List.length_map]
theorem nr_nr (l : List Int) : nr (nr l) = l := by
  unfold nr
  rw [List.map_reverse, List.reverse_reverse, List.map_map]
  have : ((fun x : Int => -x) ∘ fun x : Int => -x) = id := by funext x; simp
  rw [this, List.map_id]
theorem nr_at {l : List Int} {i : Nat} (h : i < l.length) : (nr l).getD i 0 = -(l.getD (l.length - 1 - i) 0) := by
  rw [getD_at (by rw [nr_length]; exact h), getD_at (by omega)]
  unfold nr
  rw [List.getElem_reverse, List.getElem_map]
  simp only [List.length_map]
theorem ft_nr {l : List Int} (h : Ft l) : Ft (nr l) := by
  have hl := h.1
  refine ⟨by rw [nr_length]; exact hl, fun i hi => ?_, ?_, ?_⟩
  · rw [nr_length] at hi
    rw [nr_at (by omega), nr_at hi]
    have := h.2.1 (l.length - 1 - (i + 1)) (by omega)
    rw [show l.length - 1 - (i + 1) + 1 = l.length - 1 - i by omega] at this
    omega
  · rw [nr_at (by omega), show l.length - 1 - 0 = l.length - 1 by omega]
    have := h.2.2.2
    omega
  · rw [nr_length, nr_at (by omega), show l.length - 1 - (l.length - 1) = 0 by omega]
    have := h.2.2.1
    omega
theorem ft_nr_iff (l : List Int) : Ft (nr l) ↔ Ft l := ⟨fun h => by have := ft_nr h; rwa [nr_nr] at this, ft_nr⟩
theorem side_neg {a p : Int} (o s : Bool) (ha : -1000 ≤ a ∧ a ≤ 1000) (hp : -1000 ≤ p ∧ p ≤ 1000) : side_o (-a) o s (-p) = side_o a o s p := by
  unfold side_o
  rw [wrap_id (x := -p - -a) (by omega) (by omega), wrap_id (x := p - a) (by omega) (by omega), Bool.and_assoc (s && !o), Bool.and_assoc (s && !o), ← Bool.decide_and, ← Bool.decide_and]
  congr 1
  exact decide_eq_decide.2 (by omega)
theorem sides_neg : ∀ (q : List Int) (a : Int) (o s : Bool), (-1000 ≤ a ∧ a ≤ 1000) → (∀ x ∈ q, -1000 ≤ x ∧ x ≤ 1000) → sides_l (q.map fun x => -x) (-a) o s = sides_l q a o s
  | [], _, _, _, _, _ => rfl
  | p :: r, a, o, s, ha, hq => by
    have hp := hq p List.mem_cons_self
    simp only [List.map_cons, sides_l]
    rw [side_neg o s ha hp, sides_neg r p _ true hp (fun x hx => hq x (List.mem_cons_of_mem _ hx))]
theorem sd_nr {l : List Int} (hq : ∀ x ∈ l, -1000 ≤ x ∧ x ≤ 1000) (up : Bool) : sd (nr l) (!up) = (sd l up).reverse := by
  have z := sides_neg l 0 false false (by omega) hq
  have z2 := sides_neg l.reverse 0 false false (by omega) (fun x hx => hq x (List.mem_reverse.1 hx))
  rw [Int.neg_zero] at z z2
  cases up
  · simp only [sd, Bool.not_false, if_true, Bool.false_eq_true, if_false, List.reverse_reverse]
    unfold nr
    rw [← List.map_reverse, z2]
  · simp only [sd, Bool.not_true, if_true, Bool.false_eq_true, if_false]
    unfold nr
    rw [List.reverse_reverse, z]
theorem mirror_l1 (p : List Int) (hp : p.length ≤ 1000) : ∀ (d i : Nat), p.length - i = d → Ev (fun k => neumelaw23_ChordMirror.l1 k p p.reverse i) true := by
  intro d
  induction d with
  | zero =>
    intro i hd
    refine Ev.succ ?_
    simp only [neumelaw23_ChordMirror.l1]
    exact Ev.neg (by omega) heads_bind
  | succ d ih =>
    intro i hd
    refine Ev.succ ?_
    simp only [neumelaw23_ChordMirror.l1]
    rw [List.length_reverse, wrap_id (x := (p.length : Int) - 1) (by omega) (by omega), wrap_id (x := (p.length : Int) - 1 - (i : Int)) (by omega) (by omega), wrap_id (x := (i : Int) + 1) (by omega) (by omega)]
    rw [show (p.length : Int) - 1 - (i : Int) = ((p.length - 1 - i : Nat) : Int) by omega, rd_eq p (i := i) (by omega), rd_eq p.reverse (i := p.length - 1 - i) (by rw [List.length_reverse]; omega), List.getElem_reverse]
    refine Ev.pos (by omega) (Ev.pos (by omega) (Ev.pos (by omega) (Ev.pos (by omega) (Ev.pos ?_ ?_))))
    · congr 1; omega
    · rw [show ((i : Nat) : Int) + 1 = ((i + 1 : Nat) : Int) by omega]
      exact ih (i + 1) (by omega)
theorem mirror_l0 (l : List Int) (up : Bool) (hl : l.length ≤ 100) : ∀ i : Nat, i ≤ l.length → (∀ x ∈ l.drop i, -1000 ≤ x ∧ x ≤ 1000) → Ev (fun k => neumelaw23_ChordMirror.l0 k l up (nr (l.drop i)) ((i : Int) - 1)) true := by
  intro i
  induction i with
  | zero =>
    intro _ hq
    rw [List.drop_zero] at hq ⊢
    refine Ev.succ ?_
    simp only [neumelaw23_ChordMirror.l0]
    refine Ev.neg (by omega) (Ev.bind (sides_ev l up) (Ev.bind (sides_ev (nr l) (!up)) ?_))
    by_cases f : Ft l
    · rw [if_pos f, if_pos (ft_nr f), sd_nr hq]
      refine Ev.pos rfl (Ev.succ ?_)
      simp only [neumelaw23_ChordMirror.j1]
      exact Ev.neg (by simp) (mirror_l1 (sd l up) (by rw [sd_length]; omega) _ 0 rfl)
    · rw [if_neg f, if_neg (fun q => f ((ft_nr_iff l).1 q))]
      refine Ev.pos rfl (Ev.succ ?_)
      simp only [neumelaw23_ChordMirror.j1]
      exact Ev.neg (by simp) (mirror_l1 [] (by simp) _ 0 rfl)
  | succ i ih =>
    intro hi hq
    have hd : l.drop i = l[i] :: l.drop (i + 1) := List.drop_eq_getElem_cons (by omega)
    refine Ev.succ ?_
    simp only [neumelaw23_ChordMirror.l0]
    rw [show ((i + 1 : Nat) : Int) - 1 = (i : Int) by omega, rd_eq l (by omega), wrap_id (x := (i : Int) - 1) (by omega) (by omega)]
    refine Ev.pos (by omega) (Ev.pos (by omega) (Ev.pos (by omega) ?_))
    by_cases c1 : l[i] < -1000
    · exact Ev.pos c1 heads_bind
    by_cases c2 : l[i] > 1000
    · exact Ev.neg c1 (Ev.pos c2 heads_bind)
    refine Ev.neg c1 (Ev.neg c2 (Ev.pos (by rw [nr_length, List.length_drop]; omega) ?_))
    have e : nr (l.drop (i + 1)) ++ [wrap64 (-l[i])] = nr (l.drop i) := by
      rw [wrap_id (x := -l[i]) (by omega) (by omega), hd]
      unfold nr
      rw [List.map_cons, List.reverse_cons]
    rw [e]
    refine ih (by omega) (fun x hx => ?_)
    rw [hd] at hx
    rcases List.mem_cons.1 hx with rfl | hx
    · omega
    · exact hq x hx
theorem ChordMirror : ChordMirror_Pure := by
  intro l up _
  suffices h : Ev (fun k => neumelaw23_ChordMirror.f k l up) true by
    obtain ⟨k, hk⟩ := h
    exact ⟨k, hk k (Nat.le_refl _)⟩
  unfold neumelaw23_ChordMirror.f
  by_cases c : (l.length : Int) > 100
  · exact Ev.pos c heads_bind
  refine Ev.neg c ?_
  rw [wrap_id (x := (l.length : Int) - 1) (by omega) (by omega)]
  have := mirror_l0 l up (by omega) l.length (Nat.le_refl _) (fun x hx => by rw [List.drop_length] at hx; cases hx)
  rw [List.drop_length] at this
  exact this
end Go.Proofs.YtcokemaiploejaaDoor.Pure
