/- The law DotsApart of layer 20: for all places the law answers true (no condition). -/
import Derived.Test.YtochpedmjpidkaaPx8
import Derived.Test.YtochpedmjpidkaaDotsPlain
namespace Go.Proofs.Ytochpedmjpidkaa.Pure
open Go.RowKit Go.Proofs.Ytochpedmjpidkaa.P Go.Proofs.Ytochpedmjpidkaa.Rp Go.Proofs.YtochpedmjpidkaaW.PrintWords Go.Proofs.YtochpedmjpidkaaW.PrintLast
set_option linter.unusedVariables false
/-- What dots of places are like. -/
theorem dots_like {l : List Int} {i : Nat} (h : i < l.length) : (lk (dg l) l[i]) % 2 = 1 ∧ lk (dg l) l[i] ≤ l[i] + 1 := by
  obtain ⟨⟨T, hT⟩, h2⟩ := dg_spec l
  obtain ⟨y, hy⟩ := h2 l[i] (List.getElem_mem h)
  rw [lk_pair hT hy]
  exact hT.ok _ hy
theorem dots_one {l : List Int} {i j : Nat} (hi : i < l.length) (hj : j < l.length) : lk (dg l) l[i] = lk (dg l) l[j] ↔ l[i] = l[j] := by
  obtain ⟨⟨T, hT⟩, h2⟩ := dg_spec l
  obtain ⟨y, hy⟩ := h2 l[i] (List.getElem_mem hi)
  obtain ⟨z, hz⟩ := h2 l[j] (List.getElem_mem hj)
  rw [lk_pair hT hy, lk_pair hT hz]
  constructor
  · intro e
    refine Decidable.byContradiction fun hne => ?_
    have key : ∀ G : List (Int × Int), G.Pairwise (fun a b => a.1 ≠ b.1 ∧ a.2 ≠ b.2) → ∀ p q, p ∈ G → q ∈ G → p.2 = q.2 → p.1 = q.1 := by
      intro G
      induction G with
      | nil => intro _ p q hp; exact absurd hp List.not_mem_nil
      | cons x r ih =>
        intro hp p q h1 h2 e
        obtain ⟨a1, a2⟩ := List.pairwise_cons.1 hp
        rcases List.mem_cons.1 h1 with u1 | u1 <;> rcases List.mem_cons.1 h2 with u2 | u2
        · rw [u1, u2]
        · exact absurd (by rw [← u1]; exact e) (a1 q u2).2
        · exact absurd (by rw [← u2]; exact e.symm) (a1 p u1).2
        · exact ih a2 p q u1 u2 e
    exact hne (key _ hT.ne _ _ hy hz e)
  · intro e
    rw [e] at hy
    have := lk_pair hT hy
    rw [lk_pair hT hz] at this
    exact this.symm
theorem apart_l1 (l : List Int) (hl : l.length ≤ 100) (i : Nat) (hi : i < l.length) (hnext : Ev (fun k => neumelaw20_DotsApart.l0 k l (l.map (lk (dg l))) ((i : Int) + 1)) true) : ∀ (d j : Nat), l.length - j = d → Ev (fun k => neumelaw20_DotsApart.l1 k l (l.map (lk (dg l))) i j) true := by
  intro d
  induction d with
  | zero =>
    intro j hd
    refine Ev.succ ?_
    simp only [neumelaw20_DotsApart.l1]
    rw [wrap_id (x := (i : Int) + 1) (by omega) (by omega)]
    exact Ev.neg (by rw [List.length_map]; omega) hnext
  | succ d ih =>
    intro j hd
    have hj : j < l.length := by omega
    refine Ev.succ ?_
    simp only [neumelaw20_DotsApart.l1]
    rw [rd_eq (l.map (lk (dg l))) (i := i) (by rw [List.length_map]; exact hi), rd_eq (l.map (lk (dg l))) (i := j) (by rw [List.length_map]; exact hj), rd_eq l hi, rd_eq l hj, List.getElem_map, List.getElem_map, wrap_id (x := (j : Int) + 1) (by omega) (by omega)]
    refine Ev.pos (by rw [List.length_map]; omega) (Ev.pos (by omega) (Ev.pos (by rw [List.length_map]; omega) (Ev.pos (by omega) (Ev.pos (by omega) (Ev.pos (by omega) (Ev.neg ?_ ?_))))))
    · have := dots_one hi hj
      by_cases c : l[i] = l[j]
      · rw [beq_iff_eq.2 c, beq_iff_eq.2 (this.2 c)]; decide
      · rw [beq_eq_false_iff_ne.2 c, beq_eq_false_iff_ne.2 (fun q => c (this.1 q))]; decide
    · rw [show ((j : Nat) : Int) + 1 = ((j + 1 : Nat) : Int) by omega]
      exact ih (j + 1) (by omega)
theorem apart_l0 (l : List Int) (hl : l.length ≤ 100) (hb : ∀ x ∈ l, -200 ≤ x ∧ x ≤ 200) : ∀ (d i : Nat), l.length - i = d → Ev (fun k => neumelaw20_DotsApart.l0 k l (l.map (lk (dg l))) i) true := by
  intro d
  induction d with
  | zero =>
    intro i hd
    refine Ev.succ ?_
    simp only [neumelaw20_DotsApart.l0]
    exact Ev.neg (by rw [List.length_map]; omega) heads_bind
  | succ d ih =>
    intro i hd
    have hi : i < l.length := by omega
    have hx := hb _ (List.getElem_mem hi)
    obtain ⟨a1, a2⟩ := dots_like hi
    refine Ev.succ ?_
    simp only [neumelaw20_DotsApart.l0]
    rw [rd_eq (l.map (lk (dg l))) (i := i) (by rw [List.length_map]; exact hi), rd_eq l hi, List.getElem_map, wrap_id (x := l[i] + 1) (by omega) (by omega), decide_eq_false (show ¬ lk (dg l) l[i] > l[i] + 1 by omega)]
    refine Ev.pos (by rw [List.length_map]; omega) (Ev.pos (by omega) (Ev.neg (fun q => ?_) (Ev.pos (by omega) (Ev.succ ?_))))
    · have := Int.dvd_iff_emod_eq_zero.1 (Int.dvd_iff_tmod_eq_zero.2 q)
      omega
    · simp only [neumelaw20_DotsApart.j1]
      refine Ev.neg (by simp) ?_
      exact apart_l1 l hl i hi (by rw [show ((i : Nat) : Int) + 1 = ((i + 1 : Nat) : Int) by omega]; exact ih (i + 1) (by omega)) _ 0 rfl
theorem DotsApart : neumelaw20_DotsApart.Pure := by
  intro l _ _ hw
  suffices h : Ev (fun k => neumelaw20_DotsApart.f k l) true by
    obtain ⟨k, hk⟩ := h
    exact ⟨k, hk k (Nat.le_refl _)⟩
  unfold neumelaw20_DotsApart.f
  by_cases c : (l.length : Int) > 100
  · exact Ev.pos c heads_bind
  refine Ev.neg c (Ev.bind (dots_ev l) ?_)
  by_cases f : Ft l
  · rw [if_pos f]
    exact Ev.pos rfl (Ev.pos (by rw [List.length_map]) (apart_l0 l (by omega) f.2 _ 0 rfl))
  · rw [if_neg f]
    exact Ev.neg (by decide) (Ev.pos (by simp) heads_bind)
end Go.Proofs.Ytochpedmjpidkaa.Pure
