/- Fractions: rests, by rat and by its reference: plain values. -/
import Derived.Test.YtmbdbinbdiiapaaDoorRatBRef
namespace Go.Proofs.YtmbdbinbdiiapaaDoor.Rp
open Go.RowKit Go.Proofs.YtmbdbinbdiiapaaDoor.P Go.Proofs.YtmbdbinbdiiapaaDoorW.PrintWords Go.Proofs.YtmbdbinbdiiapaaDoorW.PrintLast Go.Proofs.YtmbdbinbdiiapaaDoorW.PrintMore
set_option linter.unusedVariables false
set_option linter.unusedSimpArgs false
/-- The rest behind a quotient q: its roundings are taken off. -/
def rmodq (n d m e : Int) (q : Int × Int × Int) : Int × Int × Int :=
  if q.2.2 = 0 then (if (rmul m e (rfloor q.1 q.2.1) 1).2.2 = 0 then rsub n d (rmul m e (rfloor q.1 q.2.1) 1).1 (rmul m e (rfloor q.1 q.2.1) 1).2.1 else (0, 0, (rmul m e (rfloor q.1 q.2.1) 1).2.2)) else (0, 0, q.2.2)
def rmod (n d m e : Int) : Int × Int × Int := if (Ok n d ∧ Ok m e) ∧ 0 < m then rmodq n d m e (rdiv n d m e) else (0, 0, 2)
theorem low_bounds (n d : Int) (hd : d ≠ 0) : -1099511627776 ≤ (low n d).1 ∧ (low n d).1 ≤ 1099511627776 := by
  rcases low_code n d with h | h
  · obtain ⟨h1, _⟩ := low_ok (a := (low n d).1) (b := (low n d).2.1) hd (by rw [← h])
    exact ⟨h1.2.2.1, h1.2.2.2.1⟩
  · rw [h]; omega
theorem rdiv_bounds (n d m e : Int) : -1099511627776 ≤ (rdiv n d m e).1 ∧ (rdiv n d m e).1 ≤ 1099511627776 := by
  unfold rdiv
  split
  · rename_i h
    exact low_bounds _ _ (Int.mul_ne_zero (by have := h.1.1.1; omega) h.2)
  · omega
theorem rmul_bounds (n d m e : Int) : -1099511627776 ≤ (rmul n d m e).1 ∧ (rmul n d m e).1 ≤ 1099511627776 := by
  unfold rmul
  split
  · rename_i h
    exact low_bounds _ _ (Int.mul_ne_zero (by have := h.1.1; omega) (by have := h.2.1; omega))
  · omega
theorem rfloor_bounds (n d : Int) : -1099511627777 ≤ rfloor n d ∧ rfloor n d ≤ 1099511627776 := by
  unfold rfloor
  split
  · rename_i h
    exact floor_bd h
  · omega
theorem mod_ev (n d m e : Int) (hn : -9223372036854775808 ≤ n ∧ n ≤ 9223372036854775807) (hm : -9223372036854775808 ≤ m ∧ m ≤ 9223372036854775807) : Ev (fun k => rat_Mod.f k n d m e) (rmod n d m e) := by
  unfold rat_Mod.f
  refine Ev.bind (both_ev n d m e hn hm) ?_
  have bad : ¬ ((Ok n d ∧ Ok m e) ∧ 0 < m) → Ev (fun k => rat_Mod.j0 k true n d m e) (rmod n d m e) := by
    intro h
    unfold rmod
    rw [if_neg h]
    refine Ev.succ ?_
    simp only [rat_Mod.j0, rat_zero.f]
    exact Ev.pos trivial (Ev.now _)
  by_cases h : Ok n d ∧ Ok m e
  rotate_left
  · rw [decide_eq_false h]
    exact Ev.neg (by decide) (bad (fun q => h q.1))
  rw [decide_eq_true h]
  refine Ev.pos rfl ?_
  by_cases m0 : m ≤ 0
  · rw [decide_eq_true m0]; exact bad (fun q => by omega)
  rw [decide_eq_false m0]
  have er : rmod n d m e = rmodq n d m e (rdiv n d m e) := if_pos ⟨h, by omega⟩
  rw [er]
  refine Ev.succ ?_
  simp only [rat_Mod.j0]
  refine Ev.neg (by simp) (Ev.bind (div_ev n d m e hn hm) ?_)
  have bq := rdiv_bounds n d m e
  generalize rdiv n d m e = q at *
  unfold rmodq
  by_cases c : q.2.2 = 0
  rotate_left
  · rw [if_neg c]
    refine Ev.neg c (Ev.succ ?_)
    simp only [rat_Mod.j1, rat_zero.f]
    exact Ev.neg c (Ev.now _)
  rw [if_pos c]
  refine Ev.pos c (Ev.bind (floor_ev q.1 q.2.1 (by omega)) ?_)
  have bf := rfloor_bounds q.1 q.2.1
  simp only [rat_whole.f]
  refine Ev.bindc rfl (Ev.bind (mul_ev m e (rfloor q.1 q.2.1) 1 hm (by omega)) ?_)
  have bp := rmul_bounds m e (rfloor q.1 q.2.1) 1
  generalize rmul m e (rfloor q.1 q.2.1) 1 = p at *
  refine Ev.succ ?_
  simp only [rat_Mod.j1]
  by_cases c' : p.2.2 = 0
  · rw [if_pos c']
    exact Ev.pos c' (Ev.bind (sub_ev n d p.1 p.2.1 hn (by omega)) (Ev.now _))
  · rw [if_neg c']
    simp only [rat_zero.f]
    exact Ev.neg c' (Ev.now _)
theorem mod2_ev (n d m e : Int) (hn : -9223372036854775808 ≤ n ∧ n ≤ 9223372036854775807) (hm : -9223372036854775808 ≤ m ∧ m ≤ 9223372036854775807) : Ev (fun k => neumeref02_Mod.f k n d m e) (rmod n d m e) := by
  unfold neumeref02_Mod.f
  refine Ev.bind (check2_ev n d hn) ?_
  have bad : ¬ ((Ok n d ∧ Ok m e) ∧ 0 < m) → Ev (fun k => neumeref02_Mod.j0 k true n d m e) (rmod n d m e) := by
    intro h
    unfold rmod
    rw [if_neg h]
    refine Ev.succ ?_
    simp only [neumeref02_Mod.j0]
    exact Ev.pos trivial (Ev.now _)
  by_cases h1 : Ok n d
  rotate_left
  · rw [decide_eq_false h1]
    exact Ev.neg (by decide) (bad (fun q => h1 q.1.1))
  rw [decide_eq_true h1]
  refine Ev.pos rfl (Ev.bind (check2_ev m e hm) ?_)
  by_cases h2 : Ok m e
  rotate_left
  · rw [decide_eq_false h2]
    exact Ev.neg (by decide) (bad (fun q => h2 q.1.2))
  rw [decide_eq_true h2]
  refine Ev.pos rfl ?_
  by_cases m0 : m ≤ 0
  · rw [decide_eq_true m0]; exact bad (fun q => by omega)
  rw [decide_eq_false m0]
  have er : rmod n d m e = rmodq n d m e (rdiv n d m e) := if_pos ⟨⟨h1, h2⟩, by omega⟩
  rw [er]
  refine Ev.succ ?_
  simp only [neumeref02_Mod.j0]
  refine Ev.neg (by simp) (Ev.bind (div2_ev n d m e hn hm) ?_)
  have bq := rdiv_bounds n d m e
  generalize rdiv n d m e = q at *
  unfold rmodq
  by_cases c : q.2.2 = 0
  rotate_left
  · rw [if_neg c]
    exact Ev.neg c (Ev.now _)
  rw [if_pos c]
  refine Ev.pos c (Ev.bind (floor2_ev q.1 q.2.1 (by omega)) ?_)
  have bf := rfloor_bounds q.1 q.2.1
  refine (Ev.bind (mul2_ev m e (rfloor q.1 q.2.1) 1 hm (by omega)) ?_)
  have bp := rmul_bounds m e (rfloor q.1 q.2.1) 1
  generalize rmul m e (rfloor q.1 q.2.1) 1 = p at *
  by_cases c' : p.2.2 = 0
  · rw [if_pos c']
    exact Ev.pos c' (Ev.bind (sub2_ev n d p.1 p.2.1 hn (by omega)) (Ev.now _))
  · rw [if_neg c']
    exact Ev.neg c' (Ev.now _)
end Go.Proofs.YtmbdbinbdiiapaaDoor.Rp
