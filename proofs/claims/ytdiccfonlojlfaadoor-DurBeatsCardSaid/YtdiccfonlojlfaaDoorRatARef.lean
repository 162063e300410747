/- What rat's functions, and its reference's, come to: plain values. -/
import Derived.Test.YtdiccfonlojlfaaDoorPx12
import Derived.Test.YtdiccfonlojlfaaDoorPx13
import Derived.Test.YtdiccfonlojlfaaDoorPx14
import Derived.Test.YtdiccfonlojlfaaDoorPx15
import Derived.Test.YtdiccfonlojlfaaDoorPx18
import Derived.Test.YtdiccfonlojlfaaDoorRatA
import Derived.Test.YtdiccfonlojlfaaDoorEv
namespace Go.Proofs.YtdiccfonlojlfaaDoor.Rp
open Go.RowKit Go.Proofs.YtdiccfonlojlfaaDoor.P Go.Proofs.YtdiccfonlojlfaaDoorW.PrintWords Go.Proofs.YtdiccfonlojlfaaDoorW.PrintLast Go.Proofs.YtdiccfonlojlfaaDoorW.PrintMore
set_option linter.unusedVariables false

theorem gcd2_ev : ∀ (n : Nat) (a b : Int), 0 ≤ a → 0 ≤ b → b.toNat = n → Ev (fun k => neumeref02_gcd.l0 k a b) (gc a b) := by
  intro n
  induction n using Nat.strongRecOn with
  | _ n ih =>
    intro a b ha hb hn
    refine Ev.succ ?_
    simp only [neumeref02_gcd.l0]
    by_cases h0 : b = 0
    · subst h0
      rw [gc_zero a ha]
      exact Ev.pos rfl (Ev.now _)
    · refine Ev.neg h0 ?_
      have hm : Int.tmod a b = a % b := Int.tmod_eq_emod_of_nonneg ha
      have h1 := Int.emod_nonneg a h0
      have h2 := Int.emod_lt_of_pos a (show 0 < b by omega)
      rw [← gc_step ha (by omega : 0 < b)]
      exact ih (Int.tmod a b).toNat (by omega) b (Int.tmod a b) hb (by omega) rfl
theorem gcd_ev' (a b : Int) (ha : 0 ≤ a) (hb : 0 ≤ b) : Ev (fun k => neumeref02_gcd.f k a b) (gc a b) := gcd2_ev _ a b ha hb rfl
theorem abs2_eq (x : Int) (h : -9223372036854775807 ≤ x) (h' : x ≤ 9223372036854775807) : neumeref02_abs.f x = some (ab x) := by
  unfold neumeref02_abs.f ab mx
  rw [wrap_id (by omega) (by omega)]
  split <;> split <;> first | rfl | (congr 1; omega)
theorem check2_ev (n d : Int) (hn : -9223372036854775808 ≤ n ∧ n ≤ 9223372036854775807) : Ev (fun k => neumeref02_Check.f k n d) (decide (Ok n d)) := by
  unfold neumeref02_Check.f
  by_cases h : 1 ≤ d ∧ d ≤ 1048576 ∧ -1099511627776 ≤ n ∧ n ≤ 1099511627776
  · obtain ⟨h1, h2, h3, h4⟩ := h
    rw [abs2_eq n (by omega) (by omega)]
    simp only [if_pos (show d ≥ 1 by omega), if_pos h2, if_pos (show n ≥ -1099511627776 by omega), if_pos h4, Option.bind_some]
    refine Ev.to (Ev.bind (gcd_ev' (ab n) d (ab_nn n) (by omega)) (Ev.now _)) ?_
    rw [gc_ab_l]
    by_cases hg : gc n d = 1
    · rw [hg, decide_eq_true (show Ok n d from ⟨h1, h2, h3, h4, hg⟩)]; rfl
    · rw [decide_eq_false (show ¬ Ok n d from fun h => hg h.2.2.2.2)]; exact beq_eq_false_iff_ne.2 hg
  · rw [decide_eq_false (show ¬ Ok n d from fun hh => h ⟨hh.1, hh.2.1, hh.2.2.1, hh.2.2.2.1⟩)]
    by_cases c1 : d ≥ 1
    · by_cases c2 : d ≤ 1048576
      · by_cases c3 : n ≥ -1099511627776
        · simp only [if_pos c1, if_pos c2, if_pos c3, if_neg (show ¬ n ≤ 1099511627776 by omega)]; exact Ev.now _
        · simp only [if_pos c1, if_pos c2, if_neg c3]; exact Ev.now _
      · simp only [if_pos c1, if_neg c2]; exact Ev.now _
    · simp only [if_neg c1]; exact Ev.now _
theorem cmp2_ev (n d m e : Int) (hn : -9223372036854775808 ≤ n ∧ n ≤ 9223372036854775807) (hm : -9223372036854775808 ≤ m ∧ m ≤ 9223372036854775807) : Ev (fun k => neumeref02_Cmp.f k n d m e) (rcmp n d m e) := by
  unfold neumeref02_Cmp.f
  refine Ev.bind (check2_ev n d hn) ?_
  have bad : ∀ h : ¬ (Ok n d ∧ Ok m e), Ev (fun k => neumeref02_Cmp.j0 k true n d m e) (rcmp n d m e) := by
    intro h
    unfold rcmp
    rw [if_neg h]
    refine Ev.succ ?_
    simp only [neumeref02_Cmp.j0, if_true]
    exact Ev.now _
  by_cases h1 : Ok n d
  · rw [decide_eq_true h1]
    refine Ev.pos rfl (Ev.bind (check2_ev m e hm) ?_)
    by_cases h2 : Ok m e
    · rw [decide_eq_true h2]
      refine Ev.succ ?_
      simp only [neumeref02_Cmp.j0, Bool.not_true, Bool.false_eq_true, if_false]
      have m1 := mul_bd (a := n) (b := e) (A := 1099511627776) (B := 1048576) ⟨h1.2.2.1, h1.2.2.2.1⟩ ⟨by have := h2.1; omega, h2.2.1⟩ (by omega)
      have m2 := mul_bd (a := m) (b := d) (A := 1099511627776) (B := 1048576) ⟨h2.2.2.1, h2.2.2.2.1⟩ ⟨by have := h1.1; omega, h1.2.1⟩ (by omega)
      rw [wrap_id (x := n * e) (by omega) (by omega), wrap_id (x := m * d) (by omega) (by omega)]
      have e1 : rcmp n d m e = if n * e < m * d then -1 else if n * e > m * d then 1 else 0 := if_pos ⟨h1, h2⟩
      rw [e1]
      exact Ev.ite (fun _ => Ev.now _) (fun _ => Ev.ite (fun _ => Ev.now _) (fun _ => Ev.now _))
    · rw [decide_eq_false h2]
      exact bad (fun h => h2 h.2)
  · rw [decide_eq_false h1]
    exact Ev.neg (by decide) (bad (fun h => h1 h.1))
end Go.Proofs.YtdiccfonlojlfaaDoor.Rp