/- What rat's functions, and its reference's, come to: plain values. -/
import Derived.Test.YtdiccfonlojlfaaGreatDoorPx10
import Derived.Test.YtdiccfonlojlfaaGreatDoorPx11
import Derived.Test.YtdiccfonlojlfaaGreatDoorPx12
import Derived.Test.YtdiccfonlojlfaaGreatDoorPx13
import Derived.Test.YtdiccfonlojlfaaGreatDoorPx15
import Derived.Test.YtdiccfonlojlfaaGreatDoorRatA
import Derived.Test.YtdiccfonlojlfaaGreatDoorEv
namespace Go.Proofs.YtdiccfonlojlfaaGreatDoor.Rp
open Go.RowKit Go.Proofs.YtdiccfonlojlfaaGreatDoor.P Go.Proofs.YtdiccfonlojlfaaGreatDoorW.PrintWords Go.Proofs.YtdiccfonlojlfaaGreatDoorW.PrintLast Go.Proofs.YtdiccfonlojlfaaGreatDoorW.PrintMore
set_option linter.unusedVariables false

theorem gcd2_ev : ∀ (n : Nat) (a b : Int), 0 ≤ a → 0 ≤ b → b.toNat = n → Ev (fun k => neumeref02_gcd.l0 k a b) (gc a b) := by
  intro n
  induction n using Nat.strongRecOn with
  | _ n ih =>
    intro a b ha hb hn
    refine Ev.succ ?_
    simp only [neumeref02_gcd.l0]
    by_cases h0 : b = 0
    · subst h0
      rw [gc_zero a ha]
      exact Ev.pos rfl (Ev.now _)
    · refine Ev.neg h0 ?_
      have hm : Int.tmod a b = a % b := Int.tmod_eq_emod_of_nonneg ha
      have h1 := Int.emod_nonneg a h0
      have h2 := Int.emod_lt_of_pos a (show 0 < b by omega)
      rw [← gc_step ha (by omega : 0 < b)]
      exact ih (Int.tmod a b).toNat (by omega) b (Int.tmod a b) hb (by omega) rfl
theorem gcd_ev' (a b : Int) (ha : 0 ≤ a) (hb : 0 ≤ b) : Ev (fun k => neumeref02_gcd.f k a b) (gc a b) := gcd2_ev _ a b ha hb rfl
theorem abs2_eq (x : Int) (h : -9223372036854775807 ≤ x) (h' : x ≤ 9223372036854775807) : neumeref02_abs.f x = some (ab x) := by
  unfold neumeref02_abs.f ab mx
  rw [wrap_id (by omega) (by omega)]
  split <;> split <;> first | rfl | (congr 1; omega)
theorem check2_ev (n d : Int) (hn : -9223372036854775808 ≤ n ∧ n ≤ 9223372036854775807) : Ev (fun k => neumeref02_Check.f k n d) (decide (Ok n d)) := by
  unfold neumeref02_Check.f
  by_cases h : 1 ≤ d ∧ d ≤ 1048576 ∧ -1099511627776 ≤ n ∧ n ≤ 1099511627776
  · obtain ⟨h1, h2, h3, h4⟩ := h
    rw [abs2_eq n (by omega) (by omega)]
    simp only [if_pos (show d ≥ 1 by omega), if_pos h2, if_pos (show n ≥ -1099511627776 by omega), if_pos h4, Option.bind_some]
    refine Ev.to (Ev.bind (gcd_ev' (ab n) d (ab_nn n) (by omega)) (Ev.now _)) ?_
    rw [gc_ab_l]
    by_cases hg : gc n d = 1
    · rw [hg, decide_eq_true (show Ok n d from ⟨h1, h2, h3, h4, hg⟩)]; rfl
    · rw [decide_eq_false (show ¬ Ok n d from fun h => hg h.2.2.2.2)]; exact beq_eq_false_iff_ne.2 hg
  · rw [decide_eq_false (show ¬ Ok n d from fun hh => h ⟨hh.1, hh.2.1, hh.2.2.1, hh.2.2.2.1⟩)]
    by_cases c1 : d ≥ 1
    · by_cases c2 : d ≤ 1048576
      · by_cases c3 : n ≥ -1099511627776
        · simp only [if_pos c1, if_pos c2, if_pos c3, if_neg (show ¬ n ≤ 1099511627776 by omega)]; exact Ev.now _
        · simp only [if_pos c1, if_pos c2, if_neg c3]; exact Ev.now _
      · simp only [if_pos c1, if_neg c2]; exact Ev.now _
    · simp only [if_neg c1]; exact Ev.now _
theorem lowest2_pos (n d : Int) (hd : 0 < d) (hn : -4611686018427387904 ≤ n ∧ n ≤ 4611686018427387904) (hd' : d ≤ 4611686018427387904) : Ev (fun k => neumeref02_lowest.j0 k n d) (low n d) := by
  refine Ev.succ ?_
  simp only [neumeref02_lowest.j0]
  rw [abs2_eq n (by omega) (by omega)]
  simp only [Option.bind_some]
  refine Ev.bind (gcd_ev' (ab n) d (ab_nn _) (by omega)) ?_
  rw [gc_ab_l]
  have g1 := gc_pos (a := n) (show d ≠ 0 by omega)
  obtain ⟨b1, b2⟩ := low_bd (B := 4611686018427387904) (show d ≠ 0 by omega) hn (by omega)
  have e : lowG n d = gc n d := if_neg (by omega)
  rw [e] at b1 b2
  rw [wrap_id (x := Int.tdiv n (gc n d)) (by omega) (by omega), wrap_id (x := Int.tdiv d (gc n d)) (by omega) (by omega), abs2_eq _ (by omega) (by omega)]
  refine Ev.neg (by omega) ?_
  simp only [Option.bind_some]
  unfold low
  rw [e]
  by_cases c1 : ab (Int.tdiv n (gc n d)) > 1099511627776
  · rw [if_pos (Or.inl c1)]; exact Ev.pos c1 (Ev.now _)
  · by_cases c2 : Int.tdiv d (gc n d) > 1048576
    · rw [if_pos (Or.inr c2)]; exact Ev.neg c1 (Ev.pos c2 (Ev.now _))
    · rw [if_neg (show ¬ (ab (Int.tdiv n (gc n d)) > 1099511627776 ∨ Int.tdiv d (gc n d) > 1048576) by omega)]; exact Ev.neg c1 (Ev.neg c2 (Ev.now _))
theorem lowest2_ev (n d : Int) (hd : d ≠ 0) (hn : -4611686018427387904 ≤ n ∧ n ≤ 4611686018427387904) (hd' : -4611686018427387904 ≤ d ∧ d ≤ 4611686018427387904) : Ev (fun k => neumeref02_lowest.f k n d) (low n d) := by
  unfold neumeref02_lowest.f
  by_cases c : d < 0
  · rw [wrap_id (x := -n) (by omega) (by omega), wrap_id (x := -d) (by omega) (by omega), low_neg n d c]
    exact Ev.pos c (lowest2_pos (-n) (-d) (by omega) (by omega) (by omega))
  · exact Ev.neg c (lowest2_pos n d (by omega) hn (by omega))

theorem add2_ev (n d m e : Int) (hn : -9223372036854775808 ≤ n ∧ n ≤ 9223372036854775807) (hm : -9223372036854775808 ≤ m ∧ m ≤ 9223372036854775807) : Ev (fun k => neumeref02_Add.f k n d m e) (radd n d m e) := by
  unfold neumeref02_Add.f
  refine Ev.bind (check2_ev n d hn) ?_
  have bad : ∀ h : ¬ (Ok n d ∧ Ok m e), Ev (fun k => neumeref02_Add.j0 k true n d m e) (radd n d m e) := by
    intro h
    unfold radd
    rw [if_neg h]
    refine Ev.succ ?_
    simp only [neumeref02_Add.j0, if_true]
    exact Ev.now _
  by_cases h1 : Ok n d
  · rw [decide_eq_true h1]
    refine Ev.pos rfl (Ev.bind (check2_ev m e hm) ?_)
    by_cases h2 : Ok m e
    · have h : Ok n d ∧ Ok m e := ⟨h1, h2⟩
      rw [decide_eq_true h2]
      refine Ev.succ ?_
      simp only [neumeref02_Add.j0, Bool.not_true, Bool.false_eq_true, if_false]
      refine Ev.bind (gcd_ev' d e (by have := h.1.1; omega) (by have := h.2.1; omega)) ?_
      obtain ⟨b1, b2, b3, b4, b5, b6, b7⟩ := sum_bd h
      have g1 := gc_pos (a := d) (show e ≠ 0 by have := h.2.1; omega)
      rw [wrap_id (x := Int.tdiv e (gc d e)) (by omega) (by omega), wrap_id (x := Int.tdiv d (gc d e)) (by omega) (by omega), wrap_id (x := n * Int.tdiv e (gc d e)) (by omega) (by omega), wrap_id (x := m * Int.tdiv d (gc d e)) (by omega) (by omega)]
      change Ev (fun k => if gc d e = 0 then none else (neumeref02_lowest.f k (wrap64 (sumN n d m e)) (wrap64 (sumD d e))).bind fun bt137 => some (bt137.1, bt137.2.1, bt137.2.2)) _
      rw [wrap_id (x := sumN n d m e) (by omega) (by omega), wrap_id (x := sumD d e) (by omega) (by omega)]
      unfold radd
      rw [if_pos h]
      exact Ev.neg (by omega) (Ev.bind (lowest2_ev _ _ (by omega) (by omega) (by omega)) (Ev.now _))
    · rw [decide_eq_false h2]
      exact bad (fun h => h2 h.2)
  · rw [decide_eq_false h1]
    exact Ev.neg (by decide) (bad (fun h => h1 h.1))
theorem sub2_ev (n d m e : Int) (hn : -9223372036854775808 ≤ n ∧ n ≤ 9223372036854775807) (hm : -9223372036854775808 ≤ m ∧ m ≤ 9223372036854775807) : Ev (fun k => neumeref02_Sub.f k n d m e) (rsub n d m e) := by
  unfold neumeref02_Sub.f
  refine Ev.bind (check2_ev m e hm) ?_
  by_cases h : Ok m e
  · rw [decide_eq_true h]
    have b := h.2.2.1
    have b' := h.2.2.2.1
    rw [wrap_id (x := -m) (by omega) (by omega)]
    exact Ev.pos (by trivial) (Ev.bind (add2_ev n d (-m) e hn (by omega)) (Ev.now _))
  · rw [decide_eq_false h, rsub_eq, if_neg (fun q => h q.2)]
    exact Ev.neg (by decide) (Ev.now _)
theorem cmp2_ev (n d m e : Int) (hn : -9223372036854775808 ≤ n ∧ n ≤ 9223372036854775807) (hm : -9223372036854775808 ≤ m ∧ m ≤ 9223372036854775807) : Ev (fun k => neumeref02_Cmp.f k n d m e) (rcmp n d m e) := by
  unfold neumeref02_Cmp.f
  refine Ev.bind (check2_ev n d hn) ?_
  have bad : ∀ h : ¬ (Ok n d ∧ Ok m e), Ev (fun k => neumeref02_Cmp.j0 k true n d m e) (rcmp n d m e) := by
    intro h
    unfold rcmp
    rw [if_neg h]
    refine Ev.succ ?_
    simp only [neumeref02_Cmp.j0, if_true]
    exact Ev.now _
  by_cases h1 : Ok n d
  · rw [decide_eq_true h1]
    refine Ev.pos rfl (Ev.bind (check2_ev m e hm) ?_)
    by_cases h2 : Ok m e
    · rw [decide_eq_true h2]
      refine Ev.succ ?_
      simp only [neumeref02_Cmp.j0, Bool.not_true, Bool.false_eq_true, if_false]
      have m1 := mul_bd (a := n) (b := e) (A := 1099511627776) (B := 1048576) ⟨h1.2.2.1, h1.2.2.2.1⟩ ⟨by have := h2.1; omega, h2.2.1⟩ (by omega)
      have m2 := mul_bd (a := m) (b := d) (A := 1099511627776) (B := 1048576) ⟨h2.2.2.1, h2.2.2.2.1⟩ ⟨by have := h1.1; omega, h1.2.1⟩ (by omega)
      rw [wrap_id (x := n * e) (by omega) (by omega), wrap_id (x := m * d) (by omega) (by omega)]
      have e1 : rcmp n d m e = if n * e < m * d then -1 else if n * e > m * d then 1 else 0 := if_pos ⟨h1, h2⟩
      rw [e1]
      exact Ev.ite (fun _ => Ev.now _) (fun _ => Ev.ite (fun _ => Ev.now _) (fun _ => Ev.now _))
    · rw [decide_eq_false h2]
      exact bad (fun h => h2 h.2)
  · rw [decide_eq_false h1]
    exact Ev.neg (by decide) (bad (fun h => h1 h.1))
end Go.Proofs.YtdiccfonlojlfaaGreatDoor.Rp