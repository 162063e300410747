/- What rat's functions, and its reference's, come to: plain values. -/
import Derived.Test.YtdiccfonlojlfaaGreatDoorPx3
import Derived.Test.YtdiccfonlojlfaaGreatDoorPx4
import Derived.Test.YtdiccfonlojlfaaGreatDoorPx5
import Derived.Test.YtdiccfonlojlfaaGreatDoorRatPlain
import Derived.Test.YtdiccfonlojlfaaGreatDoorEv
namespace Go.Proofs.YtdiccfonlojlfaaGreatDoor.Rp
open Go.RowKit Go.Proofs.YtdiccfonlojlfaaGreatDoor.P Go.Proofs.YtdiccfonlojlfaaGreatDoorW.PrintWords Go.Proofs.YtdiccfonlojlfaaGreatDoorW.PrintLast Go.Proofs.YtdiccfonlojlfaaGreatDoorW.PrintMore
set_option linter.unusedVariables false


theorem common_ev : ∀ (n : Nat) (a b : Int), 0 ≤ a → 0 ≤ b → b.toNat = n → Ev (fun k => rat_common.f k a b) (gc a b) := by
  intro n
  induction n using Nat.strongRecOn with
  | _ n ih =>
    intro a b ha hb hn
    refine Ev.succ ?_
    simp only [rat_common.f]
    by_cases h0 : b = 0
    · subst h0
      rw [gc_zero a ha]
      exact Ev.pos rfl (Ev.now _)
    · refine Ev.neg h0 (Ev.some_bind ?_)
      have hm : Int.tmod a b = a % b := Int.tmod_eq_emod_of_nonneg ha
      have h1 := Int.emod_nonneg a h0
      have h2 := Int.emod_lt_of_pos a (show 0 < b by omega)
      rw [← gc_step ha (by omega : 0 < b)]
      exact ih (Int.tmod a b).toNat (by omega) b (Int.tmod a b) hb (by omega) rfl
theorem common_ev' (a b : Int) (ha : 0 ≤ a) (hb : 0 ≤ b) : Ev (fun k => rat_common.f k a b) (gc a b) := common_ev _ a b ha hb rfl
theorem abs_eq (x : Int) (h : -9223372036854775807 ≤ x) (h' : x ≤ 9223372036854775807) : rat_abs.f x = some (ab x) := by
  unfold rat_abs.f ab
  split
  · rw [wrap_id (by omega) (by omega)]
  · rfl
theorem check_ev (n d : Int) (hn : -9223372036854775808 ≤ n ∧ n ≤ 9223372036854775807) : Ev (fun k => rat_Check.f k n d) (decide (Ok n d)) := by
  refine Ev.succ ?_
  unfold rat_Check.f
  simp only [rat_Check.j0]
  by_cases h : 1 ≤ d ∧ d ≤ 1048576 ∧ -1099511627776 ≤ n ∧ n ≤ 1099511627776
  · obtain ⟨h1, h2, h3, h4⟩ := h
    rw [decide_eq_false (show ¬ n > 1099511627776 by omega), abs_eq n (by omega) (by omega)]
    simp only [if_neg (show ¬ d < 1 by omega), if_neg (show ¬ d > 1048576 by omega), if_neg (show ¬ n < -1099511627776 by omega), Bool.false_eq_true, if_false, Option.bind_some]
    refine Ev.to (Ev.bind (common_ev' (ab n) d (ab_nn n) (by omega)) (Ev.now _)) ?_
    rw [gc_ab_l]
    by_cases hg : gc n d = 1
    · rw [hg, decide_eq_true (show Ok n d from ⟨h1, h2, h3, h4, hg⟩)]; rfl
    · rw [decide_eq_false (show ¬ Ok n d from fun h => hg h.2.2.2.2)]; exact beq_eq_false_iff_ne.2 hg
  · rw [decide_eq_false (show ¬ Ok n d from fun hh => h ⟨hh.1, hh.2.1, hh.2.2.1, hh.2.2.2.1⟩)]
    by_cases c1 : d < 1
    · simp only [if_pos c1, if_true]; exact Ev.now _
    · by_cases c2 : d > 1048576
      · simp only [if_neg c1, if_pos c2, if_true]; exact Ev.now _
      · by_cases c3 : n < -1099511627776
        · simp only [if_neg c1, if_neg c2, if_pos c3, if_true]; exact Ev.now _
        · rw [decide_eq_true (show n > 1099511627776 by omega)]
          simp only [if_neg c1, if_neg c2, if_neg c3, if_true]; exact Ev.now _
theorem both_ev (n d m e : Int) (hn : -9223372036854775808 ≤ n ∧ n ≤ 9223372036854775807) (hm : -9223372036854775808 ≤ m ∧ m ≤ 9223372036854775807) : Ev (fun k => rat_both.f k n d m e) (decide (Ok n d ∧ Ok m e)) := by
  unfold rat_both.f
  refine Ev.bind (check_ev n d hn) ?_
  by_cases h : Ok n d
  · rw [decide_eq_true h]
    refine Ev.pos rfl (Ev.to (Ev.some_bind (check_ev m e hm)) ?_)
    by_cases h2 : Ok m e
    · rw [decide_eq_true h2, decide_eq_true ⟨h, h2⟩]
    · rw [decide_eq_false h2, decide_eq_false (fun q => h2 q.2)]
  · rw [decide_eq_false h, decide_eq_false (fun q => h q.1)]
    exact Ev.neg (by decide) (Ev.now _)
theorem sized_eq (n d : Int) (hn : -9223372036854775807 ≤ n ∧ n ≤ 9223372036854775807) : rat_sized.f n d = some (if ab n > 1099511627776 ∨ d > 1048576 then (0, 0, 3) else (n, d, 0)) := by
  unfold rat_sized.f
  rw [abs_eq n hn.1 hn.2]
  simp only [Option.bind_some, rat_zero.f]
  by_cases c1 : ab n > 1099511627776
  · rw [if_pos c1, if_pos (Or.inl c1)]
  · by_cases c2 : d > 1048576
    · rw [if_neg c1, if_pos c2, if_pos (Or.inr c2)]
    · rw [if_neg c1, if_neg c2, if_neg (by omega)]
theorem low_bd {n d B : Int} (hd : d ≠ 0) (hn : -B ≤ n ∧ n ≤ B) (hd' : -B ≤ d ∧ d ≤ B) : (-B ≤ Int.tdiv n (lowG n d) ∧ Int.tdiv n (lowG n d) ≤ B) ∧ (-B ≤ Int.tdiv d (lowG n d) ∧ Int.tdiv d (lowG n d) ≤ B) :=
  ⟨tdiv_bd (lowG_ne n d hd) hn, tdiv_bd (lowG_ne n d hd) hd'⟩
theorem gc_bd {n d B : Int} (hd : d ≠ 0) (h : -B ≤ d ∧ d ≤ B) : gc n d ≤ B := by
  rw [← gc_ab_r]
  have := gc_le (a := n) (b := ab d) (by have := ab_nn d; unfold ab at *; split at * <;> omega)
  have := ab_le.2 h
  omega
theorem lowest_ev (n d : Int) (hd : d ≠ 0) (hn : -4611686018427387904 ≤ n ∧ n ≤ 4611686018427387904) (hd' : -4611686018427387904 ≤ d ∧ d ≤ 4611686018427387904) : Ev (fun k => rat_lowest.f k n d) (low n d) := by
  unfold rat_lowest.f
  rw [abs_eq n (by omega) (by omega), abs_eq d (by omega) (by omega)]
  simp only [Option.bind_some]
  refine Ev.bind (common_ev' (ab n) (ab d) (ab_nn _) (ab_nn _)) ?_
  rw [gc_ab_l, gc_ab_r]
  have g1 := gc_pos (a := n) hd
  have g2 := gc_bd (n := n) hd hd'
  obtain ⟨b1, b2⟩ := low_bd hd hn hd'
  by_cases c : d < 0
  · have e : lowG n d = -gc n d := if_pos c
    rw [e] at b1 b2
    simp only [if_pos c]
    rw [wrap_id (x := -gc n d) (by omega) (by omega), wrap_id (x := Int.tdiv n (-gc n d)) (by omega) (by omega), wrap_id (x := Int.tdiv d (-gc n d)) (by omega) (by omega), sized_eq _ _ (by omega)]
    refine Ev.to (Ev.neg (by omega) (Ev.now _)) ?_
    unfold low
    rw [e]
  · have e : lowG n d = gc n d := if_neg c
    rw [e] at b1 b2
    simp only [if_neg c]
    rw [wrap_id (x := Int.tdiv n (gc n d)) (by omega) (by omega), wrap_id (x := Int.tdiv d (gc n d)) (by omega) (by omega), sized_eq _ _ (by omega)]
    refine Ev.to (Ev.neg (by omega) (Ev.now _)) ?_
    unfold low
    rw [e]
theorem low_neg (n d : Int) (h : d < 0) : low n d = low (-n) (-d) := by
  have e1 : lowG n d = -gc n d := if_pos h
  have e2 : lowG (-n) (-d) = gc n d := by
    unfold lowG
    rw [if_neg (by omega)]
    unfold gc
    rw [Int.neg_gcd, Int.gcd_neg]
  unfold low
  rw [e1, e2, Int.tdiv_neg, Int.tdiv_neg, Int.neg_tdiv, Int.neg_tdiv]
/-- The sum of two. -/
def sumN (n d m e : Int) : Int := n * Int.tdiv e (gc d e) + m * Int.tdiv d (gc d e)
def sumD (d e : Int) : Int := Int.tdiv d (gc d e) * e
def radd (n d m e : Int) : Int × Int × Int := if Ok n d ∧ Ok m e then low (sumN n d m e) (sumD d e) else (0, 0, 2)
theorem mul_bd {a b A B : Int} (h1 : -A ≤ a ∧ a ≤ A) (h2 : 0 ≤ b ∧ b ≤ B) (hA : 0 ≤ A) : -(A * B) ≤ a * b ∧ a * b ≤ A * B := by
  have u : a * b ≤ A * b := Int.mul_le_mul_of_nonneg_right h1.2 h2.1
  have v : A * b ≤ A * B := Int.mul_le_mul_of_nonneg_left h2.2 hA
  have w : -A * b ≤ a * b := Int.mul_le_mul_of_nonneg_right h1.1 h2.1
  rw [Int.neg_mul] at w
  omega
theorem quo_bd {d e : Int} (hd : 1 ≤ d ∧ d ≤ 1048576) (he : 1 ≤ e) : 1 ≤ Int.tdiv d (gc d e) ∧ Int.tdiv d (gc d e) ≤ 1048576 := by
  have g1 := gc_pos (a := d) (show e ≠ 0 by omega)
  have h1 := div_dvd (gc_dvd_l d e)
  have h2 := tdiv_bd (a := d) (b := gc d e) (m := 1048576) (by omega) (by omega)
  refine ⟨?_, h2.2⟩
  rcases Int.lt_or_le 0 (Int.tdiv d (gc d e)) with h | h
  · omega
  · have := Int.mul_nonpos_of_nonpos_of_nonneg h (Int.le_of_lt g1)
    omega
theorem gc_comm (a b : Int) : gc a b = gc b a := by unfold gc; rw [Int.gcd_comm]
theorem sum_bd {n d m e : Int} (h : Ok n d ∧ Ok m e) : (-4611686018427387904 ≤ sumN n d m e ∧ sumN n d m e ≤ 4611686018427387904) ∧ 1 ≤ sumD d e ∧ sumD d e ≤ 1099511627776 ∧
    (1 ≤ Int.tdiv e (gc d e) ∧ Int.tdiv e (gc d e) ≤ 1048576) ∧ (1 ≤ Int.tdiv d (gc d e) ∧ Int.tdiv d (gc d e) ≤ 1048576) ∧
    (-1152921504606846976 ≤ n * Int.tdiv e (gc d e) ∧ n * Int.tdiv e (gc d e) ≤ 1152921504606846976) ∧ (-1152921504606846976 ≤ m * Int.tdiv d (gc d e) ∧ m * Int.tdiv d (gc d e) ≤ 1152921504606846976) := by
  obtain ⟨⟨a1, a2, a3, a4, a5⟩, b1, b2, b3, b4, b5⟩ := h
  have q1 := quo_bd (d := d) (e := e) ⟨a1, a2⟩ b1
  have q2 := quo_bd (d := e) (e := d) ⟨b1, b2⟩ a1
  rw [gc_comm e d] at q2
  have m1 := mul_bd (a := n) (b := Int.tdiv e (gc d e)) (A := 1099511627776) (B := 1048576) ⟨a3, a4⟩ (by omega) (by omega)
  have m2 := mul_bd (a := m) (b := Int.tdiv d (gc d e)) (A := 1099511627776) (B := 1048576) ⟨b3, b4⟩ (by omega) (by omega)
  have m3 := mul_bd (a := Int.tdiv d (gc d e)) (b := e) (A := 1048576) (B := 1048576) (by omega) (by omega) (by omega)
  have m4 : 1 * 1 ≤ Int.tdiv d (gc d e) * e := Int.mul_le_mul q1.1 b1 (by omega) (by omega)
  unfold sumN sumD
  omega
theorem add_ev (n d m e : Int) (hn : -9223372036854775808 ≤ n ∧ n ≤ 9223372036854775807) (hm : -9223372036854775808 ≤ m ∧ m ≤ 9223372036854775807) : Ev (fun k => rat_Add.f k n d m e) (radd n d m e) := by
  unfold rat_Add.f
  refine Ev.bind (both_ev n d m e hn hm) ?_
  unfold radd
  by_cases h : Ok n d ∧ Ok m e
  · rw [decide_eq_true h, if_pos h]
    refine Ev.pos rfl (Ev.bind (common_ev' d e (by have := h.1.1; omega) (by have := h.2.1; omega)) ?_)
    obtain ⟨b1, b2, b3, b4, b5, b6, b7⟩ := sum_bd h
    have g1 := gc_pos (a := d) (show e ≠ 0 by have := h.2.1; omega)
    rw [wrap_id (x := Int.tdiv e (gc d e)) (by omega) (by omega), wrap_id (x := Int.tdiv d (gc d e)) (by omega) (by omega), wrap_id (x := n * Int.tdiv e (gc d e)) (by omega) (by omega), wrap_id (x := m * Int.tdiv d (gc d e)) (by omega) (by omega)]
    change Ev (fun k => if gc d e = 0 then none else (rat_lowest.f k (wrap64 (sumN n d m e)) (wrap64 (sumD d e))).bind fun bt137 => some (bt137.1, bt137.2.1, bt137.2.2)) _
    rw [wrap_id (x := sumN n d m e) (by omega) (by omega), wrap_id (x := sumD d e) (by omega) (by omega)]
    exact Ev.neg (by omega) (Ev.bind (lowest_ev _ _ (by omega) (by omega) (by omega)) (Ev.now _))
  · rw [decide_eq_false h, if_neg h]
    exact Ev.neg (by decide) (Ev.now _)
/-- The difference of two. -/
def rsub (n d m e : Int) : Int × Int × Int := radd n d (-m) e
theorem Ok.neg {n d : Int} : Ok (-n) d ↔ Ok n d := by unfold Ok gc; rw [Int.neg_gcd]; omega
theorem rsub_eq (n d m e : Int) : rsub n d m e = if Ok n d ∧ Ok m e then radd n d (-m) e else (0, 0, 2) := by
  unfold rsub
  split
  · rfl
  · rename_i h
    unfold radd
    rw [if_neg (fun q => h ⟨q.1, Ok.neg.1 q.2⟩)]
theorem sub_ev (n d m e : Int) (hn : -9223372036854775808 ≤ n ∧ n ≤ 9223372036854775807) (hm : -9223372036854775808 ≤ m ∧ m ≤ 9223372036854775807) : Ev (fun k => rat_Sub.f k n d m e) (rsub n d m e) := by
  unfold rat_Sub.f
  refine Ev.bind (both_ev n d m e hn hm) ?_
  rw [rsub_eq]
  by_cases h : Ok n d ∧ Ok m e
  · rw [decide_eq_true h, if_pos h]
    have b := h.2.2.2.1
    have b' := h.2.2.2.2.1
    simp only [rat_negated.f, Option.bind_some]
    rw [wrap_id (x := -m) (by omega) (by omega)]
    exact Ev.pos (by trivial) (Ev.bind (add_ev n d (-m) e hn (by omega)) (Ev.now _))
  · rw [decide_eq_false h, if_neg h]
    exact Ev.neg (by decide) (Ev.now _)
/-- Which one is greater. -/
def rcmp (n d m e : Int) : Int := if Ok n d ∧ Ok m e then (if n * e < m * d then -1 else if n * e > m * d then 1 else 0) else 0
end Go.Proofs.YtdiccfonlojlfaaGreatDoor.Rp