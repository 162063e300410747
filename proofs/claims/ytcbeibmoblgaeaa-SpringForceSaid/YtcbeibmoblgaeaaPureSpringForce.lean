/- The law SpringForce of layer 28: for all whole numbers ideal, f and g the law answers true (no condition). -/
import Derived.Test.YtcbeibmoblgaeaaPx11
namespace Go.Proofs.Ytcbeibmoblgaeaa.Pure
open Go.RowKit Go.Proofs.Ytcbeibmoblgaeaa.P Go.Proofs.YtcbeibmoblgaeaaW.PrintWords Go.Proofs.YtcbeibmoblgaeaaW.PrintLast

set_option maxRecDepth 100000 in
theorem heads_at : neumelaw28_heads.f 60 = some true := by decide +kernel
theorem heads_ev : Ev neumelaw28_heads.f true := Ev.of neumelaw28_heads.mono heads_at
theorem heads_bind : Ev (fun k => (neumelaw28_heads.f k).bind fun t => some t) true := Ev.bind heads_ev (Ev.now _)

theorem length_bad (i f : Int) (h : ¬ (0 ≤ i ∧ i ≤ 1048576 ∧ -1024 ≤ f ∧ f ≤ 8192)) : spring_Length.f i f = some (0, 2) := by
  unfold spring_Length.f
  repeat' split
  all_goals first | rfl | omega
theorem length_ok (i f : Int) (h : 0 ≤ i ∧ i ≤ 1048576 ∧ -1024 ≤ f ∧ f ≤ 8192) : spring_Length.f i f = some (Int.tdiv (i * (1024 + f)) 1024, 0) := by
  obtain ⟨h1, h2, h3, h4⟩ := h
  have e1 : wrap64 (1024 + f) = 1024 + f := by unfold wrap64; omega
  have hp : 0 ≤ i * (1024 + f) := Int.mul_nonneg h1 (by omega)
  have hq : i * (1024 + f) ≤ 1048576 * 9216 := Int.mul_le_mul h2 (by omega) (by omega) (by omega)
  have e2 : wrap64 (i * (1024 + f)) = i * (1024 + f) := by unfold wrap64; omega
  have e3 : Int.tdiv (i * (1024 + f)) 1024 = i * (1024 + f) / 1024 := Int.tdiv_eq_ediv_of_nonneg hp
  have e4 : wrap64 (i * (1024 + f) / 1024) = i * (1024 + f) / 1024 := by unfold wrap64; omega
  unfold spring_Length.f
  rw [if_neg (by omega), if_neg (by omega), if_neg (by omega), if_neg (by omega), e1, e2, e3, e4]
theorem Ev.succ {α : Type} {g : Nat → Option α} {r : α} (h : Ev (fun k => g (k + 1)) r) : Ev g r := Ev.step (fun _ => rfl) h
theorem sq_bd (f : Int) (h3 : -8192 ≤ f) (h4 : f ≤ 8192) : 0 ≤ f * f ∧ f * f ≤ 67108864 := by
  by_cases h : 0 ≤ f
  · exact ⟨Int.mul_nonneg h h, by have := Int.mul_le_mul h4 h4 h (by omega); omega⟩
  · have e : f * f = (-f) * (-f) := by rw [Int.neg_mul_neg]
    rw [e]
    exact ⟨Int.mul_nonneg (by omega) (by omega), by have := Int.mul_le_mul (show -f ≤ 8192 by omega) (show -f ≤ 8192 by omega) (by omega) (by omega); omega⟩
theorem price_ok (f : Int) (h3 : -1024 ≤ f) (h4 : f ≤ 8192) : Ev (fun k => spring_Price.f k f) (if f < 0 then f * f * 4 else f * f) := by
  have hq := sq_bd f (by omega) h4
  have e1 : wrap64 (f * f) = f * f := by unfold wrap64; omega
  have e2 : wrap64 (f * f * 4) = f * f * 4 := by unfold wrap64; omega
  refine Ev.succ ?_
  unfold spring_Price.f
  rw [decide_eq_false (show ¬ f > 8192 by omega)]
  simp only [if_neg (show ¬ f < -1024 by omega), spring_Price.j0, Bool.false_eq_true, if_false, e1, e2]
  by_cases h : f < 0
  · simp only [if_pos h]; exact Ev.now _
  · simp only [if_neg h]; exact Ev.now _

theorem scaled_mono (i f g : Int) (h0 : 0 ≤ i) (h : f ≤ g) (hf : -1024 ≤ f) : Int.tdiv (i * (1024 + f)) 1024 ≤ Int.tdiv (i * (1024 + g)) 1024 := by
  have h1 : i * (1024 + f) ≤ i * (1024 + g) := Int.mul_le_mul_of_nonneg_left (by omega) h0
  have h2 : 0 ≤ i * (1024 + f) := Int.mul_nonneg h0 (by omega)
  rw [Int.tdiv_eq_ediv_of_nonneg h2, Int.tdiv_eq_ediv_of_nonneg (by omega)]
  omega
theorem sq_mono (f g : Int) (h0 : 0 ≤ f) (h : f ≤ g) : f * f ≤ g * g := Int.mul_le_mul h h h0 (by omega)
theorem sq_zero (f : Int) : f * f = 0 ↔ f = 0 := by
  constructor
  · intro h; rcases Int.mul_eq_zero.1 h with h | h <;> exact h
  · rintro rfl; rfl

theorem j1_true (f g : Int) (hf : -1024 ≤ f ∧ f ≤ 8192) (hg : -1024 ≤ g ∧ g ≤ 8192) : Ev (fun k => neumelaw28_SpringForce.j1 k f g false) true := by
  refine Ev.succ ?_
  simp only [neumelaw28_SpringForce.j1, Bool.false_eq_true, if_false]
  have b := heads_bind
  have z : ((if f < 0 then f * f * 4 else f * f) == 0) = (f == 0) := by
    have := sq_zero f
    by_cases hz : f = 0
    · subst hz; rfl
    · have : f * f ≠ 0 := fun h => hz (this.1 h)
      rw [beq_eq_false_iff_ne.2 hz]
      split
      · exact beq_eq_false_iff_ne.2 (by omega)
      · exact beq_eq_false_iff_ne.2 this
  refine Ev.bind (price_ok f hf.1 hf.2) (Ev.bind (price_ok g hg.1 hg.2) ?_)
  simp only [z, beq_self_eq_true, if_true]
  by_cases h1 : 0 ≤ f
  · by_cases h2 : f ≤ g
    · have m := sq_mono f g h1 h2
      have n1 : ¬ (if f < 0 then f * f * 4 else f * f) > (if g < 0 then g * g * 4 else g * g) := by rw [if_neg (by omega), if_neg (by omega)]; omega
      simp only [if_pos h1, if_pos h2, if_neg n1]
      by_cases h3 : g ≤ 0
      · obtain rfl : f = 0 := by omega
        obtain rfl : g = 0 := by omega
        simpa using b
      · simpa only [if_neg h3] using b
    · simpa only [if_pos h1, if_neg h2] using b
  · by_cases h2 : f ≤ g
    · by_cases h3 : g ≤ 0
      · have m := sq_mono (-g) (-f) (by omega) (by omega)
        rw [Int.neg_mul_neg, Int.neg_mul_neg] at m
        have n1 : ¬ (if f < 0 then f * f * 4 else f * f) < (if g < 0 then g * g * 4 else g * g) := by
          rw [if_pos (by omega)]
          split
          · omega
          · obtain rfl : g = 0 := by omega
            have := (sq_bd f (by omega) (by omega)).1
            omega
        simpa only [if_neg h1, if_pos h2, if_pos h3, if_neg n1] using b
      · simpa only [if_neg h1, if_pos h2, if_neg h3] using b
    · simpa only [if_neg h1, if_neg h2] using b

theorem rest_bad (i f : Int) (hi : ¬ (0 ≤ i ∧ i ≤ 1048576)) : spring_Length.f i f = some (0, 2) := length_bad i f (by omega)
theorem tdiv_id (i : Int) : Int.tdiv (i * (1024 + 0)) 1024 = i := by
  rw [show (1024 + 0 : Int) = 1024 by omega]; exact Int.mul_tdiv_cancel i (by decide)

theorem SpringForce : neumelaw28_SpringForce.Pure := by
  intro i f g _ _ _
  refine Ev.rounds (g := fun k => neumelaw28_SpringForce.f k i f g) ?_
  have b := heads_bind
  by_cases hi : 0 ≤ i ∧ i ≤ 1048576
  · by_cases hf : -1024 ≤ f ∧ f ≤ 8192
    · by_cases hg : -1024 ≤ g ∧ g ≤ 8192
      · unfold neumelaw28_SpringForce.f
        rw [length_ok i f (by omega), length_ok i g (by omega), length_ok i 0 (by omega), tdiv_id]
        refine Ev.succ ?_
        simp only [Option.bind_some, bne_self_eq_false, if_true, neumelaw28_SpringForce.j0, Bool.false_eq_true, if_false]
        have hn : ¬ Int.tdiv (i * (1024 + f)) 1024 < 0 := by
          have := Int.tdiv_nonneg (Int.mul_nonneg hi.1 (show 0 ≤ 1024 + f by omega)) (show (0:Int) ≤ 1024 by decide)
          omega
        have j := j1_true f g hf hg
        rw [decide_eq_false hn]
        by_cases h : f ≤ g
        · have := scaled_mono i f g hi.1 h hf.1
          simpa only [if_pos h, if_neg (show ¬ Int.tdiv (i * (1024 + f)) 1024 > Int.tdiv (i * (1024 + g)) 1024 by omega)] using j
        · simpa only [if_neg h] using j
      · unfold neumelaw28_SpringForce.f
        rw [length_ok i f (by omega), length_bad i g (by omega), length_ok i 0 (by omega), tdiv_id]
        refine Ev.succ ?_
        simpa [neumelaw28_SpringForce.j0] using b
    · unfold neumelaw28_SpringForce.f
      rw [length_bad i f (by omega), length_ok i 0 (by omega), tdiv_id]
      refine Ev.succ ?_
      by_cases hg : -1024 ≤ g ∧ g ≤ 8192
      · rw [length_ok i g (by omega)]
        simpa [neumelaw28_SpringForce.j0] using b
      · rw [length_bad i g (by omega)]
        simpa [neumelaw28_SpringForce.j0] using b
  · unfold neumelaw28_SpringForce.f
    rw [rest_bad i f hi, rest_bad i g hi, rest_bad i 0 hi]
    refine Ev.succ ?_
    simpa [neumelaw28_SpringForce.j0] using b
end Go.Proofs.Ytcbeibmoblgaeaa.Pure
