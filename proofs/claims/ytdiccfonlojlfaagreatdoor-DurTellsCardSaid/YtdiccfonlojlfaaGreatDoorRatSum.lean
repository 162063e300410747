/- Fractions: sums told by their parts put crosswise. -/
import Derived.Test.YtdiccfonlojlfaaGreatDoorRatA
import Derived.Test.YtdiccfonlojlfaaGreatDoorRatB
namespace Go.Proofs.YtdiccfonlojlfaaGreatDoor.Rp
open Go.RowKit
set_option linter.unusedVariables false
set_option linter.unusedSimpArgs false

theorem sum_value {n d m e : Int} (hd : 0 < d) (he : 0 < e) : sumN n d m e * (d * e) = (n * e + m * d) * sumD d e := by
  have g0 := gc_pos (a := d) (show e ≠ 0 by omega)
  have h1 := div_dvd (gc_dvd_l d e)
  have h2 := div_dvd (gc_dvd_r d e)
  unfold sumN sumD
  generalize gc d e = g at *
  generalize Int.tdiv d g = c at *
  generalize Int.tdiv e g = f at *
  subst h1; subst h2
  simp only [Int.add_mul, Int.mul_add]
  congr 1 <;> simp only [Int.mul_assoc, Int.mul_left_comm, Int.mul_comm]
theorem radd_cross {n d m e a b : Int} (h1 : Ok n d) (h2 : Ok m e) (h : radd n d m e = (a, b, 0)) : Ok a b ∧ a * (d * e) = (n * e + m * d) * b := by
  unfold radd at h
  rw [if_pos ⟨h1, h2⟩] at h
  have d0 := h1.1
  have e0 := h2.1
  have sb := sum_bd ⟨h1, h2⟩
  obtain ⟨ok, q⟩ := low_ok (by omega) h
  refine ⟨ok, ?_⟩
  have v' := sum_value (n := n) (d := d) (m := m) (e := e) (by omega) (by omega)
  generalize sumN n d m e = N' at *
  generalize sumD d e = D' at *
  refine Int.eq_of_mul_eq_mul_right (show D' ≠ 0 by omega) ?_
  calc a * (d * e) * D' = (a * D') * (d * e) := by simp only [Int.mul_assoc, Int.mul_left_comm, Int.mul_comm]
    _ = (N' * b) * (d * e) := by rw [q]
    _ = (N' * (d * e)) * b := by simp only [Int.mul_assoc, Int.mul_left_comm, Int.mul_comm]
    _ = (n * e + m * d) * D' * b := by rw [v']
    _ = (n * e + m * d) * b * D' := by rw [Int.mul_assoc, Int.mul_comm D', ← Int.mul_assoc]
theorem radd_mk {n d m e a b : Int} (h1 : Ok n d) (h2 : Ok m e) (h3 : Ok a b) (z : a * (d * e) = (n * e + m * d) * b) : radd n d m e = (a, b, 0) := by
  have d0 := h1.1
  have e0 := h2.1
  have sb := sum_bd ⟨h1, h2⟩
  unfold radd
  rw [if_pos ⟨h1, h2⟩]
  refine low_of (by omega) h3 ?_
  have v' := sum_value (n := n) (d := d) (m := m) (e := e) (by omega) (by omega)
  generalize sumN n d m e = N' at *
  generalize sumD d e = D' at *
  refine Int.eq_of_mul_eq_mul_right (show d * e ≠ 0 from Int.mul_ne_zero (by omega) (by omega)) ?_
  calc N' * b * (d * e) = (N' * (d * e)) * b := by simp only [Int.mul_assoc, Int.mul_left_comm, Int.mul_comm]
    _ = (n * e + m * d) * D' * b := by rw [v']
    _ = (n * e + m * d) * b * D' := by rw [Int.mul_assoc, Int.mul_comm D', ← Int.mul_assoc]
    _ = a * (d * e) * D' := by rw [z]
    _ = a * D' * (d * e) := by simp only [Int.mul_assoc, Int.mul_left_comm, Int.mul_comm]
/-- a/b is n 64ths. -/
def isF (a b n : Int) : Prop := Ok a b ∧ a * 64 = n * b
instance (a b n : Int) : Decidable (isF a b n) := by unfold isF; infer_instance
theorem isF_one {a b c f n : Int} (h : isF a b n) (h' : isF c f n) : a = c ∧ b = f := by
  have b0 := h.1.1
  have f0 := h'.1.1
  refine same (by omega) (by omega) h.1.2.2.2.2 h'.1.2.2.2.2 ?_
  refine Int.eq_of_mul_eq_mul_right (show (64 : Int) ≠ 0 by decide) ?_
  calc a * f * 64 = a * 64 * f := by simp only [Int.mul_assoc, Int.mul_left_comm, Int.mul_comm]
    _ = n * b * f := by rw [h.2]
    _ = n * f * b := by simp only [Int.mul_assoc, Int.mul_left_comm, Int.mul_comm]
    _ = c * 64 * b := by rw [h'.2]
    _ = c * b * 64 := by simp only [Int.mul_assoc, Int.mul_left_comm, Int.mul_comm]
theorem isF_ex (n : Int) (h0 : 0 ≤ n) (h1 : n ≤ 1048576) : ∃ a b, isF a b n := by
  obtain ⟨a, b, _, _, h3, h4, h5, h6, h7⟩ := low_parts (n := n) (d := 64) (by decide)
  have g1 : 0 < lowG n 64 := by
    unfold lowG
    rw [if_neg (by decide)]
    exact gc_pos (by decide)
  generalize lowG n 64 = g at *
  refine ⟨a, b, ⟨?_, ?_, ?_, ?_, h6⟩, h7⟩
  · omega
  · have := Int.mul_le_mul_of_nonneg_left (show (1 : Int) ≤ g by omega) (show 0 ≤ b by omega)
    omega
  · rcases Int.lt_or_le a 0 with q | q
    · have := Int.mul_neg_of_neg_of_pos q g1
      omega
    · omega
  · rcases Int.lt_or_le a 0 with q | q
    · omega
    · have := Int.mul_le_mul_of_nonneg_left (show (1 : Int) ≤ g by omega) q
      omega
theorem isF_radd {a b c f p q n m : Int} (h : isF a b n) (h' : isF c f m) (h'' : isF p q (n + m)) : radd a b c f = (p, q, 0) := by
  refine radd_mk h.1 h'.1 h''.1 ?_
  refine Int.eq_of_mul_eq_mul_right (show (64 : Int) ≠ 0 by decide) ?_
  calc p * (b * f) * 64 = p * 64 * (b * f) := by simp only [Int.mul_assoc, Int.mul_left_comm, Int.mul_comm]
    _ = (n + m) * q * (b * f) := by rw [h''.2]
    _ = n * b * (f * q) + m * f * (b * q) := by
      simp only [Int.add_mul]
      congr 1 <;> simp only [Int.mul_assoc, Int.mul_left_comm, Int.mul_comm]
    _ = a * 64 * (f * q) + c * 64 * (b * q) := by rw [h.2, h'.2]
    _ = (a * f + c * b) * q * 64 := by
      simp only [Int.add_mul]
      congr 1 <;> simp only [Int.mul_assoc, Int.mul_left_comm, Int.mul_comm]
theorem isF_rsub {a b c f p q k m : Int} (h : Ok a b) (h' : isF c f m) (hs : rsub a b c f = (p, q, 0)) (h'' : isF p q k) : isF a b (k + m) := by
  refine ⟨h, ?_⟩
  have z := (radd_cross h (Ok.neg.2 h'.1) hs).2
  have q0 := h''.1.1
  have f0 := h'.1.1
  refine Int.eq_of_mul_eq_mul_right (show f * q ≠ 0 from Int.mul_ne_zero (by omega) (by omega)) ?_
  have z2 : p * (b * f) * 64 = (a * f + -c * b) * q * 64 := by rw [z]
  have e1 : p * (b * f) * 64 = k * b * (f * q) := by
    calc p * (b * f) * 64 = p * 64 * (b * f) := by simp only [Int.mul_assoc, Int.mul_left_comm, Int.mul_comm]
      _ = k * q * (b * f) := by rw [h''.2]
      _ = k * b * (f * q) := by simp only [Int.mul_assoc, Int.mul_left_comm, Int.mul_comm]
  have e2 : (a * f + -c * b) * q * 64 = a * 64 * (f * q) - m * b * (f * q) := by
    have e3 : c * b * q * 64 = m * b * (f * q) := by
      calc c * b * q * 64 = c * 64 * (b * q) := by simp only [Int.mul_assoc, Int.mul_left_comm, Int.mul_comm]
        _ = m * f * (b * q) := by rw [h'.2]
        _ = m * b * (f * q) := by simp only [Int.mul_assoc, Int.mul_left_comm, Int.mul_comm]
    rw [← e3, Int.neg_mul, Int.add_mul, Int.add_mul, Int.neg_mul, Int.neg_mul]
    rw [show a * f * q * 64 = a * 64 * (f * q) by simp only [Int.mul_assoc, Int.mul_left_comm, Int.mul_comm]]
    omega
  rw [e1, e2] at z2
  rw [Int.add_mul, Int.add_mul]
  omega
theorem isF_cmp {a b c f n m : Int} (h : isF a b n) (h' : isF c f m) : rcmp a b c f ≤ 0 ↔ n ≤ m := by
  have b0 := h.1.1
  have f0 := h'.1.1
  have bf : 0 < b * f := Int.mul_pos (by omega) (by omega)
  have e1 : a * f * 64 = n * (b * f) := by
    calc a * f * 64 = a * 64 * f := by simp only [Int.mul_assoc, Int.mul_left_comm, Int.mul_comm]
      _ = n * b * f := by rw [h.2]
      _ = n * (b * f) := by rw [Int.mul_assoc]
  have e2 : c * b * 64 = m * (b * f) := by
    calc c * b * 64 = c * 64 * b := by simp only [Int.mul_assoc, Int.mul_left_comm, Int.mul_comm]
      _ = m * f * b := by rw [h'.2]
      _ = m * (b * f) := by simp only [Int.mul_assoc, Int.mul_left_comm, Int.mul_comm]
  have key : a * f ≤ c * b ↔ n ≤ m := by
    constructor
    · intro q
      refine Int.le_of_mul_le_mul_right (a := b * f) ?_ bf
      omega
    · intro q
      have := Int.mul_le_mul_of_nonneg_right q (Int.le_of_lt bf)
      omega
  unfold rcmp
  rw [if_pos ⟨h.1, h'.1⟩, ← key]
  split
  · omega
  · split <;> omega
end Go.Proofs.YtdiccfonlojlfaaGreatDoor.Rp