/- How far a time would like to be from the next one: plain facts. -/
import Derived.Test.YtcbeibmoblgaeaaRatPlain
import Derived.Test.YtcbeibmoblgaeaaEv
namespace Go.Proofs.Ytcbeibmoblgaeaa.Rp
open Go.RowKit Go.Proofs.YtcbeibmoblgaeaaW.PrintWords Go.Proofs.YtcbeibmoblgaeaaW.PrintMore
set_option linter.unusedVariables false

/-- (n, m) as a power of 2 and what is left of it, between 1 and 2. -/
def Norm (n m p n' m' : Int) : Prop := ∃ u v : Nat, n' = n * 2 ^ v ∧ m' = m * 2 ^ u ∧ p = (u : Int) - v ∧ m' ≤ n' ∧ n' < 2 * m' ∧ (u = 0 ∨ v = 0)
theorem pow_pos' (k : Nat) : (0 : Int) < 2 ^ k := Int.pow_pos (by decide)
theorem pow_le' {a b : Nat} (h : a ≤ b) : (2 : Int) ^ a ≤ 2 ^ b := by
  obtain ⟨c, rfl⟩ := Nat.le.dest h
  rw [Int.pow_add]
  have := pow_pos' a
  have h1 : (1 : Int) ≤ 2 ^ c := by have := pow_pos' c; omega
  have := Int.mul_le_mul_of_nonneg_left h1 (Int.le_of_lt (pow_pos' a))
  omega
theorem cross {n1 m1 n2 m2 A B C D : Int} (hm1 : 0 < m1) (hm2 : 0 < m2) (hA : 0 < A) (hC : 0 < C) (hx : m1 * B ≤ n1 * A) (hy : n2 * C < m2 * D) (h : n1 * m2 ≤ n2 * m1) (k : D * A ≤ B * C) : False := by
  have s1 : m1 * B * (m2 * C) ≤ n1 * A * (m2 * C) := Int.mul_le_mul_of_nonneg_right hx (Int.le_of_lt (Int.mul_pos hm2 hC))
  have s2 : n1 * m2 * (A * C) ≤ n2 * m1 * (A * C) := Int.mul_le_mul_of_nonneg_right h (Int.le_of_lt (Int.mul_pos hA hC))
  have s3 : n2 * C * (m1 * A) < m2 * D * (m1 * A) := Int.mul_lt_mul_of_pos_right hy (Int.mul_pos hm1 hA)
  have s4 : m1 * m2 * (D * A) ≤ m1 * m2 * (B * C) := Int.mul_le_mul_of_nonneg_left k (Int.le_of_lt (Int.mul_pos hm1 hm2))
  have e1 : m1 * B * (m2 * C) = m1 * m2 * (B * C) := by ac_rfl
  have e2 : n1 * A * (m2 * C) = n1 * m2 * (A * C) := by ac_rfl
  have e3 : n2 * m1 * (A * C) = n2 * C * (m1 * A) := by ac_rfl
  have e4 : m2 * D * (m1 * A) = m1 * m2 * (D * A) := by ac_rfl
  omega
theorem Norm.le {n1 m1 p1 a1 b1 n2 m2 p2 a2 b2 : Int} (hm1 : 0 < m1) (hm2 : 0 < m2) (h1 : Norm n1 m1 p1 a1 b1) (h2 : Norm n2 m2 p2 a2 b2) (h : n1 * m2 ≤ n2 * m1) : p1 ≤ p2 ∧ (p1 = p2 → a1 * b2 ≤ a2 * b1) := by
  obtain ⟨u1, v1, rfl, rfl, rfl, x1, x2, x3⟩ := h1
  obtain ⟨u2, v2, rfl, rfl, rfl, y1, y2, y3⟩ := h2
  constructor
  · rcases Int.lt_or_le ((u2 : Int) - v2) ((u1 : Int) - v1) with hlt | hle
    · exfalso
      refine cross hm1 hm2 (pow_pos' v1) (pow_pos' v2) x1 (D := 2 ^ (u2 + 1)) ?_ h ?_
      · rw [Int.pow_succ]; rw [show m2 * (2 ^ u2 * 2) = 2 * (m2 * 2 ^ u2) by ac_rfl]; exact y2
      · rw [← Int.pow_add, ← Int.pow_add]
        exact pow_le' (by omega)
    · exact hle
  · intro he
    obtain rfl : u1 = u2 := by omega
    obtain rfl : v1 = v2 := by omega
    have := Int.mul_le_mul_of_nonneg_right h (Int.le_of_lt (Int.mul_pos (pow_pos' v1) (pow_pos' u1)))
    rw [show n1 * 2 ^ v1 * (m2 * 2 ^ u1) = n1 * m2 * (2 ^ v1 * 2 ^ u1) by ac_rfl, show n2 * 2 ^ v1 * (m1 * 2 ^ u1) = n2 * m1 * (2 ^ v1 * 2 ^ u1) by ac_rfl]
    exact this
theorem Norm.pos {n m p a b : Int} (hm : 0 < m) (h : Norm n m p a b) : 0 < b := by
  obtain ⟨u, v, rfl, rfl, rfl, x1, x2, x3⟩ := h
  exact Int.mul_pos hm (pow_pos' u)
/-- How far, before it is bounded. -/
def far (p a b : Int) : Int := 2458 + 1228 * (p + 3) + 1228 * (a - b) / b
def ideal (p a b : Int) : Int := mn (mx (far p a b) 600) 1048576
theorem ideal_eq (p a b : Int) : ideal p a b = if far p a b < 600 then 600 else if 1048576 < far p a b then 1048576 else far p a b := by
  unfold ideal mn mx; split <;> split <;> (try split) <;> omega
theorem quo_mono {a1 b1 a2 b2 : Int} (hb1 : 0 < b1) (hb2 : 0 < b2) (h : a1 * b2 ≤ a2 * b1) : 1228 * (a1 - b1) / b1 ≤ 1228 * (a2 - b2) / b2 := by
  rw [Int.le_ediv_iff_mul_le hb2]
  have h1 : 1228 * (a1 - b1) / b1 * b1 ≤ 1228 * (a1 - b1) := Int.ediv_mul_le _ (by omega)
  have h2 := Int.mul_le_mul_of_nonneg_right h1 (Int.le_of_lt hb2)
  generalize 1228 * (a1 - b1) / b1 = q at *
  refine Int.le_of_mul_le_mul_right ?_ hb1
  have e1 : q * b1 * b2 = q * b2 * b1 := by ac_rfl
  have e2 : 1228 * (a1 - b1) * b2 = 1228 * (a1 * b2) - 1228 * (b1 * b2) := by rw [Int.mul_assoc, Int.sub_mul, Int.mul_sub]
  have e3 : 1228 * (a2 - b2) * b1 = 1228 * (a2 * b1) - 1228 * (b1 * b2) := by rw [Int.mul_assoc, Int.sub_mul, Int.mul_sub, Int.mul_comm b2 b1]
  omega
theorem quo_range {n m p a b : Int} (hm : 0 < m) (h : Norm n m p a b) : 0 ≤ 1228 * (a - b) / b ∧ 1228 * (a - b) / b < 1228 := by
  have hb := h.pos hm
  obtain ⟨u, v, rfl, rfl, rfl, x1, x2, x3⟩ := h
  constructor
  · exact Int.ediv_nonneg (by omega) (by omega)
  · rw [Int.ediv_lt_iff_lt_mul hb]; omega
theorem far_mono {n1 m1 p1 a1 b1 n2 m2 p2 a2 b2 : Int} (hm1 : 0 < m1) (hm2 : 0 < m2) (h1 : Norm n1 m1 p1 a1 b1) (h2 : Norm n2 m2 p2 a2 b2) (h : n1 * m2 ≤ n2 * m1) : far p1 a1 b1 ≤ far p2 a2 b2 := by
  obtain ⟨g1, g2⟩ := Norm.le hm1 hm2 h1 h2 h
  have r1 := quo_range hm1 h1
  have r2 := quo_range hm2 h2
  unfold far
  rcases Int.lt_or_le p1 p2 with hlt | hle
  · omega
  · have e : p1 = p2 := by omega
    have := quo_mono (h1.pos hm1) (h2.pos hm2) (g2 e)
    omega
theorem Norm.double {n m p a b : Int} (h : Norm n m p a b) : ∃ a' b', Norm (2 * n) m (p + 1) a' b' ∧ far (p + 1) a' b' = far p a b + 1228 := by
  obtain ⟨u, v, rfl, rfl, rfl, x1, x2, x3⟩ := h
  cases v with
  | succ v =>
    refine ⟨_, _, ⟨u, v, rfl, rfl, by omega, ?_, ?_, by omega⟩, ?_⟩
    · rw [show 2 * n * 2 ^ v = n * 2 ^ (v + 1) by rw [Int.pow_succ]; ac_rfl]; exact x1
    · rw [show 2 * n * 2 ^ v = n * 2 ^ (v + 1) by rw [Int.pow_succ]; ac_rfl]; exact x2
    · rw [show 2 * n * 2 ^ v = n * 2 ^ (v + 1) by rw [Int.pow_succ]; ac_rfl]; unfold far; omega
  | zero =>
    have e1 : m * 2 ^ (u + 1) = 2 * (m * 2 ^ u) := by rw [Int.pow_succ]; ac_rfl
    have e2 : 2 * n * 2 ^ 0 = 2 * (n * 2 ^ 0) := by ac_rfl
    refine ⟨_, _, ⟨u + 1, 0, rfl, rfl, by omega, by omega, by omega, .inr rfl⟩, ?_⟩
    unfold far
    rw [e1, e2]
    have e3 : 1228 * (2 * (n * 2 ^ 0) - 2 * (m * 2 ^ u)) = 2 * (1228 * (n * 2 ^ 0 - m * 2 ^ u)) := by omega
    rw [e3, Int.mul_ediv_mul_of_pos _ _ (by decide)]
    omega
theorem far_same {n1 m1 p1 a1 b1 n2 m2 p2 a2 b2 : Int} (hm1 : 0 < m1) (hm2 : 0 < m2) (h1 : Norm n1 m1 p1 a1 b1) (h2 : Norm n2 m2 p2 a2 b2) (h : n1 * m2 = n2 * m1) : far p1 a1 b1 = far p2 a2 b2 :=
  Int.le_antisymm (far_mono hm1 hm2 h1 h2 (by omega)) (far_mono hm2 hm1 h2 h1 (by omega))
theorem Norm.p_le {n m p a b : Int} (hm : 0 < m) (hn : 0 < n) (hn' : n ≤ 1099511627776) (hm' : m ≤ 1048576) (h : Norm n m p a b) : -20 ≤ p ∧ p ≤ 40 := by
  obtain ⟨u, v, rfl, rfl, rfl, x1, x2, x3⟩ := h
  have two40 : (2 : Int) ^ 40 = 1099511627776 := by decide
  have two20 : (2 : Int) ^ 20 = 1048576 := by decide
  rcases x3 with rfl | rfl
  · refine ⟨?_, by omega⟩
    rcases Nat.lt_or_ge 20 v with h20 | h20
    · exfalso
      have q := pow_le' (show 21 ≤ v by omega)
      have q2 : (2 : Int) ^ 21 = 2097152 := by decide
      have q3 := Int.mul_le_mul (show (1 : Int) ≤ n by omega) q (by omega) (by omega)
      rw [Int.pow_zero] at x2
      omega
    · omega
  · refine ⟨by omega, ?_⟩
    rcases Nat.lt_or_ge 40 u with h40 | h40
    · exfalso
      have q := pow_le' (show 41 ≤ u by omega)
      have q2 : (2 : Int) ^ 41 = 2199023255552 := by decide
      have q3 := Int.mul_le_mul (show (1 : Int) ≤ m by omega) q (by omega) (by omega)
      rw [Int.pow_zero] at x1
      omega
    · omega
end Go.Proofs.Ytcbeibmoblgaeaa.Rp
