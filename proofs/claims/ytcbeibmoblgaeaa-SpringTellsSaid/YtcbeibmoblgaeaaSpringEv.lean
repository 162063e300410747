/- What spring.Ideal, and its reference's, come to. -/
import Derived.Test.YtcbeibmoblgaeaaSpringPlain
import Derived.Test.YtcbeibmoblgaeaaRatEv
import Derived.Test.YtcbeibmoblgaeaaPx1
import Derived.Test.YtcbeibmoblgaeaaPx9
namespace Go.Proofs.Ytcbeibmoblgaeaa.Rp
open Go.RowKit Go.Proofs.Ytcbeibmoblgaeaa.P Go.Proofs.YtcbeibmoblgaeaaW.PrintWords Go.Proofs.YtcbeibmoblgaeaaW.PrintLast Go.Proofs.YtcbeibmoblgaeaaW.PrintMore
set_option linter.unusedVariables false

theorem two_pow (k : Nat) : (2 : Int) ^ (k + 1) = 2 * 2 ^ k := by rw [Int.pow_succ]; omega
theorem up_eq : ∀ (k : Nat) (n m p : Int), 0 < m → 0 < n → n ≤ 1099511627776 → m ≤ 1099511627776 → -1000 ≤ p → p + k ≤ 1000 → n < 2 * m * 2 ^ k →
    ∃ i : Nat, spring_power.up k n m p = (m * 2 ^ i, p + i) ∧ (i = 0 ∨ m * 2 ^ i ≤ n) ∧ n < 2 * (m * 2 ^ i)
  | 0, n, m, p, hm, hn, hn', hm', hp, hp', h => ⟨0, by simp [spring_power.up], .inl rfl, by rw [Int.pow_zero] at *; omega⟩
  | k + 1, n, m, p, hm, hn, hn', hm', hp, hp', h => by
    simp only [spring_power.up]
    rw [wrap_id (x := 2 * m) (by omega) (by omega), wrap_id (x := m * 2) (by omega) (by omega), wrap_id (x := p + 1) (by omega) (by omega)]
    by_cases c : 2 * m ≤ n
    · rw [if_pos c]
      obtain ⟨i, h1, h2, h3⟩ := up_eq k n (m * 2) (p + 1) (by omega) hn hn' (by omega) (by omega) (by omega) (by rw [two_pow] at h; rw [show 2 * (m * 2) * 2 ^ k = 2 * m * (2 * 2 ^ k) by ac_rfl]; exact h)
      refine ⟨i + 1, ?_, .inr ?_, ?_⟩
      · rw [h1, two_pow, show m * 2 * 2 ^ i = m * (2 * 2 ^ i) by ac_rfl, show p + 1 + (i : Int) = p + ((i + 1 : Nat) : Int) by omega]
      · rw [two_pow, show m * (2 * 2 ^ i) = m * 2 * 2 ^ i by ac_rfl]
        rcases h2 with rfl | h2
        · rw [Int.pow_zero]; omega
        · exact h2
      · rw [two_pow, show m * (2 * 2 ^ i) = m * 2 * 2 ^ i by ac_rfl]; exact h3
    · rw [if_neg c]
      refine up_eq k n m p hm hn hn' hm' hp (by omega) ?_
      have := pow_pos' k
      have h1 : 2 * m * 1 ≤ 2 * m * 2 ^ k := Int.mul_le_mul_of_nonneg_left (by omega) (by omega)
      omega
theorem down_eq : ∀ (k : Nat) (n m p : Int), 0 < m → 0 < n → n ≤ 2199023255552 → m ≤ 2199023255552 → -1000 ≤ p - k → p ≤ 1000 → m ≤ n * 2 ^ k →
    ∃ i : Nat, spring_power.down k n m p = (n * 2 ^ i, p - i) ∧ m ≤ n * 2 ^ i ∧ (i = 0 ∨ n * 2 ^ i < 2 * m)
  | 0, n, m, p, hm, hn, hn', hm', hp, hp', h => ⟨0, by simp [spring_power.down], by rw [Int.pow_zero] at *; omega, .inl rfl⟩
  | k + 1, n, m, p, hm, hn, hn', hm', hp, hp', h => by
    simp only [spring_power.down]
    rw [wrap_id (x := n * 2) (by omega) (by omega), wrap_id (x := p - 1) (by omega) (by omega)]
    by_cases c : n < m
    · rw [if_pos c]
      by_cases c2 : n * 2 ≤ 2199023255552
      · obtain ⟨i, h1, h2, h3⟩ := down_eq k (n * 2) m (p - 1) hm (by omega) (by omega) hm' (by omega) (by omega) (by rw [two_pow] at h; rw [show n * 2 * 2 ^ k = n * (2 * 2 ^ k) by ac_rfl]; exact h)
        refine ⟨i + 1, ?_, ?_, .inr ?_⟩
        · rw [h1, two_pow, show n * 2 * 2 ^ i = n * (2 * 2 ^ i) by ac_rfl, show p - 1 - (i : Int) = p - ((i + 1 : Nat) : Int) by omega]
        · rw [two_pow, show n * (2 * 2 ^ i) = n * 2 * 2 ^ i by ac_rfl]; exact h2
        · rw [two_pow, show n * (2 * 2 ^ i) = n * 2 * 2 ^ i by ac_rfl]
          rcases h3 with rfl | h3
          · rw [Int.pow_zero]; omega
          · exact h3
      · -- one round more is all
        have hst : ∀ (k : Nat) (x y : Int), y ≤ x → spring_power.down k x y (p - 1) = (x, p - 1) := by
          intro k
          induction k with
          | zero => intro x y _; rfl
          | succ k ih => intro x y hxy; simp only [spring_power.down]; rw [if_neg (by omega)]; exact ih x y hxy
        exact ⟨1, by rw [hst k (n * 2) m (by omega)]; rfl, by rw [Int.pow_one]; omega, .inr (by rw [Int.pow_one]; omega)⟩
    · rw [if_neg c]
      refine down_eq k n m p hm hn hn' hm' (by omega) hp' ?_
      have := pow_pos' k
      have h1 : n * 1 ≤ n * 2 ^ k := Int.mul_le_mul_of_nonneg_left (by omega) (by omega)
      omega
theorem power_eq (n m : Int) (hm : 0 < m) (hn : 0 < n) (hn' : n ≤ 1099511627776) (hm' : m ≤ 1048576) : ∃ p a b, spring_power.f n m = some (p, a, b) ∧ Norm n m p a b := by
  have two41 : (2 : Int) ^ 41 = 2199023255552 := by decide
  obtain ⟨i, h1, h2, h3⟩ := up_eq 41 n m 0 hm hn hn' (by omega) (by omega) (by omega) (by rw [two41]; omega)
  have hb : 0 < m * 2 ^ i := Int.mul_pos hm (pow_pos' i)
  have hb' : m * 2 ^ i ≤ 1099511627776 := by
    rcases h2 with rfl | h2
    · rw [Int.pow_zero]; omega
    · omega
  obtain ⟨j, h4, h5, h6⟩ := down_eq 41 n (m * 2 ^ i) (0 + i) hb hn (by omega) (by omega) (by omega) (by
      rcases Nat.lt_or_ge 1000 i with hi | hi
      · exfalso
        have q := pow_le' (show 41 ≤ i by omega)
        have q3 := Int.mul_le_mul (show (1 : Int) ≤ m by omega) q (by omega) (by omega)
        omega
      · omega) (by rw [two41]; omega)
  refine ⟨0 + (i : Int) - j, n * 2 ^ j, m * 2 ^ i, ?_, i, j, rfl, rfl, by omega, h5, ?_, ?_⟩
  · unfold spring_power.f
    simp only [h1, h4]
  · rcases h6 with rfl | h6
    · rw [Int.pow_zero]; omega
    · exact h6
  · rcases h2 with rfl | h2
    · exact .inl rfl
    · rcases h6 with rfl | h6
      · exact .inr rfl
      · rcases Nat.eq_zero_or_pos j with hj | hj
        · exact .inr hj
        · exfalso
          obtain ⟨j, rfl⟩ : ∃ q, j = q + 1 := ⟨j - 1, by omega⟩
          rw [two_pow] at h6
          have := pow_pos' j
          have h7 : n * 1 ≤ n * 2 ^ j := Int.mul_le_mul_of_nonneg_left (by omega) (by omega)
          rw [show n * (2 * 2 ^ j) = 2 * (n * 2 ^ j) by ac_rfl] at h6
          omega
theorem far_bd {n m p a b : Int} (hm : 0 < m) (hn : 0 < n) (hn' : n ≤ 1099511627776) (hm' : m ≤ 1048576) (h : Norm n m p a b) :
    wrap64 (wrap64 (2458 + wrap64 (1228 * wrap64 (p + 3))) + wrap64 (Int.tdiv (wrap64 (1228 * wrap64 (a - b))) b)) = far p a b := by
  obtain ⟨p1, p2⟩ := h.p_le hm hn hn' hm'
  obtain ⟨q1, q2⟩ := quo_range hm h
  have hb := h.pos hm
  have hab : b ≤ a ∧ a < 2 * b := by obtain ⟨u, v, rfl, rfl, rfl, x1, x2, x3⟩ := h; exact ⟨x1, x2⟩
  have hbb : b ≤ 1099511627776 := by
    obtain ⟨u, v, rfl, rfl, rfl, x1, x2, x3⟩ := h
    rcases x3 with rfl | rfl
    · rw [Int.pow_zero]; omega
    · rw [Int.pow_zero] at x1; omega
  rw [wrap_id (x := p + 3) (by omega) (by omega), wrap_id (x := 1228 * (p + 3)) (by omega) (by omega), wrap_id (x := 2458 + 1228 * (p + 3)) (by omega) (by omega), wrap_id (x := a - b) (by omega) (by omega), wrap_id (x := 1228 * (a - b)) (by omega) (by omega), Int.tdiv_eq_ediv_of_nonneg (show 0 ≤ 1228 * (a - b) by omega)]
  rw [wrap_id (x := 1228 * (a - b) / b) (by omega) (by omega)]
  unfold far
  rw [wrap_id (by omega) (by omega)]
/-- Ideal, of a time that may be and is above 0; else an error. -/
theorem ideal_bad (n d : Int) (hn : -9223372036854775808 ≤ n ∧ n ≤ 9223372036854775807) (h : ¬ (Ok n d ∧ 0 < n)) : Ev (fun k => spring_Ideal.f k n d) (0, 2) := by
  unfold spring_Ideal.f
  refine Ev.bind (check_ev n d hn) ?_
  by_cases c : Ok n d
  · rw [decide_eq_true c]
    exact Ev.pos rfl (Ev.pos (Int.not_lt.1 (fun q => h ⟨c, q⟩)) (Ev.now _))
  · rw [decide_eq_false c]
    exact Ev.neg (by decide) (Ev.now _)
theorem ideal_ok (n d : Int) (h : Ok n d) (h0 : 0 < n) : ∃ p a b, Norm n d p a b ∧ Ev (fun k => spring_Ideal.f k n d) (ideal p a b, 0) := by
  obtain ⟨p, a, b, h1, h2⟩ := power_eq n d (by have := h.1; omega) h0 h.2.2.2.1 h.2.1
  refine ⟨p, a, b, h2, ?_⟩
  have hd : 0 < d := by have := h.1; omega
  have hb := h2.pos hd
  unfold spring_Ideal.f
  refine Ev.bind (check_ev n d ⟨by omega, by have := h.2.2.2.1; omega⟩) ?_
  rw [decide_eq_true h]
  refine Ev.pos rfl (Ev.neg (by omega) ?_)
  rw [h1]
  simp only [Option.bind_some]
  rw [far_bd hd h0 h.2.2.2.1 h.2.1 h2]
  exact Ev.neg (by omega) (Ev.now _)
end Go.Proofs.Ytcbeibmoblgaeaa.Rp
