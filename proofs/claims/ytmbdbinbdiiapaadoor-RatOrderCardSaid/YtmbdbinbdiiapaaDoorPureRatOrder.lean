/- The law RatOrder of layer 2: for all three fractions, right or not, the law answers true (no condition). -/
import Derived.Test.YtmbdbinbdiiapaaDoorStatRatOrder
import Derived.Test.YtmbdbinbdiiapaaDoorPureRatBack
namespace Go.Proofs.YtmbdbinbdiiapaaDoor.Pure
open Go.RowKit Go.Proofs.YtmbdbinbdiiapaaDoor.P Go.Proofs.YtmbdbinbdiiapaaDoor.Rp Go.Proofs.YtmbdbinbdiiapaaDoorW.PrintWords Go.Proofs.YtmbdbinbdiiapaaDoorW.PrintLast Go.Proofs.YtmbdbinbdiiapaaDoorW.PrintMore
set_option linter.unusedVariables false
set_option linter.unusedSimpArgs false
/-- The sign of a number. -/
def sgn (x : Int) : Int := if x < 0 then -1 else if x > 0 then 1 else 0
theorem rcmp_sgn {n d m e : Int} (h : Ok n d ∧ Ok m e) : rcmp n d m e = sgn (n * e - m * d) := by
  unfold rcmp sgn
  rw [if_pos h]
  split <;> split <;> (try split) <;> (try split) <;> omega
theorem sgn_neg (x : Int) : sgn (-x) = -sgn x := by
  unfold sgn
  split <;> split <;> (try split) <;> (try split) <;> omega
theorem sgn_mul {x y : Int} (h : 0 < y) : sgn (x * y) = sgn x := by
  unfold sgn
  rcases Int.lt_trichotomy x 0 with c | c | c
  · rw [if_pos (Int.mul_neg_of_neg_of_pos c h), if_pos c]
  · subst c; rw [Int.zero_mul]
  · have := Int.mul_pos c h
    rw [if_neg (by omega), if_pos (by omega), if_neg (by omega), if_pos c]
theorem sgn_zero (x : Int) : sgn x = 0 ↔ x = 0 := by
  unfold sgn
  split
  · omega
  · split <;> omega
/-- Sums keep the order. -/
theorem add_order {n d m e p q a b a' b' : Int} (h1 : Ok n d) (h2 : Ok m e) (h3 : Ok p q) (hs : radd n d p q = (a, b, 0)) (hs' : radd m e p q = (a', b', 0)) : rcmp a b a' b' = rcmp n d m e := by
  unfold radd at hs hs'
  rw [if_pos ⟨h1, h3⟩] at hs
  rw [if_pos ⟨h2, h3⟩] at hs'
  have d0 := h1.1
  have e0 := h2.1
  have q0 := h3.1
  have sb := sum_bd ⟨h1, h3⟩
  have sb' := sum_bd ⟨h2, h3⟩
  obtain ⟨ok, r⟩ := low_ok (by omega) hs
  obtain ⟨ok', r'⟩ := low_ok (by omega) hs'
  have b0 := ok.1
  have b0' := ok'.1
  rw [rcmp_sgn ⟨ok, ok'⟩, rcmp_sgn ⟨h1, h2⟩]
  have v := sum_value (n := n) (d := d) (m := p) (e := q) (by omega) (by omega)
  have v' := sum_value (n := m) (d := e) (m := p) (e := q) (by omega) (by omega)
  generalize sumN n d p q = N at *
  generalize sumD d q = D at *
  generalize sumN m e p q = N' at *
  generalize sumD e q = D' at *
  have z : a * (d * q) = (n * q + p * d) * b := by
    refine Int.eq_of_mul_eq_mul_right (show D ≠ 0 by omega) ?_
    calc a * (d * q) * D = (a * D) * (d * q) := by simp only [Int.mul_assoc, Int.mul_left_comm, Int.mul_comm]
      _ = (N * b) * (d * q) := by rw [r]
      _ = (N * (d * q)) * b := by simp only [Int.mul_assoc, Int.mul_left_comm, Int.mul_comm]
      _ = (n * q + p * d) * D * b := by rw [v]
      _ = (n * q + p * d) * b * D := by rw [Int.mul_assoc, Int.mul_comm D, ← Int.mul_assoc]
  have z' : a' * (e * q) = (m * q + p * e) * b' := by
    refine Int.eq_of_mul_eq_mul_right (show D' ≠ 0 by omega) ?_
    calc a' * (e * q) * D' = (a' * D') * (e * q) := by simp only [Int.mul_assoc, Int.mul_left_comm, Int.mul_comm]
      _ = (N' * b') * (e * q) := by rw [r']
      _ = (N' * (e * q)) * b' := by simp only [Int.mul_assoc, Int.mul_left_comm, Int.mul_comm]
      _ = (m * q + p * e) * D' * b' := by rw [v']
      _ = (m * q + p * e) * b' * D' := by rw [Int.mul_assoc, Int.mul_comm D', ← Int.mul_assoc]
  have k1 : 0 < d * q * (e * q) := Int.mul_pos (Int.mul_pos (by omega) (by omega)) (Int.mul_pos (by omega) (by omega))
  have k2 : 0 < b * b' * (q * q) := Int.mul_pos (Int.mul_pos (by omega) (by omega)) (Int.mul_pos (by omega) (by omega))
  rw [← sgn_mul (x := a * b' - a' * b) k1, ← sgn_mul (x := n * e - m * d) k2]
  congr 1
  calc (a * b' - a' * b) * (d * q * (e * q)) = (a * (d * q)) * (b' * (e * q)) - (a' * (e * q)) * (b * (d * q)) := by
        rw [Int.sub_mul]; congr 1 <;> simp only [Int.mul_assoc, Int.mul_left_comm, Int.mul_comm]
    _ = ((n * q + p * d) * b) * (b' * (e * q)) - ((m * q + p * e) * b') * (b * (d * q)) := by rw [z, z']
    _ = (n * e - m * d) * (b * b' * (q * q)) := by
        have t : p * d * b * (b' * (e * q)) = p * e * b' * (b * (d * q)) := by simp only [Int.mul_assoc, Int.mul_left_comm, Int.mul_comm]
        rw [Int.sub_mul, Int.add_mul, Int.add_mul, Int.add_mul, Int.add_mul, t]
        have t1 : n * q * b * (b' * (e * q)) = n * e * (b * b' * (q * q)) := by simp only [Int.mul_assoc, Int.mul_left_comm, Int.mul_comm]
        have t2 : m * q * b' * (b * (d * q)) = m * d * (b * b' * (q * q)) := by simp only [Int.mul_assoc, Int.mul_left_comm, Int.mul_comm]
        rw [t1, t2]
        omega
theorem gc_one (n : Int) : gc n 1 = 1 := by unfold gc; rw [Int.gcd_one]; rfl
theorem RatOrder : RatOrder_Pure := by
  intro x y z hx hy hz
  obtain ⟨n, d⟩ := x
  obtain ⟨m, e⟩ := y
  obtain ⟨p, q⟩ := z
  have wf : ∀ z : Int, (Lit.int .i64 z).wf = true → -9223372036854775808 ≤ z ∧ z ≤ 9223372036854775807 := fun z h => by simp [Lit.wf, IntKind.min, IntKind.max, IntKind.signed, IntKind.bits] at h; omega
  have h1 := wf _ hx.1
  have h2 := wf _ hy.1
  have h3 := wf _ hz.1
  suffices h : Ev (fun k => neumelaw02_RatOrder.f k n d m e p q) true by
    obtain ⟨k, hk⟩ := h
    exact ⟨k, hk k (Nat.le_refl _)⟩
  have out : Ev (fun k => neumelaw02_RatOrder.j0 k true n d m e p q) true := by
    refine Ev.succ ?_
    simp only [neumelaw02_RatOrder.j0]
    exact Ev.pos trivial back_heads
  unfold neumelaw02_RatOrder.f
  refine Ev.bind (check_ev n d h1) ?_
  by_cases o1 : Ok n d
  rotate_left
  · rw [decide_eq_false o1]; exact Ev.neg (by decide) out
  rw [decide_eq_true o1]
  refine Ev.pos rfl (Ev.bind (check_ev m e h2) ?_)
  by_cases o2 : Ok m e
  rotate_left
  · rw [decide_eq_false o2]; exact Ev.neg (by decide) out
  rw [decide_eq_true o2]
  refine Ev.pos rfl (Ev.bind (check_ev p q h3) ?_)
  by_cases o3 : Ok p q
  rotate_left
  · rw [decide_eq_false o3]; exact out
  rw [decide_eq_true o3]
  have cs : ∀ x : Int, -1 ≤ sgn x ∧ sgn x ≤ 1 := fun x => by unfold sgn; split <;> (try split) <;> omega
  have ca := rcmp_sgn ⟨o1, o2⟩
  have cb := rcmp_sgn ⟨o2, o1⟩
  have cab : rcmp n d m e = -rcmp m e n d := by rw [ca, cb, ← sgn_neg]; congr 1; omega
  have rest : Ev (fun k => neumelaw02_RatOrder.j2 k false n d) true := by
    refine Ev.succ ?_
    simp only [neumelaw02_RatOrder.j2]
    have fb := floor_bd o1
    have d0 := o1.1
    have d1 := o1.2.1
    have e1 := Int.emod_add_mul_ediv n d
    have e2 := Int.emod_nonneg n (show d ≠ 0 by omega)
    have e3 := Int.emod_lt_of_pos n (show 0 < d by omega)
    refine Ev.neg (by simp) (Ev.bind (floor_ev n d h1) ?_)
    have ef : rfloor n d = n / d := if_pos o1
    rw [ef]
    generalize hf : n / d = f at *
    have fl : -1099511627776 ≤ f := by
      have q1 := o1.2.2.1
      rcases Int.lt_or_le f (-1099511627776) with c | c
      · have : d * f ≤ 1 * f := Int.mul_le_mul_of_nonpos_right (show 1 ≤ d by omega) (by omega)
        rcases Int.lt_or_le 1 d with c' | c'
        · have : d * f ≤ 2 * f := Int.mul_le_mul_of_nonpos_right (show 2 ≤ d by omega) (by omega)
          have : d * (f + 1) ≤ 2 * (f + 1) := Int.mul_le_mul_of_nonpos_right (show 2 ≤ d by omega) (by omega)
          rw [Int.mul_add] at this
          omega
        · obtain rfl : d = 1 := by omega
          omega
      · exact c
    have of1 : Ok f 1 := ⟨by omega, by omega, by omega, by omega, gc_one f⟩
    refine Ev.bind (cmp_ev f 1 n d (by omega) h1) ?_
    have c1 : rcmp f 1 n d ≤ 0 := by
      rw [rcmp_sgn ⟨of1, o1⟩]
      unfold sgn
      split
      · omega
      · rw [if_neg]; omega
        rw [Int.mul_comm f]; omega
    refine Ev.pos c1 ?_
    by_cases ft : f = 1099511627776
    · exact Ev.pos ft back_heads
    refine Ev.neg ft ?_
    rw [wrap_id (x := f + 1) (by omega) (by omega)]
    have of2 : Ok (f + 1) 1 := ⟨by omega, by omega, by omega, by omega, gc_one _⟩
    refine Ev.bind (cmp_ev n d (f + 1) 1 h1 (by omega)) ?_
    refine Ev.pos ?_ back_heads
    rw [rcmp_sgn ⟨o1, of2⟩]
    unfold sgn
    rw [if_pos]; omega
    rw [Int.add_mul, Int.mul_comm f]; omega
  refine Ev.succ ?_
  simp only [neumelaw02_RatOrder.j0]
  refine Ev.neg (by simp) (Ev.bind (cmp_ev n d m e h1 h2) (Ev.bind (cmp_ev m e n d h2 h1) ?_))
  rw [wrap_id (x := -rcmp m e n d) (by have := cs (m * d - n * e); omega) (by have := cs (m * d - n * e); omega)]
  refine Ev.pos cab ?_
  have eqv : ((rcmp n d m e == 0) != (n == m && (d == e))) = false := by
    by_cases c : n = m ∧ d = e
    · obtain ⟨rfl, rfl⟩ := c
      rw [ca, show n * d - n * d = 0 by omega]
      simp [sgn]
    · have : rcmp n d m e ≠ 0 := by
        rw [ca]
        intro h
        have := (sgn_zero _).1 h
        exact c (same (by have := o1.1; omega) (by have := o2.1; omega) o1.2.2.2.2 o2.2.2.2.2 (by omega))
      rw [beq_eq_false_iff_ne.2 this]
      by_cases c1 : n = m
      · have c2 : d ≠ e := fun q => c ⟨c1, q⟩
        rw [beq_eq_false_iff_ne.2 c2, Bool.and_false]; rfl
      · rw [beq_eq_false_iff_ne.2 c1, Bool.false_and]; rfl
  rw [eqv]
  refine Ev.succ ?_
  simp only [neumelaw02_RatOrder.j1]
  refine Ev.neg (by simp) (Ev.bind (add_ev n d p q h1 h3) (Ev.bind (add_ev m e p q h2 h3) ?_))
  rcases radd_code n d p q ⟨o1, o3⟩ with ⟨a, b, hs⟩ | hs
  rotate_left
  · rw [hs]; exact Ev.neg (by decide) rest
  rcases radd_code m e p q ⟨o2, o3⟩ with ⟨a', b', hs'⟩ | hs'
  rotate_left
  · rw [hs']; rw [hs]; exact Ev.pos rfl (Ev.neg (by decide) rest)
  obtain ⟨ok, _⟩ := add_sub o1 o3 hs
  obtain ⟨ok', _⟩ := add_sub o2 o3 hs'
  have hc := add_order o1 o2 o3 hs hs'
  have ob := ok.2.2.1
  have ob' := ok.2.2.2.1
  have oc := ok'.2.2.1
  have oc' := ok'.2.2.2.1
  rw [hs, hs']
  refine Ev.pos rfl (Ev.pos rfl (Ev.bind (cmp_ev a b a' b' (by omega) (by omega)) ?_))
  rw [hc, bne_self_eq_false]
  exact rest
end Go.Proofs.YtmbdbinbdiiapaaDoor.Pure
