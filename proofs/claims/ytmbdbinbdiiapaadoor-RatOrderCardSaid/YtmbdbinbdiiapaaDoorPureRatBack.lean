/- The law RatBack of layer 2: for both fractions, right or not, the law answers true (no condition). -/
import Derived.Test.YtmbdbinbdiiapaaDoorStatRatBack
import Derived.Test.YtmbdbinbdiiapaaDoorRatB
namespace Go.Proofs.YtmbdbinbdiiapaaDoor.Pure
open Go.RowKit Go.Proofs.YtmbdbinbdiiapaaDoor.P Go.Proofs.YtmbdbinbdiiapaaDoor.Rp Go.Proofs.YtmbdbinbdiiapaaDoorW.PrintWords Go.Proofs.YtmbdbinbdiiapaaDoorW.PrintLast Go.Proofs.YtmbdbinbdiiapaaDoorW.PrintMore
set_option linter.unusedVariables false
set_option linter.unusedSimpArgs false
theorem back_heads : Ev (fun k => (neumelaw02_heads.f k).bind fun t => some t) true := Ev.some_bind (Ev.of neumelaw02_heads.mono neumelaw02_heads.at)
theorem sum_value {n d m e : Int} (hd : 0 < d) (he : 0 < e) : sumN n d m e * (d * e) = (n * e + m * d) * sumD d e := by
  have g0 := gc_pos (a := d) (show e ≠ 0 by omega)
  have h1 := div_dvd (gc_dvd_l d e)
  have h2 := div_dvd (gc_dvd_r d e)
  unfold sumN sumD
  generalize gc d e = g at *
  generalize Int.tdiv d g = c at *
  generalize Int.tdiv e g = f at *
  subst h1; subst h2
  simp only [Int.add_mul, Int.mul_add]
  congr 1 <;> simp only [Int.mul_assoc, Int.mul_left_comm, Int.mul_comm]
/-- What is added is taken away again. -/
theorem add_sub {n d m e a b : Int} (h1 : Ok n d) (h2 : Ok m e) (h : radd n d m e = (a, b, 0)) : Ok a b ∧ rsub a b m e = (n, d, 0) := by
  unfold radd at h
  rw [if_pos ⟨h1, h2⟩] at h
  have d0 := h1.1
  have e0 := h2.1
  have sb := sum_bd ⟨h1, h2⟩
  obtain ⟨ok, q⟩ := low_ok (by omega) h
  refine ⟨ok, ?_⟩
  have b0 := ok.1
  have h2' : Ok (-m) e := Ok.neg.2 h2
  unfold rsub radd
  rw [if_pos ⟨ok, h2'⟩]
  have sb' := sum_bd (n := a) (d := b) (m := -m) (e := e) ⟨ok, h2'⟩
  refine low_of (by omega) h1 ?_
  have v := sum_value (n := a) (d := b) (m := -m) (e := e) (by omega) (by omega)
  have v' := sum_value (n := n) (d := d) (m := m) (e := e) (by omega) (by omega)
  generalize sumN a b (-m) e = N at *
  generalize sumD b e = D at *
  generalize sumN n d m e = N' at *
  generalize sumD d e = D' at *
  -- a * D' = N' * b, N' * (d e) = (n e + m d) D', N * (b e) = (a e - m b) D
  have z : a * (d * e) = (n * e + m * d) * b := by
    refine Int.eq_of_mul_eq_mul_right (show D' ≠ 0 by omega) ?_
    calc a * (d * e) * D' = (a * D') * (d * e) := by simp only [Int.mul_assoc, Int.mul_left_comm, Int.mul_comm]
      _ = (N' * b) * (d * e) := by rw [q]
      _ = (N' * (d * e)) * b := by simp only [Int.mul_assoc, Int.mul_left_comm, Int.mul_comm]
      _ = (n * e + m * d) * D' * b := by rw [v']
      _ = (n * e + m * d) * b * D' := by rw [Int.mul_assoc, Int.mul_comm D', ← Int.mul_assoc]
  have be : b * e ≠ 0 := Int.mul_ne_zero (by omega) (by omega)
  refine Int.eq_of_mul_eq_mul_right be ?_
  calc N * d * (b * e) = (N * (b * e)) * d := by simp only [Int.mul_assoc, Int.mul_left_comm, Int.mul_comm]
    _ = (a * e + -m * b) * D * d := by rw [v]
    _ = (a * (d * e) + -(m * d) * b) * D := by
      rw [Int.mul_assoc, Int.mul_comm D, ← Int.mul_assoc, Int.add_mul]
      congr 1
      simp only [Int.neg_mul]
      congr 1
      · simp only [Int.mul_assoc, Int.mul_left_comm, Int.mul_comm]
      · congr 1; simp only [Int.mul_assoc, Int.mul_left_comm, Int.mul_comm]
    _ = (n * e * b) * D := by
      rw [z, Int.add_mul (n * e), Int.neg_mul, show n * e * b + m * d * b + -(m * d * b) = n * e * b by omega]
    _ = n * D * (b * e) := by simp only [Int.mul_assoc, Int.mul_left_comm, Int.mul_comm]
/-- What is multiplied by is divided by. -/
theorem mul_div {n d m e a b : Int} (h1 : Ok n d) (h2 : Ok m e) (m0 : m ≠ 0) (h : rmul n d m e = (a, b, 0)) : Ok a b ∧ rdiv a b m e = (n, d, 0) := by
  unfold rmul at h
  rw [if_pos ⟨h1, h2⟩] at h
  have d0 := h1.1
  have e0 := h2.1
  have de : d * e ≠ 0 := Int.mul_ne_zero (by omega) (by omega)
  obtain ⟨ok, q⟩ := low_ok de h
  refine ⟨ok, ?_⟩
  have b0 := ok.1
  unfold rdiv
  rw [if_pos ⟨⟨ok, h2⟩, m0⟩]
  refine low_of (Int.mul_ne_zero (by omega) m0) h1 ?_
  calc a * e * d = a * (d * e) := by simp only [Int.mul_assoc, Int.mul_left_comm, Int.mul_comm]
    _ = n * m * b := q
    _ = n * (b * m) := by simp only [Int.mul_assoc, Int.mul_left_comm, Int.mul_comm]
theorem radd_code (n d m e : Int) (h : Ok n d ∧ Ok m e) : (∃ a b, radd n d m e = (a, b, 0)) ∨ radd n d m e = (0, 0, 3) := by
  unfold radd
  rw [if_pos h]
  rcases low_code (sumN n d m e) (sumD d e) with c | c
  · exact .inl ⟨_, _, by rw [← c]⟩
  · exact .inr c
theorem rmul_code (n d m e : Int) (h : Ok n d ∧ Ok m e) : (∃ a b, rmul n d m e = (a, b, 0)) ∨ rmul n d m e = (0, 0, 3) := by
  unfold rmul
  rw [if_pos h]
  rcases low_code (n * m) (d * e) with c | c
  · exact .inl ⟨_, _, by rw [← c]⟩
  · exact .inr c
theorem RatBack : RatBack_Pure := by
  intro x y hx hy
  obtain ⟨n, d⟩ := x
  obtain ⟨m, e⟩ := y
  have wf : ∀ z : Int, (Lit.int .i64 z).wf = true → -9223372036854775808 ≤ z ∧ z ≤ 9223372036854775807 := fun z h => by simp [Lit.wf, IntKind.min, IntKind.max, IntKind.signed, IntKind.bits] at h; omega
  have h1 := wf _ hx.1
  have h2 := wf _ hy.1
  suffices h : Ev (fun k => neumelaw02_RatBack.f k n d m e) true by
    obtain ⟨k, hk⟩ := h
    exact ⟨k, hk k (Nat.le_refl _)⟩
  have out : Ev (fun k => neumelaw02_RatBack.j0 k true n d m e) true := by
    refine Ev.succ ?_
    simp only [neumelaw02_RatBack.j0]
    exact Ev.pos trivial back_heads
  unfold neumelaw02_RatBack.f
  refine Ev.bind (check_ev n d h1) ?_
  by_cases o1 : Ok n d
  rotate_left
  · rw [decide_eq_false o1]; exact Ev.neg (by decide) out
  rw [decide_eq_true o1]
  refine Ev.pos rfl (Ev.bind (check_ev m e h2) ?_)
  by_cases o2 : Ok m e
  rotate_left
  · rw [decide_eq_false o2]; exact out
  rw [decide_eq_true o2]
  have rest : Ev (fun k => neumelaw02_RatBack.j1 k n d m e) true := by
    refine Ev.succ ?_
    simp only [neumelaw02_RatBack.j1]
    refine Ev.bind (mul_ev n d m e h1 h2) ?_
    have skip : ∀ a b, Ev (fun k => neumelaw02_RatBack.j2 k true n d m e a b) true := by
      intro a b
      refine Ev.succ ?_
      simp only [neumelaw02_RatBack.j2]
      exact Ev.pos trivial back_heads
    rcases rmul_code n d m e ⟨o1, o2⟩ with ⟨a, b, hm⟩ | hm
    · rw [hm]
      refine Ev.pos rfl ?_
      by_cases m0 : m = 0
      · rw [beq_iff_eq.2 m0]; exact skip _ _
      rw [beq_eq_false_iff_ne.2 m0]
      obtain ⟨ok, hq⟩ := mul_div o1 o2 m0 hm
      have ob := ok.2.2.1
      have ob' := ok.2.2.2.1
      refine Ev.succ ?_
      simp only [neumelaw02_RatBack.j2]
      refine Ev.neg (by simp) (Ev.bind (div_ev a b m e (by omega) h2) ?_)
      rw [hq]
      refine Ev.pos rfl (Ev.pos (by simp) (Ev.bind (check_ev a b (by omega)) ?_))
      rw [decide_eq_true ok]
      exact Ev.pos rfl back_heads
    · rw [hm]
      exact Ev.neg (by decide) (skip _ _)
  refine Ev.succ ?_
  simp only [neumelaw02_RatBack.j0]
  refine Ev.neg (by simp) (Ev.bind (add_ev n d m e h1 h2) ?_)
  rcases radd_code n d m e ⟨o1, o2⟩ with ⟨a, b, hs⟩ | hs
  · rw [hs]
    obtain ⟨ok, hq⟩ := add_sub o1 o2 hs
    have ob := ok.2.2.1
    have ob' := ok.2.2.2.1
    refine Ev.pos rfl (Ev.bind (sub_ev a b m e (by omega) h2) ?_)
    rw [hq]
    refine Ev.pos rfl (Ev.neg (by simp) (Ev.bind (check_ev a b (by omega)) ?_))
    rw [decide_eq_true ok]
    exact Ev.pos rfl rest
  · rw [hs]
    exact Ev.neg (by decide) rest
end Go.Proofs.YtmbdbinbdiiapaaDoor.Pure
