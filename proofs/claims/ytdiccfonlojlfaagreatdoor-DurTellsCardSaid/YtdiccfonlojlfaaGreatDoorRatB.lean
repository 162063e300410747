/- Fractions: products, quotients, roundings and rests of rat and its reference: plain values. -/
import Derived.Test.YtdiccfonlojlfaaGreatDoorPx3
import Derived.Test.YtdiccfonlojlfaaGreatDoorPx4
import Derived.Test.YtdiccfonlojlfaaGreatDoorPx7
import Derived.Test.YtdiccfonlojlfaaGreatDoorPx8
import Derived.Test.YtdiccfonlojlfaaGreatDoorRatA
namespace Go.Proofs.YtdiccfonlojlfaaGreatDoor.Rp
open Go.RowKit Go.Proofs.YtdiccfonlojlfaaGreatDoor.P Go.Proofs.YtdiccfonlojlfaaGreatDoorW.PrintWords Go.Proofs.YtdiccfonlojlfaaGreatDoorW.PrintLast Go.Proofs.YtdiccfonlojlfaaGreatDoorW.PrintMore
set_option linter.unusedVariables false
set_option linter.unusedSimpArgs false


theorem gc_cop {a b : Int} : gc a b = 1 ↔ Nat.Coprime a.natAbs b.natAbs := by unfold gc Int.gcd Nat.Coprime; omega
theorem gc_mul_l {a b c : Int} (h1 : gc a c = 1) (h2 : gc b c = 1) : gc (a * b) c = 1 := by
  rw [gc_cop] at *
  rw [Int.natAbs_mul]
  exact Nat.Coprime.mul_left h1 h2
theorem gc_mul_r {a b c : Int} (h1 : gc a b = 1) (h2 : gc a c = 1) : gc a (b * c) = 1 := by
  rw [gc_comm]; exact gc_mul_l (by rw [gc_comm]; exact h1) (by rw [gc_comm]; exact h2)
theorem gc_part_l {a b c d : Int} (h : gc (a * b) (c * d) = 1) : gc a c = 1 := by
  rw [gc_cop] at *
  rw [Int.natAbs_mul, Int.natAbs_mul] at h
  exact Nat.Coprime.coprime_mul_right (Nat.Coprime.coprime_mul_right_right h)
/-- What is left of two numbers behind a division by what they have in common has nothing in common. -/
theorem gc_quo {a b x y g : Int} (hg : g = gc a b) (g0 : 0 < g) (ha : x * g = a) (hb : y * g = b) : gc x y = 1 := by
  have h : gc a b = gc x y * g := by
    unfold gc
    rw [← ha, ← hb, Int.gcd_mul_right, Int.natCast_mul, show ((g.natAbs : Nat) : Int) = g by omega]
  exact Int.eq_of_mul_eq_mul_right (show g ≠ 0 by omega) (by omega)
theorem quo_pos {y g b : Int} (g0 : 0 < g) (b0 : 0 < b) (h : y * g = b) : 0 < y := by
  refine (Int.lt_or_le 0 y).elim id (fun c => ?_)
  have := Int.mul_nonpos_of_nonpos_of_nonneg c (Int.le_of_lt g0)
  omega
/-- Only the value counts. -/
theorem low_ratio {n d m e : Int} (hd : d ≠ 0) (he : e ≠ 0) (h : n * e = m * d) : low n d = low m e := by
  obtain ⟨a, b, p1, p2, _, _, b0, g1, q1⟩ := low_parts (n := n) hd
  obtain ⟨a', b', p1', p2', _, _, b0', g1', q1'⟩ := low_parts (n := m) he
  have hx : (a * b') * (d * e) = (a' * b) * (d * e) := by
    calc (a * b') * (d * e) = (a * d) * (b' * e) := by simp only [Int.mul_assoc, Int.mul_left_comm, Int.mul_comm]
      _ = (n * b) * (b' * e) := by rw [q1]
      _ = (n * e) * (b * b') := by simp only [Int.mul_assoc, Int.mul_left_comm, Int.mul_comm]
      _ = (m * d) * (b * b') := by rw [h]
      _ = (m * b') * (b * d) := by simp only [Int.mul_assoc, Int.mul_left_comm, Int.mul_comm]
      _ = (a' * e) * (b * d) := by rw [q1']
      _ = (a' * b) * (d * e) := by simp only [Int.mul_assoc, Int.mul_left_comm, Int.mul_comm]
  have hde : d * e ≠ 0 := Int.mul_ne_zero hd he
  have hy := Int.eq_of_mul_eq_mul_right hde hx
  obtain ⟨rfl, rfl⟩ := same b0 b0' g1 g1' hy
  unfold low
  rw [p1, p2, p1', p2']
theorem low_self {n d : Int} (hd : 0 < d) (hg : gc n d = 1) : low n d = if ab n > 1099511627776 ∨ d > 1048576 then (0, 0, 3) else (n, d, 0) := by
  have e : lowG n d = 1 := by unfold lowG; rw [if_neg (by omega)]; exact hg
  unfold low
  rw [e, Int.tdiv_one, Int.tdiv_one]
theorem low_ok_self {n d : Int} (h : Ok n d) : low n d = (n, d, 0) := by
  rw [low_self (by have := h.1; omega) h.2.2.2.2, if_neg]
  have := ab_le (x := n) (m := 1099511627776)
  have := h.1; have := h.2.1; have := h.2.2.1; have := h.2.2.2.1
  omega
/-- What comes to a fraction that may be. -/
theorem low_of {n d a b : Int} (hd : d ≠ 0) (h : Ok a b) (e : n * b = a * d) : low n d = (a, b, 0) := by
  rw [low_ratio hd (show b ≠ 0 by have := h.1; omega) e, low_ok_self h]
theorem ok_zero : Ok 0 1 := by decide

/-- The parts of a product, behind a division crosswise. -/
theorem cross {n d m e : Int} (d0 : 0 < d) (e0 : 0 < e) (h1 : gc n d = 1) (h2 : gc m e = 1) :
    ∃ a b c f : Int, Int.tdiv n (gc n e) = a ∧ Int.tdiv m (gc m d) = b ∧ Int.tdiv d (gc m d) = c ∧ Int.tdiv e (gc n e) = f ∧ 0 < gc n e ∧ 0 < gc m d ∧ 0 < c ∧ 0 < f ∧ c ≤ d ∧ f ≤ e ∧ gc (a * b) (c * f) = 1 ∧ (a * b) * (d * e) = (n * m) * (c * f) ∧ a.natAbs ≤ n.natAbs ∧ b.natAbs ≤ m.natAbs := by
  have gp := gc_pos (a := n) (show e ≠ 0 by omega)
  have hp := gc_pos (a := m) (show d ≠ 0 by omega)
  have ea := div_dvd (gc_dvd_l n e)
  have eb := div_dvd (gc_dvd_l m d)
  have ec := div_dvd (gc_dvd_r m d)
  have ef := div_dvd (gc_dvd_r n e)
  have la : (Int.tdiv n (gc n e)).natAbs ≤ n.natAbs := by rw [Int.natAbs_tdiv]; exact Nat.div_le_self _ _
  have lb : (Int.tdiv m (gc m d)).natAbs ≤ m.natAbs := by rw [Int.natAbs_tdiv]; exact Nat.div_le_self _ _
  have lc : (Int.tdiv d (gc m d)).natAbs ≤ d.natAbs := by rw [Int.natAbs_tdiv]; exact Nat.div_le_self _ _
  have lf : (Int.tdiv e (gc n e)).natAbs ≤ e.natAbs := by rw [Int.natAbs_tdiv]; exact Nat.div_le_self _ _
  generalize hg : gc n e = g at *
  generalize hh : gc m d = h at *
  refine ⟨_, _, _, _, rfl, rfl, rfl, rfl, gp, hp, ?_⟩
  generalize Int.tdiv n g = a at *
  generalize Int.tdiv m h = b at *
  generalize Int.tdiv d h = c at *
  generalize Int.tdiv e g = f at *
  have c0 := quo_pos hp d0 ec
  have f0 := quo_pos gp e0 ef
  refine ⟨c0, f0, by omega, by omega, ?_, ?_, la, lb⟩
  · have k1 : gc a f = 1 := gc_quo hg.symm gp ea ef
    have k2 : gc b c = 1 := gc_quo hh.symm hp eb ec
    have k3 : gc a c = 1 := gc_part_l (b := g) (d := h) (by rw [ea, ec]; exact h1)
    have k4 : gc b f = 1 := gc_part_l (b := h) (d := g) (by rw [eb, ef]; exact h2)
    exact gc_mul_l (gc_mul_r k3 k1) (gc_mul_r k2 k4)
  · rw [← ea, ← eb, ← ec, ← ef]
    simp only [Int.mul_assoc, Int.mul_left_comm, Int.mul_comm]
theorem ab_mul (a b : Int) : ab (a * b) = ab a * ab b := by rw [ab_eq, ab_eq, ab_eq, Int.natAbs_mul, Int.natCast_mul]
/-- A test by division is one by multiplication. -/
theorem over_iff {x y M : Int} (hM : 0 ≤ M) (hy : 0 < y) : x > Int.tdiv M y ↔ x * y > M := by
  rw [Int.tdiv_eq_ediv_of_nonneg hM]
  constructor
  · intro h
    exact Int.lt_mul_of_ediv_lt hy h
  · intro h
    exact Int.ediv_lt_of_lt_mul hy h

theorem low_cross {n d m e a b c f : Int} (d0 : 0 < d) (e0 : 0 < e) (c0 : 0 < c) (f0 : 0 < f) (hg : gc (a * b) (c * f) = 1) (hq : (a * b) * (d * e) = (n * m) * (c * f)) :
    low (n * m) (d * e) = if ab a * ab b > 1099511627776 ∨ c * f > 1048576 then (0, 0, 3) else (a * b, c * f, 0) := by
  have cf := Int.mul_pos c0 f0
  have de := Int.mul_pos d0 e0
  rw [← ab_mul, ← low_self cf hg]
  exact (low_ratio (by omega) (by omega) hq).symm
theorem pj_yes (k : Nat) (a b c f : Int) : Ev (fun k => rat_product.j0 k a b c f true) (0, 0, 3) := by
  refine Ev.succ ?_
  simp only [rat_product.j0, rat_zero.f]
  exact Ev.pos trivial (Ev.now _)
theorem ab_pos {b : Int} (h : b ≠ 0) : 0 < ab b := by rw [ab_eq]; omega
theorem pj_no (a b c f : Int) (h1 : ab a * ab b ≤ 1099511627776) (h2 : c * f ≤ 1048576) (h3 : 0 < c * f) : Ev (fun k => rat_product.j0 k a b c f false) (a * b, c * f, 0) := by
  have h4 := (ab_le (x := a * b) (m := 1099511627776)).1 (by rw [ab_mul]; exact h1)
  refine Ev.succ ?_
  simp only [rat_product.j0]
  rw [wrap_id (x := a * b) (by omega) (by omega), wrap_id (x := c * f) (by omega) (by omega), sized_eq _ _ (by omega), ab_mul, if_neg (show ¬ (ab a * ab b > 1099511627776 ∨ c * f > 1048576) by omega)]
  exact Ev.neg (by simp) (Ev.now _)
theorem pj_flag (a b c f : Int) (f0 : 0 < f) (c0 : 0 < c) (h1 : ab a * ab b ≤ 1099511627776) : Ev (fun k => rat_product.j0 k a b c f (decide (c > Int.tdiv 1048576 f))) (if ab a * ab b > 1099511627776 ∨ c * f > 1048576 then (0, 0, 3) else (a * b, c * f, 0)) := by
  have o := over_iff (x := c) (y := f) (M := 1048576) (by omega) f0
  by_cases h : c * f > 1048576
  · rw [if_pos (Or.inr h), decide_eq_true (o.2 h)]; exact pj_yes 0 a b c f
  · rw [if_neg (by omega), decide_eq_false (fun q => h (o.1 q))]
    exact pj_no a b c f h1 (by omega) (Int.mul_pos c0 f0)
theorem product_ev (n d m e : Int) (hn : -1099511627776 ≤ n ∧ n ≤ 1099511627776) (hm : -1099511627776 ≤ m ∧ m ≤ 1099511627776) (hd : 0 < d ∧ d ≤ 1099511627776) (he : 0 < e ∧ e ≤ 1099511627776) (h1 : gc n d = 1) (h2 : gc m e = 1) : Ev (fun k => rat_product.f k n d m e) (low (n * m) (d * e)) := by
  obtain ⟨a, b, c, f, ea, eb, ec, ef, g0, h0, c0, f0, cd, fe, hg, hq, la, lb⟩ := cross hd.1 he.1 h1 h2
  rw [low_cross hd.1 he.1 c0 f0 hg hq]
  have ba : -1099511627776 ≤ a ∧ a ≤ 1099511627776 := by omega
  have bb : -1099511627776 ≤ b ∧ b ≤ 1099511627776 := by omega
  unfold rat_product.f
  rw [abs_eq n (by omega) (by omega), abs_eq m (by omega) (by omega)]
  refine Ev.bindc rfl (Ev.bind (common_ev' (ab n) e (ab_nn _) (by omega)) (Ev.bindc rfl (Ev.bind (common_ev' (ab m) d (ab_nn _) (by omega)) ?_)))
  rw [gc_ab_l, gc_ab_l, ea, eb, ec, ef, wrap_id (x := a) (by omega) (by omega), wrap_id (x := b) (by omega) (by omega), wrap_id (x := c) (by omega) (by omega), wrap_id (x := f) (by omega) (by omega)]
  have t1 := tdiv_bd (a := 1048576) (b := f) (m := 1048576) (by omega) (by omega)
  rw [wrap_id (x := Int.tdiv 1048576 f) (by omega) (by omega)]
  refine Ev.neg (by omega) (Ev.neg (by omega) ?_)
  by_cases b0 : b = 0
  · subst b0
    refine Ev.pos rfl (Ev.neg (by omega) ?_)
    refine pj_flag a 0 c f f0 c0 ?_
    rw [show ab 0 = 0 from rfl, Int.mul_zero]; omega
  · have pb := ab_pos b0
    have t2 := tdiv_bd (a := 1099511627776) (b := ab b) (m := 1099511627776) (by omega) (by omega)
    have o := over_iff (x := ab a) (y := ab b) (M := 1099511627776) (by omega) pb
    refine Ev.neg b0 ?_
    rw [abs_eq a (by omega) (by omega), abs_eq b (by omega) (by omega)]
    simp only [Option.bind_some]
    rw [wrap_id (x := Int.tdiv 1099511627776 (ab b)) (by omega) (by omega)]
    refine Ev.neg (by omega) ?_
    by_cases h : ab a * ab b > 1099511627776
    · rw [if_pos (Or.inl h)]
      exact Ev.pos (o.2 h) (pj_yes 0 a b c f)
    · exact Ev.neg (fun q => h (o.1 q)) (Ev.neg (by omega) (pj_flag a b c f f0 c0 (by omega)))
/-- The product of two. -/
def rmul (n d m e : Int) : Int × Int × Int := if Ok n d ∧ Ok m e then low (n * m) (d * e) else (0, 0, 2)
/-- The quotient of two. -/
def rdiv (n d m e : Int) : Int × Int × Int := if (Ok n d ∧ Ok m e) ∧ m ≠ 0 then low (n * e) (d * m) else (0, 0, 2)
theorem low_zero {d : Int} (hd : d ≠ 0) : low 0 d = (0, 1, 0) := low_of hd ok_zero (by omega)
theorem mul_ev (n d m e : Int) (hn : -9223372036854775808 ≤ n ∧ n ≤ 9223372036854775807) (hm : -9223372036854775808 ≤ m ∧ m ≤ 9223372036854775807) : Ev (fun k => rat_Mul.f k n d m e) (rmul n d m e) := by
  unfold rat_Mul.f
  refine Ev.bind (both_ev n d m e hn hm) ?_
  unfold rmul
  by_cases h : Ok n d ∧ Ok m e
  · rw [decide_eq_true h, if_pos h]
    refine Ev.pos rfl ?_
    obtain ⟨⟨a1, a2, a3, a4, a5⟩, b1, b2, b3, b4, b5⟩ := h
    have de := Int.mul_pos (show 0 < d by omega) (show 0 < e by omega)
    have yes : n * m = 0 → Ev (fun k => rat_Mul.j0 k true n d m e) (low (n * m) (d * e)) := by
      intro hz
      rw [hz, low_zero (by omega)]
      refine Ev.succ ?_
      simp only [rat_Mul.j0, rat_whole.f]
      exact Ev.pos trivial (Ev.now _)
    by_cases n0 : n = 0
    · exact Ev.pos n0 (yes (by rw [n0, Int.zero_mul]))
    · refine Ev.neg n0 ?_
      by_cases m0 : m = 0
      · rw [beq_iff_eq.2 m0]; exact yes (by rw [m0, Int.mul_zero])
      · rw [beq_eq_false_iff_ne.2 m0]
        refine Ev.succ ?_
        simp only [rat_Mul.j0]
        exact Ev.neg (by simp) (Ev.bind (product_ev n d m e (by omega) (by omega) (by omega) (by omega) a5 b5) (Ev.now _))
  · rw [decide_eq_false h, if_neg h]
    exact Ev.neg (by decide) (Ev.now _)
theorem Ok.zero {n d : Int} (h : Ok n d) (h0 : n = 0) : d = 1 := by
  obtain ⟨a1, a2, a3, a4, a5⟩ := h
  subst h0
  unfold gc at a5
  rw [Int.zero_gcd] at a5
  omega
theorem low_over {n d m e a b c f : Int} (hl : low (n * m) (d * e) = if ab a * ab b > 1099511627776 ∨ c * f > 1048576 then (0, 0, 3) else (a * b, c * f, 0)) (h : ab a * ab b > 1099511627776 ∨ c * f > 1048576) : low (n * m) (d * e) = (0, 0, 3) := by rw [hl, if_pos h]
theorem ab_self {x : Int} (h : 0 ≤ x) : ab x = x := by unfold ab; rw [if_neg (by omega)]
/-- The parts of a quotient, behind a division by what is alike above, and below. -/
theorem level {n d m e : Int} (d0 : 0 < d) (e0 : 0 < e) (m0 : m ≠ 0) (h1 : gc n d = 1) (h2 : gc m e = 1) :
    ∃ a b c f : Int, Int.tdiv n (gc n m) = a ∧ Int.tdiv e (gc d e) = b ∧ Int.tdiv d (gc d e) = c ∧ Int.tdiv m (gc n m) = f ∧ 0 < gc n m ∧ 0 < gc d e ∧ 0 < c ∧ 0 < b ∧ f ≠ 0 ∧ c ≤ d ∧ b ≤ e ∧ gc (a * b) (c * f) = 1 ∧ (a * b) * (d * m) = (n * e) * (c * f) ∧ a.natAbs ≤ n.natAbs ∧ f.natAbs ≤ m.natAbs := by
  have gp := gc_pos (a := n) m0
  have hp := gc_pos (a := d) (show e ≠ 0 by omega)
  have ea := div_dvd (gc_dvd_l n m)
  have ef := div_dvd (gc_dvd_r n m)
  have ec := div_dvd (gc_dvd_l d e)
  have eb := div_dvd (gc_dvd_r d e)
  have la : (Int.tdiv n (gc n m)).natAbs ≤ n.natAbs := by rw [Int.natAbs_tdiv]; exact Nat.div_le_self _ _
  have lb : (Int.tdiv e (gc d e)).natAbs ≤ e.natAbs := by rw [Int.natAbs_tdiv]; exact Nat.div_le_self _ _
  have lc : (Int.tdiv d (gc d e)).natAbs ≤ d.natAbs := by rw [Int.natAbs_tdiv]; exact Nat.div_le_self _ _
  have lf : (Int.tdiv m (gc n m)).natAbs ≤ m.natAbs := by rw [Int.natAbs_tdiv]; exact Nat.div_le_self _ _
  generalize hg : gc n m = g at *
  generalize hh : gc d e = h at *
  refine ⟨_, _, _, _, rfl, rfl, rfl, rfl, gp, hp, ?_⟩
  generalize Int.tdiv n g = a at *
  generalize Int.tdiv m g = f at *
  generalize Int.tdiv d h = c at *
  generalize Int.tdiv e h = b at *
  have c0 := quo_pos hp d0 ec
  have b0 := quo_pos hp e0 eb
  refine ⟨c0, b0, fun q => m0 (by rw [← ef, q, Int.zero_mul]), by omega, by omega, ?_, ?_, la, lf⟩
  · have k1 : gc a f = 1 := gc_quo hg.symm gp ea ef
    have k2 : gc c b = 1 := gc_quo hh.symm hp ec eb
    have k3 : gc a c = 1 := gc_part_l (b := g) (d := h) (by rw [ea, ec]; exact h1)
    have k4 : gc f b = 1 := gc_part_l (b := g) (d := h) (by rw [ef, eb]; exact h2)
    exact gc_mul_l (gc_mul_r k3 k1) (gc_mul_r (by rw [gc_comm]; exact k2) (by rw [gc_comm]; exact k4))
  · rw [← ea, ← eb, ← ec, ← ef]
    simp only [Int.mul_assoc, Int.mul_left_comm, Int.mul_comm]
/-- A fraction of two numbers. -/
def rof (n d : Int) : Int × Int × Int := if d ≠ 0 ∧ (-1152921504606846976 ≤ n ∧ n ≤ 1152921504606846976) ∧ -1152921504606846976 ≤ d ∧ d ≤ 1152921504606846976 then low n d else (0, 0, 2)
theorem of_ev (n d : Int) : Ev (fun k => rat_Of.f k n d) (rof n d) := by
  unfold rat_Of.f
  have bad : ¬ (d ≠ 0 ∧ (-1152921504606846976 ≤ n ∧ n ≤ 1152921504606846976) ∧ -1152921504606846976 ≤ d ∧ d ≤ 1152921504606846976) → Ev (fun k => rat_Of.j0 k n d true) (rof n d) := by
    intro h
    unfold rof
    rw [if_neg h]
    refine Ev.succ ?_
    simp only [rat_Of.j0, rat_zero.f]
    exact Ev.pos trivial (Ev.now _)
  by_cases c1 : d = 0
  · exact Ev.pos c1 (bad (fun q => q.1 c1))
  refine Ev.neg c1 ?_
  by_cases c2 : n < -1152921504606846976
  · exact Ev.pos c2 (bad (fun q => by omega))
  refine Ev.neg c2 ?_
  by_cases c3 : n > 1152921504606846976
  · exact Ev.pos c3 (bad (fun q => by omega))
  refine Ev.neg c3 ?_
  by_cases c4 : d < -1152921504606846976
  · exact Ev.pos c4 (bad (fun q => by omega))
  refine Ev.neg c4 ?_
  by_cases c5 : d > 1152921504606846976
  · rw [decide_eq_true c5]; exact bad (fun q => by omega)
  rw [decide_eq_false c5]
  unfold rof
  rw [if_pos (by omega)]
  refine Ev.succ ?_
  simp only [rat_Of.j0]
  exact Ev.neg (by simp) (Ev.bind (lowest_ev n d c1 (by omega) (by omega)) (Ev.now _))
/-- Rounded down. -/
def rfloor (n d : Int) : Int := if Ok n d then n / d else 0
theorem tdiv_down {n d : Int} (d0 : 0 < d) : n / d = (if n.tmod d < 0 then Int.tdiv n d - 1 else Int.tdiv n d) := by
  have q1 := Int.tdiv_mul_add_tmod n d
  have q2 := Int.emod_add_mul_ediv n d
  have q3 := Int.emod_nonneg n (show d ≠ 0 by omega)
  have q4 := Int.emod_lt_of_pos n d0
  have q5 : n.tmod d < d := Int.tmod_lt_of_pos n d0
  have q6 : -d < n.tmod d := by
    have := Int.tmod_lt_of_pos (-n) d0
    rw [Int.neg_tmod] at this
    omega
  have key : ∀ x y : Int, -d < d * x - d * y → d * x - d * y < d → x = y := by
    intro x y h h'
    rw [← Int.mul_sub] at h h'
    rcases Int.lt_trichotomy (x - y) 0 with c | c | c
    · have := Int.mul_le_mul_of_nonneg_left (show x - y ≤ -1 by omega) (Int.le_of_lt d0)
      omega
    · omega
    · have := Int.mul_le_mul_of_nonneg_left (show 1 ≤ x - y by omega) (Int.le_of_lt d0)
      omega
  rw [Int.mul_comm] at q1
  split
  · refine key _ _ ?_ ?_ <;> (rw [Int.mul_sub]; omega)
  · refine key _ _ ?_ ?_ <;> omega
theorem floor_bd {n d : Int} (h : Ok n d) : -1099511627777 ≤ n / d ∧ n / d ≤ 1099511627776 := by
  obtain ⟨a1, a2, a3, a4, a5⟩ := h
  have t := tdiv_bd (a := n) (b := d) (m := 1099511627776) (by omega) (by omega)
  rw [tdiv_down (by omega)]
  split <;> omega
theorem floor_ev (n d : Int) (hn : -9223372036854775808 ≤ n ∧ n ≤ 9223372036854775807) : Ev (fun k => rat_Floor.f k n d) (rfloor n d) := by
  unfold rat_Floor.f
  refine Ev.bind (check_ev n d hn) ?_
  unfold rfloor
  by_cases h : Ok n d
  rotate_left
  · rw [decide_eq_false h, if_neg h]
    exact Ev.neg (by decide) (Ev.now _)
  rw [decide_eq_true h, if_pos h]
  obtain ⟨a1, a2, a3, a4, a5⟩ := h
  have t := tdiv_bd (a := n) (b := d) (m := 1099511627776) (by omega) (by omega)
  have q1 := Int.tdiv_mul_add_tmod n d
  have q5 : n < 0 → n.tmod d ≤ 0 := fun c => by
    have := Int.tmod_nonneg (a := -n) d (by omega)
    rw [Int.neg_tmod] at this
    omega
  have q6 : 0 ≤ n → 0 ≤ n.tmod d := fun c => Int.tmod_nonneg d c
  have bm : n < 0 → n ≤ Int.tdiv n d * d ∧ Int.tdiv n d * d ≤ 0 := fun c => by
    have := q5 c
    refine ⟨by omega, ?_⟩
    refine Int.mul_nonpos_of_nonpos_of_nonneg ?_ (by omega)
    have := Int.tdiv_nonneg (a := -n) (b := d) (by omega) (by omega)
    rw [Int.neg_tdiv] at this
    omega
  rw [tdiv_down (show 0 < d by omega), wrap_id (x := Int.tdiv n d) (by omega) (by omega), wrap_id (x := Int.tdiv n d - 1) (by omega) (by omega)]
  refine Ev.pos rfl (Ev.neg (by omega) ?_)
  by_cases c : n < 0
  · have := bm c
    rw [wrap_id (x := Int.tdiv n d * d) (by omega) (by omega)]
    refine Ev.pos c ?_
    have := q5 c
    by_cases c' : n = Int.tdiv n d * d
    · exact Ev.to (Ev.pos c' (Ev.now _)) (if_neg (show ¬ n.tmod d < 0 by omega)).symm
    · exact Ev.to (Ev.neg c' (Ev.now _)) (if_pos (show n.tmod d < 0 by omega)).symm
  · have := q6 (by omega)
    exact Ev.to (Ev.neg c (Ev.now _)) (if_neg (show ¬ n.tmod d < 0 by omega)).symm
theorem cmp_ev (n d m e : Int) (hn : -9223372036854775808 ≤ n ∧ n ≤ 9223372036854775807) (hm : -9223372036854775808 ≤ m ∧ m ≤ 9223372036854775807) : Ev (fun k => rat_Cmp.f k n d m e) (rcmp n d m e) := by
  unfold rat_Cmp.f
  refine Ev.bind (both_ev n d m e hn hm) ?_
  unfold rcmp
  by_cases h : Ok n d ∧ Ok m e
  rotate_left
  · rw [decide_eq_false h, if_neg h]
    exact Ev.neg (by decide) (Ev.now _)
  rw [decide_eq_true h, if_pos h]
  obtain ⟨h1, h2⟩ := h
  have m1 := mul_bd (a := n) (b := e) (A := 1099511627776) (B := 1048576) ⟨h1.2.2.1, h1.2.2.2.1⟩ ⟨by have := h2.1; omega, h2.2.1⟩ (by omega)
  have m2 := mul_bd (a := m) (b := d) (A := 1099511627776) (B := 1048576) ⟨h2.2.2.1, h2.2.2.2.1⟩ ⟨by have := h1.1; omega, h1.2.1⟩ (by omega)
  rw [wrap_id (x := n * e) (by omega) (by omega), wrap_id (x := m * d) (by omega) (by omega)]
  refine Ev.pos rfl (Ev.const ?_)
  split
  · rw [if_neg (by omega), if_neg (by omega)]
  · split
    · rfl
    · rw [if_pos (by omega)]
end Go.Proofs.YtdiccfonlojlfaaGreatDoor.Rp