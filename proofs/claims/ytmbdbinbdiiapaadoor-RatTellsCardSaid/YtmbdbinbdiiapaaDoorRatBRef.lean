/- Fractions: products, quotients, roundings and rests of rat and its reference: plain values. -/
import Derived.Test.YtmbdbinbdiiapaaDoorPx15
import Derived.Test.YtmbdbinbdiiapaaDoorPx13
import Derived.Test.YtmbdbinbdiiapaaDoorRatB
import Derived.Test.YtmbdbinbdiiapaaDoorRatARef
namespace Go.Proofs.YtmbdbinbdiiapaaDoor.Rp
open Go.RowKit Go.Proofs.YtmbdbinbdiiapaaDoor.P Go.Proofs.YtmbdbinbdiiapaaDoorW.PrintWords Go.Proofs.YtmbdbinbdiiapaaDoorW.PrintLast Go.Proofs.YtmbdbinbdiiapaaDoorW.PrintMore
set_option linter.unusedVariables false
set_option linter.unusedSimpArgs false
/-- What the reference does behind its tests: the parts are put together, and brought to lowest terms. -/
theorem tail_ev {a b c f N D : Int} (h1 : ab a * ab b ≤ 1099511627776) (h2 : ab c * ab f ≤ 1048576) (hcf : c * f ≠ 0) (hl : low N D = low (a * b) (c * f)) : Ev (fun k => (neumeref02_lowest.f k (wrap64 (a * b)) (wrap64 (c * f))).bind fun bt => some (bt.1, bt.2.1, bt.2.2)) (low N D) := by
  have h3 := (ab_le (x := a * b) (m := 1099511627776)).1 (by rw [ab_mul]; exact h1)
  have h4 := (ab_le (x := c * f) (m := 1048576)).1 (by rw [ab_mul]; exact h2)
  rw [wrap_id (x := a * b) (by omega) (by omega), wrap_id (x := c * f) (by omega) (by omega), hl]
  exact Ev.bind (lowest2_ev _ _ hcf (by omega) (by omega)) (Ev.now _)
theorem mul2_ev (n d m e : Int) (hn : -9223372036854775808 ≤ n ∧ n ≤ 9223372036854775807) (hm : -9223372036854775808 ≤ m ∧ m ≤ 9223372036854775807) : Ev (fun k => neumeref02_Mul.f k n d m e) (rmul n d m e) := by
  unfold neumeref02_Mul.f
  refine Ev.bind (check2_ev n d hn) ?_
  have bad : ∀ h : ¬ (Ok n d ∧ Ok m e), Ev (fun k => neumeref02_Mul.j0 k true n d m e) (rmul n d m e) := by
    intro h
    unfold rmul
    rw [if_neg h]
    refine Ev.succ ?_
    simp only [neumeref02_Mul.j0, if_true]
    exact Ev.now _
  by_cases h1 : Ok n d
  rotate_left
  · rw [decide_eq_false h1]
    exact Ev.neg (by decide) (bad (fun h => h1 h.1))
  rw [decide_eq_true h1]
  refine Ev.pos rfl (Ev.bind (check2_ev m e hm) ?_)
  by_cases h2 : Ok m e
  rotate_left
  · rw [decide_eq_false h2]
    exact bad (fun h => h2 h.2)
  rw [decide_eq_true h2]
  have er : rmul n d m e = low (n * m) (d * e) := if_pos ⟨h1, h2⟩
  rw [er]
  obtain ⟨a1, a2, a3, a4, a5⟩ := h1
  obtain ⟨b1, b2, b3, b4, b5⟩ := h2
  obtain ⟨a, b, c, f, ea, eb, ec, ef, g0, h0, c0, f0, cd, fe, hg, hq, la, lb⟩ := cross (show 0 < d by omega) (show 0 < e by omega) a5 b5
  have hl := low_cross (show 0 < d by omega) (show 0 < e by omega) c0 f0 hg hq
  have hr : low (n * m) (d * e) = low (a * b) (c * f) := (low_ratio (by have := Int.mul_pos c0 f0; omega) (by have := Int.mul_pos (show 0 < d by omega) (show 0 < e by omega); omega) hq).symm
  have ba : -1099511627776 ≤ a ∧ a ≤ 1099511627776 := by omega
  have bb : -1099511627776 ≤ b ∧ b ≤ 1099511627776 := by omega
  refine Ev.succ ?_
  simp only [neumeref02_Mul.j0, Bool.not_true, Bool.false_eq_true, if_false]
  rw [abs2_eq n (by omega) (by omega), abs2_eq m (by omega) (by omega)]
  refine Ev.bindc rfl (Ev.bind (gcd_ev' (ab n) e (ab_nn _) (by omega)) (Ev.bindc rfl (Ev.bind (gcd_ev' (ab m) d (ab_nn _) (by omega)) ?_)))
  rw [gc_ab_l, gc_ab_l, ea, eb, ec, ef, wrap_id (x := a) (by omega) (by omega), wrap_id (x := b) (by omega) (by omega), wrap_id (x := c) (by omega) (by omega), wrap_id (x := f) (by omega) (by omega)]
  have t1 := tdiv_bd (a := 1048576) (b := f) (m := 1048576) (by omega) (by omega)
  rw [wrap_id (x := Int.tdiv 1048576 f) (by omega) (by omega)]
  refine Ev.neg (by omega) (Ev.neg (by omega) ?_)
  have o2 := over_iff (x := c) (y := f) (M := 1048576) (by omega) f0
  have cf := Int.mul_pos c0 f0
  have rest : ab a * ab b ≤ 1099511627776 → Ev (fun k => if c > Int.tdiv 1048576 f then some (0, 0, 3) else (neumeref02_lowest.f k (wrap64 (a * b)) (wrap64 (c * f))).bind fun bt => some (bt.1, bt.2.1, bt.2.2)) (low (n * m) (d * e)) := by
    intro hab
    by_cases h : c * f > 1048576
    · rw [low_over hl (Or.inr h)]
      exact Ev.pos (o2.2 h) (Ev.now _)
    · exact Ev.neg (fun q => h (o2.1 q)) (tail_ev hab (by rw [ab_self (by omega), ab_self (by omega)]; omega) (by omega) hr)
  by_cases hb0 : b = 0
  · refine Ev.pos hb0 (Ev.neg (by omega) (rest ?_))
    rw [hb0, show ab 0 = 0 from rfl, Int.mul_zero]; omega
  · have pb := ab_pos hb0
    have t2 := tdiv_bd (a := 1099511627776) (b := ab b) (m := 1099511627776) (by omega) (by omega)
    have o := over_iff (x := ab a) (y := ab b) (M := 1099511627776) (by omega) pb
    refine Ev.neg hb0 ?_
    rw [abs2_eq a (by omega) (by omega), abs2_eq b (by omega) (by omega)]
    simp only [Option.bind_some]
    rw [wrap_id (x := Int.tdiv 1099511627776 (ab b)) (by omega) (by omega)]
    refine Ev.neg (by omega) ?_
    by_cases h : ab a * ab b > 1099511627776
    · rw [low_over hl (Or.inl h)]
      exact Ev.pos (o.2 h) (Ev.now _)
    · exact Ev.neg (fun q => h (o.1 q)) (Ev.neg (by omega) (rest (by omega)))
theorem div2_ev (n d m e : Int) (hn : -9223372036854775808 ≤ n ∧ n ≤ 9223372036854775807) (hm : -9223372036854775808 ≤ m ∧ m ≤ 9223372036854775807) : Ev (fun k => neumeref02_Div.f k n d m e) (rdiv n d m e) := by
  unfold neumeref02_Div.f
  refine Ev.bind (check2_ev n d hn) ?_
  have bad : ∀ h : ¬ ((Ok n d ∧ Ok m e) ∧ m ≠ 0), Ev (fun k => neumeref02_Div.j0 k true n d m e) (rdiv n d m e) := by
    intro h
    unfold rdiv
    rw [if_neg h]
    refine Ev.succ ?_
    simp only [neumeref02_Div.j0, if_true]
    exact Ev.now _
  by_cases h1 : Ok n d
  rotate_left
  · rw [decide_eq_false h1]
    exact Ev.neg (by decide) (bad (fun h => h1 h.1.1))
  rw [decide_eq_true h1]
  refine Ev.pos rfl (Ev.bind (check2_ev m e hm) ?_)
  by_cases h2 : Ok m e
  rotate_left
  · rw [decide_eq_false h2]
    exact Ev.neg (by decide) (bad (fun h => h2 h.1.2))
  rw [decide_eq_true h2]
  refine Ev.pos rfl ?_
  by_cases m0 : m = 0
  · rw [beq_iff_eq.2 m0]
    exact bad (fun h => h.2 m0)
  rw [beq_eq_false_iff_ne.2 m0]
  have er : rdiv n d m e = low (n * e) (d * m) := if_pos ⟨⟨h1, h2⟩, m0⟩
  rw [er]
  obtain ⟨a1, a2, a3, a4, a5⟩ := h1
  obtain ⟨b1, b2, b3, b4, b5⟩ := h2
  obtain ⟨a, b, c, f, ea, eb, ec, ef, g0, h0, c0, b0, f0, cd, be, hg, hq, la, lf⟩ := level (show 0 < d by omega) (show 0 < e by omega) m0 a5 b5
  have cf : c * f ≠ 0 := Int.mul_ne_zero (by omega) f0
  have hr : low (n * e) (d * m) = low (a * b) (c * f) := (low_ratio cf (Int.mul_ne_zero (by omega) m0) hq).symm
  have ba : -1099511627776 ≤ a ∧ a ≤ 1099511627776 := by omega
  have bf : -1099511627776 ≤ f ∧ f ≤ 1099511627776 := by omega
  have over : ab a * b > 1099511627776 ∨ ab f * c > 1048576 → low (n * e) (d * m) = (0, 0, 3) := by
    intro h
    rw [hr]
    have hsz : ab (a * b) > 1099511627776 ∨ ab (c * f) > 1048576 := by
      rw [ab_mul, ab_mul, ab_self (show 0 ≤ b by omega), ab_self (show 0 ≤ c by omega), Int.mul_comm c]; exact h
    by_cases s : c * f < 0
    · rw [low_neg _ _ s, low_self (by omega) (by unfold gc at hg ⊢; rw [Int.neg_gcd, Int.gcd_neg]; exact hg), if_pos]
      have q1 : ab (-(a * b)) = ab (a * b) := by rw [ab_eq, ab_eq]; omega
      have q2 : ab (c * f) = -(c * f) := by unfold ab; rw [if_pos s]
      rw [q1]; omega
    · rw [low_self (by omega) hg, if_pos]
      rw [ab_self (show 0 ≤ c * f by omega)] at hsz
      exact hsz
  refine Ev.succ ?_
  simp only [neumeref02_Div.j0, Bool.false_eq_true, if_false]
  rw [abs2_eq n (by omega) (by omega), abs2_eq m (by omega) (by omega)]
  refine Ev.bindc rfl (Ev.bindc rfl (Ev.bind (gcd_ev' (ab n) (ab m) (ab_nn _) (ab_nn _)) (Ev.bind (gcd_ev' d e (by omega) (by omega)) ?_)))
  rw [gc_ab_l, gc_ab_r, ea, eb, ec, ef, wrap_id (x := a) (by omega) (by omega), wrap_id (x := b) (by omega) (by omega), wrap_id (x := c) (by omega) (by omega), wrap_id (x := f) (by omega) (by omega)]
  have t1 := tdiv_bd (a := 1048576) (b := c) (m := 1048576) (by omega) (by omega)
  have t2 := tdiv_bd (a := 1099511627776) (b := b) (m := 1099511627776) (by omega) (by omega)
  rw [wrap_id (x := Int.tdiv 1048576 c) (by omega) (by omega), wrap_id (x := Int.tdiv 1099511627776 b) (by omega) (by omega)]
  refine Ev.neg (by omega) (Ev.neg (by omega) ?_)
  have o1 := over_iff (x := ab a) (y := b) (M := 1099511627776) (by omega) b0
  have o2 := over_iff (x := ab f) (y := c) (M := 1048576) (by omega) c0
  have rest : ab a * b ≤ 1099511627776 → Ev (fun k => if ab f > Int.tdiv 1048576 c then some (0, 0, 3) else (neumeref02_lowest.f k (wrap64 (a * b)) (wrap64 (c * f))).bind fun bt => some (bt.1, bt.2.1, bt.2.2)) (low (n * e) (d * m)) := by
    intro hab
    by_cases h : ab f * c > 1048576
    · rw [over (Or.inr h)]
      exact Ev.pos (o2.2 h) (Ev.now _)
    · exact Ev.neg (fun q => h (o2.1 q)) (tail_ev (by rw [ab_self (show 0 ≤ b by omega)]; exact hab) (by rw [ab_self (show 0 ≤ c by omega), Int.mul_comm]; omega) cf hr)
  rw [abs2_eq a (by omega) (by omega), abs2_eq f (by omega) (by omega)]
  simp only [Option.bind_some]
  by_cases ha0 : a = 0
  · refine Ev.pos ha0 (Ev.neg (by omega) (rest ?_))
    rw [ha0, show ab 0 = 0 from rfl, Int.zero_mul]; omega
  · refine Ev.neg ha0 (Ev.neg (by omega) ?_)
    by_cases h : ab a * b > 1099511627776
    · rw [over (Or.inl h)]
      exact Ev.pos (o1.2 h) (Ev.now _)
    · exact Ev.neg (fun q => h (o1.1 q)) (Ev.neg (by omega) (rest (by omega)))
theorem of2_ev (n d : Int) : Ev (fun k => neumeref02_Of.f k n d) (rof n d) := by
  unfold neumeref02_Of.f
  have bad : ¬ (d ≠ 0 ∧ (-1152921504606846976 ≤ n ∧ n ≤ 1152921504606846976) ∧ -1152921504606846976 ≤ d ∧ d ≤ 1152921504606846976) → Ev (fun k => some ((0 : Int), (0 : Int), (2 : Int))) (rof n d) := by
    intro h
    unfold rof
    rw [if_neg h]
    exact Ev.now _
  by_cases c1 : d = 0
  · exact Ev.pos c1 (bad (fun q => q.1 c1))
  refine Ev.neg c1 ?_
  by_cases c2 : n < -1152921504606846976
  · exact Ev.pos c2 (bad (fun q => by omega))
  refine Ev.neg c2 ?_
  by_cases c3 : n > 1152921504606846976
  · exact Ev.pos c3 (bad (fun q => by omega))
  refine Ev.neg c3 ?_
  by_cases c4 : d < -1152921504606846976
  · exact Ev.pos c4 (bad (fun q => by omega))
  refine Ev.neg c4 ?_
  by_cases c5 : d > 1152921504606846976
  · exact Ev.pos c5 (bad (fun q => by omega))
  refine Ev.neg c5 ?_
  unfold rof
  rw [if_pos (by omega)]
  exact Ev.bind (lowest2_ev n d c1 (by omega) (by omega)) (Ev.now _)
theorem floor2_ev (n d : Int) (hn : -9223372036854775808 ≤ n ∧ n ≤ 9223372036854775807) : Ev (fun k => neumeref02_Floor.f k n d) (rfloor n d) := by
  unfold neumeref02_Floor.f
  refine Ev.bind (check2_ev n d hn) ?_
  unfold rfloor
  by_cases h : Ok n d
  rotate_left
  · rw [decide_eq_false h, if_neg h]
    exact Ev.neg (by decide) (Ev.now _)
  rw [decide_eq_true h, if_pos h]
  obtain ⟨a1, a2, a3, a4, a5⟩ := h
  have t := tdiv_bd (a := n) (b := d) (m := 1099511627776) (by omega) (by omega)
  refine Ev.pos rfl (Ev.const ?_)
  unfold neumeref02_down.f
  rw [if_neg (by omega), tdiv_down (show 0 < d by omega), wrap_id (x := Int.tdiv n d) (by omega) (by omega), wrap_id (x := Int.tdiv n d - 1) (by omega) (by omega)]
  split <;> rfl
end Go.Proofs.YtmbdbinbdiiapaaDoor.Rp
