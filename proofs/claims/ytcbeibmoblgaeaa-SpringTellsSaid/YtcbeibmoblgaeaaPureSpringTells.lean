/- The law SpringTells of layer 28: for every time, every row of columns (right or not) and all numbers the law answers true (no condition). -/
import Derived.Test.YtcbeibmoblgaeaaStatSpringTells
import Derived.Test.YtcbeibmoblgaeaaSpringEv
import Derived.Test.YtcbeibmoblgaeaaPx3
import Derived.Test.YtcbeibmoblgaeaaPx10
import Derived.Test.YtcbeibmoblgaeaaPx11
import Derived.Test.YtcbeibmoblgaeaaPx11
namespace Go.Proofs.Ytcbeibmoblgaeaa.Pure
open Go.RowKit Go.Proofs.Ytcbeibmoblgaeaa.P Go.Proofs.Ytcbeibmoblgaeaa.Rp Go.Proofs.YtcbeibmoblgaeaaW.PrintWords Go.Proofs.YtcbeibmoblgaeaaW.PrintLast Go.Proofs.YtcbeibmoblgaeaaW.PrintMore
set_option linter.unusedVariables false

set_option maxRecDepth 100000 in
theorem headsT_at : neumelaw28_heads.f 60 = some true := by decide +kernel
theorem headsT_bind : Ev (fun k => (neumelaw28_heads.f k).bind fun t => some t) true := Ev.bind (Ev.of neumelaw28_heads.mono headsT_at) (Ev.now _)
theorem wf64 {x : Int} (h : (Lit.int .i64 x).wf = true) : -9223372036854775808 ≤ x ∧ x ≤ 9223372036854775807 := by
  simp [Lit.wf] at h
  exact h
/-- The reference's second loop: it ends, where m is not above n times a power of 2. -/
theorem l1_ev : ∀ (r : Nat) (n m p : Int) (q : Nat), 0 < m → m ≤ 1099511627776 → 0 < n → n ≤ 2199023255552 → -1000 ≤ p - r → p ≤ 1000 → m ≤ n * 2 ^ r →
    ∃ i : Nat, m ≤ n * 2 ^ i ∧ (i = 0 ∨ n * 2 ^ i < 2 * m) ∧ ∀ R, Ev (fun _ : Nat => (if m = 0 then none else some (mx 600 (mn (wrap64 (wrap64 (2458 + wrap64 (1228 * wrap64 (p - i + 3))) + wrap64 (Int.tdiv (wrap64 (1228 * wrap64 (n * 2 ^ i - m))) m))) 1048576), 0))) R → Ev (fun k => neumeref28_Ideal.l1 k n m p) R
  | 0, n, m, p, q, hm, hm', hn, hn', hp, hp', h => by
    rw [Int.pow_zero, Int.mul_one] at h
    refine ⟨0, by rw [Int.pow_zero]; omega, .inl rfl, fun R hR => Ev.succ ?_⟩
    simp only [neumeref28_Ideal.l1]
    refine Ev.neg (by omega) ?_
    simpa using hR
  | r + 1, n, m, p, q, hm, hm', hn, hn', hp, hp', h => by
    by_cases c : n < m
    · obtain ⟨i, h1, h2, h3⟩ := l1_ev r (n * 2) m (p - 1) q hm hm' (by omega) (by omega) (by omega) (by omega) (by rw [two_pow] at h; rw [show n * 2 * 2 ^ r = n * (2 * 2 ^ r) by ac_rfl]; exact h)
      have e : n * 2 * 2 ^ i = n * 2 ^ (i + 1) := by rw [two_pow]; ac_rfl
      rw [e] at h1 h2
      refine ⟨i + 1, h1, .inr ?_, fun R hR => Ev.succ ?_⟩
      · rcases h2 with rfl | h2
        · rw [Int.pow_one]; omega
        · exact h2
      · simp only [neumeref28_Ideal.l1]
        rw [wrap_id (x := 2 * n) (by omega) (by omega), wrap_id (x := p - 1) (by omega) (by omega), Int.mul_comm 2 n]
        refine Ev.pos c (h3 R ?_)
        rw [e, show p - 1 - (i : Int) = p - ((i + 1 : Nat) : Int) by omega]
        exact hR
    · refine ⟨0, by rw [Int.pow_zero]; omega, .inl rfl, fun R hR => Ev.succ ?_⟩
      simp only [neumeref28_Ideal.l1]
      refine Ev.neg c ?_
      simpa using hR
theorem l0_ev : ∀ (r : Nat) (n m p : Int), 0 < m → 0 < n → n ≤ 1099511627776 → m ≤ 1099511627776 → -1000 ≤ p → p + r ≤ 1000 → n < 2 * m * 2 ^ r →
    ∃ i : Nat, (i = 0 ∨ m * 2 ^ i ≤ n) ∧ n < 2 * (m * 2 ^ i) ∧ i ≤ r ∧ ∀ R, Ev (fun k => neumeref28_Ideal.l1 k n (m * 2 ^ i) (p + i)) R → Ev (fun k => neumeref28_Ideal.l0 k n m p) R
  | 0, n, m, p, hm, hn, hn', hm', hp, hp', h => by
    rw [Int.pow_zero, Int.mul_one] at h
    refine ⟨0, .inl rfl, by rw [Int.pow_zero]; omega, Nat.le_refl _, fun R hR => Ev.succ ?_⟩
    simp only [neumeref28_Ideal.l0]
    rw [wrap_id (x := 2 * m) (by omega) (by omega)]
    refine Ev.neg (by omega) ?_
    simpa using hR
  | r + 1, n, m, p, hm, hn, hn', hm', hp, hp', h => by
    by_cases c : 2 * m ≤ n
    · obtain ⟨i, h1, h2, hi, h3⟩ := l0_ev r n (m * 2) (p + 1) (by omega) hn hn' (by omega) (by omega) (by omega) (by rw [two_pow] at h; rw [show 2 * (m * 2) * 2 ^ r = 2 * m * (2 * 2 ^ r) by ac_rfl]; exact h)
      have e : m * 2 * 2 ^ i = m * 2 ^ (i + 1) := by rw [two_pow]; ac_rfl
      rw [e] at h1 h2
      refine ⟨i + 1, .inr ?_, h2, by omega, fun R hR => Ev.succ ?_⟩
      · rcases h1 with rfl | h1
        · rw [Int.pow_one]; omega
        · exact h1
      · simp only [neumeref28_Ideal.l0]
        rw [wrap_id (x := 2 * m) (by omega) (by omega), wrap_id (x := p + 1) (by omega) (by omega), Int.mul_comm 2 m]
        refine Ev.pos (by omega) (h3 R ?_)
        rw [e, show p + 1 + (i : Int) = p + ((i + 1 : Nat) : Int) by omega]
        exact hR
    · refine ⟨0, .inl rfl, by rw [Int.pow_zero]; omega, Nat.zero_le _, fun R hR => Ev.succ ?_⟩
      simp only [neumeref28_Ideal.l0]
      rw [wrap_id (x := 2 * m) (by omega) (by omega)]
      refine Ev.neg (by omega) ?_
      simpa using hR
theorem ideal_eq2 (p a b : Int) : mx 600 (mn (far p a b) 1048576) = ideal p a b := by
  rw [ideal_eq]
  unfold mx mn
  repeat' split
  all_goals omega
theorem ideal2_bad (n d : Int) (hn : -9223372036854775808 ≤ n ∧ n ≤ 9223372036854775807) (h : ¬ (Ok n d ∧ 0 < n)) : Ev (fun k => neumeref28_Ideal.f k n d) (0, 2) := by
  unfold neumeref28_Ideal.f
  have bad : Ev (fun k => neumeref28_Ideal.j0 k true n d) (0, 2) := by
    refine Ev.succ ?_
    simp only [neumeref28_Ideal.j0, if_true]
    exact Ev.now _
  refine Ev.bind (check2_ev n d hn) ?_
  by_cases c : Ok n d
  · rw [decide_eq_true c, decide_eq_true (show n ≤ 0 from Int.not_lt.1 (fun q => h ⟨c, q⟩))]
    exact Ev.pos rfl bad
  · rw [decide_eq_false c]
    exact Ev.neg (by decide) bad
theorem ideal2_ok (n d : Int) (h : Ok n d) (h0 : 0 < n) : ∃ p a b, Norm n d p a b ∧ Ev (fun k => neumeref28_Ideal.f k n d) (ideal p a b, 0) := by
  have hd : 0 < d := by have := h.1; omega
  have two40 : (2 : Int) ^ 40 = 1099511627776 := by decide
  obtain ⟨i, h1, h2, hi, h3⟩ := l0_ev 40 n d 0 hd h0 h.2.2.2.1 (by have := h.2.1; omega) (by omega) (by omega) (by rw [two40]; have := h.2.2.2.1; omega)
  have hb : 0 < d * 2 ^ i := Int.mul_pos hd (pow_pos' i)
  have hb' : d * 2 ^ i ≤ 1099511627776 := by
    rcases h1 with rfl | h1
    · rw [Int.pow_zero]; have := h.2.1; omega
    · have := h.2.2.2.1; omega
  obtain ⟨j, h4, h5, h6⟩ := l1_ev 40 n (d * 2 ^ i) (0 + i) 0 hb hb' h0 (by have := h.2.2.2.1; omega) (by omega) (by omega) (by rw [two40]; omega)
  have hN : Norm n d (0 + (i : Int) - j) (n * 2 ^ j) (d * 2 ^ i) := by
    refine ⟨i, j, rfl, rfl, by omega, h4, ?_, ?_⟩
    · rcases h5 with rfl | h5
      · rw [Int.pow_zero]; omega
      · exact h5
    · rcases h1 with rfl | h1
      · exact .inl rfl
      · rcases h5 with rfl | h5
        · exact .inr rfl
        · rcases Nat.eq_zero_or_pos j with hj | hj
          · exact .inr hj
          · exfalso
            obtain ⟨j, rfl⟩ : ∃ q, j = q + 1 := ⟨j - 1, by omega⟩
            rw [two_pow] at h5
            have := pow_pos' j
            have h7 : n * 1 ≤ n * 2 ^ j := Int.mul_le_mul_of_nonneg_left (by omega) (by omega)
            rw [show n * (2 * 2 ^ j) = 2 * (n * 2 ^ j) by ac_rfl] at h5
            omega
  refine ⟨_, _, _, hN, ?_⟩
  unfold neumeref28_Ideal.f
  refine Ev.bind (check2_ev n d ⟨by omega, by have := h.2.2.2.1; omega⟩) ?_
  rw [decide_eq_true h, decide_eq_false (show ¬ n ≤ 0 by omega)]
  refine Ev.pos rfl (Ev.succ ?_)
  simp only [neumeref28_Ideal.j0, Bool.false_eq_true, if_false]
  refine h3 _ (h6 _ ?_)
  rw [far_bd hd h0 h.2.2.2.1 h.2.1 hN, ideal_eq2]
  exact Ev.neg (by omega) (Ev.now _)
/-- Both are one. -/
theorem ideals (n d : Int) (hn : -9223372036854775808 ≤ n ∧ n ≤ 9223372036854775807) : ∃ v e : Int, Ev (fun k => spring_Ideal.f k n d) (v, e) ∧ Ev (fun k => neumeref28_Ideal.f k n d) (v, e) := by
  by_cases h : Ok n d ∧ 0 < n
  · obtain ⟨p, a, b, N1, E1⟩ := ideal_ok n d h.1 h.2
    obtain ⟨p2, a2, b2, N2, E2⟩ := ideal2_ok n d h.1 h.2
    have hd : 0 < d := by have := h.1.1; omega
    have e : ideal p2 a2 b2 = ideal p a b := by rw [ideal_eq, ideal_eq, far_same hd hd N2 N1 rfl]
    rw [e] at E2
    exact ⟨_, _, E1, E2⟩
  · exact ⟨_, _, ideal_bad n d hn h, ideal2_bad n d hn h⟩
def Wf (z : S48) : Prop := (True ∧ ((Lit.int .i64 z.f1.f0).wf = true ∧ (Lit.int .i64 z.f1.f1).wf = true) ∧ (Lit.int .i64 z.f2).wf = true)
theorem radd_rng {n d m e : Int} : -9223372036854775808 ≤ (radd n d m e).1 ∧ (radd n d m e).1 ≤ 9223372036854775807 := by
  unfold radd
  split
  · rename_i h
    rcases low_code (sumN n d m e) (sumD d e) with r | r
    · have hl : low (sumN n d m e) (sumD d e) = ((low (sumN n d m e) (sumD d e)).1, (low (sumN n d m e) (sumD d e)).2.1, 0) := by rw [← r]
      have := (low_ok (by have := (sum_bd h).2.1; omega) hl).1
      have h1 := this.2.2.1
      have h2 := this.2.2.2.1
      omega
    · rw [r]; decide
  · decide
theorem likes (a b : S48) (ha : Wf a) (hb : Wf b) : ∃ v : Int, Ev (fun k => spring_like.f k a.f0 a.f1.f0 a.f1.f1 a.f2 a.f3 b.f0 b.f1.f0 b.f1.f1 b.f2 b.f3) v ∧
    ((a.f0 = true ∧ v = 800) ∨ (a.f0 = false ∧ ∃ s e x f, Ev (fun k => neumeref02_Sub.f k b.f1.f0 b.f1.f1 a.f1.f0 a.f1.f1) (s, e, f) ∧ Ev (fun k => neumeref28_Ideal.f k s e) x ∧ v = if f = 0 then (if x.2 = 0 then x.1 else 600) else 600)) := by
  unfold spring_like.f
  by_cases c : a.f0 = true
  · exact ⟨800, Ev.pos c (Ev.now _), .inl ⟨c, rfl⟩⟩
  · have s1 := sub_ev b.f1.f0 b.f1.f1 a.f1.f0 a.f1.f1 (wf64 hb.2.1.1) (wf64 ha.2.1.1)
    have s2 := sub2_ev b.f1.f0 b.f1.f1 a.f1.f0 a.f1.f1 (wf64 hb.2.1.1) (wf64 ha.2.1.1)
    have hr : -9223372036854775808 ≤ (rsub b.f1.f0 b.f1.f1 a.f1.f0 a.f1.f1).1 ∧ (rsub b.f1.f0 b.f1.f1 a.f1.f0 a.f1.f1).1 ≤ 9223372036854775807 := radd_rng
    generalize rsub b.f1.f0 b.f1.f1 a.f1.f0 a.f1.f1 = q at *
    obtain ⟨v, e, I1, I2⟩ := ideals q.1 q.2.1 hr
    refine ⟨if q.2.2 = 0 then (if e = 0 then v else 600) else 600, Ev.neg c (Ev.bind s1 ?_), .inr ⟨by simpa using c, q.1, q.2.1, (v, e), q.2.2, s2, I2, rfl⟩⟩
    by_cases c1 : q.2.2 = 0
    · rw [if_pos c1]
      refine Ev.pos c1 (Ev.bind I1 ?_)
      exact Ev.ite (fun _ => Ev.now _) (fun _ => Ev.now _)
    · rw [if_neg c1]; exact Ev.neg c1 (Ev.now _)
theorem rd_wf {l : List S48} (hl : ∀ z ∈ l, Wf z) (i : Int) (h1 : i < l.length) (h0 : 0 ≤ i) : Wf (rd_T48 l i) := by
  unfold rd_T48
  rw [List.getD_eq_getElem?_getD, List.getElem?_eq_getElem (by omega)]
  exact hl _ (List.getElem_mem _)
theorem rows (l : List S48) (hl : ∀ z ∈ l, Wf z) (hb : l.length ≤ 300) (first last : Int) (h0 : 0 ≤ first) (h1 : first ≤ last) (h2 : last < l.length) : ∀ (d : Nat) (acc : List Int) (i : Int), i + d = last → first ≤ i → acc.length ≤ 1000 - d →
    ∃ r, Ev (fun k => spring_Springs.l0 k l first acc ((l.take last.toNat).drop first.toNat) (((l.take last.toNat).drop first.toNat).length : Int) (i - first)) (r, 0) ∧ Ev (fun k => neumeref28_Springs.l0 k l last acc i) (r, 0) ∧ r.length ≤ acc.length + d
  | 0, acc, i, hd, hi, ha => by
    have hlen : (((l.take last.toNat).drop first.toNat).length : Int) = last - first := by rw [List.length_drop, List.length_take]; omega
    refine ⟨acc, Ev.succ ?_, Ev.succ ?_, by omega⟩
    · simp only [spring_Springs.l0]
      exact Ev.neg (by omega) (Ev.now _)
    · simp only [neumeref28_Springs.l0]
      exact Ev.neg (by omega) (Ev.now _)
  | d + 1, acc, i, hd, hi, ha => by
    have hlen : (((l.take last.toNat).drop first.toNat).length : Int) = last - first := by rw [List.length_drop, List.length_take]; omega
    have hrd : rd_T48 ((l.take last.toNat).drop first.toNat) (i - first) = rd_T48 l i := by
      unfold rd_T48
      rw [List.getD_eq_getElem?_getD, List.getD_eq_getElem?_getD, List.getElem?_drop, List.getElem?_take_of_lt (by omega), show first.toNat + (i - first).toNat = i.toNat by omega]
    obtain ⟨v, e1, e2⟩ := likes (rd_T48 l i) (rd_T48 l (i + 1)) (rd_wf hl i (by omega) (by omega)) (rd_wf hl (i + 1) (by omega) (by omega))
    obtain ⟨r, g1, g2, g3⟩ := rows l hl hb first last h0 h1 h2 d (acc ++ [v]) (i + 1) (by omega) (by omega) (by rw [List.length_append]; simp; omega)
    refine ⟨r, Ev.succ ?_, Ev.succ ?_, by rw [List.length_append] at g3; simp at g3; omega⟩
    · simp only [spring_Springs.l0]
      rw [hrd, wrap_id (x := first + (i - first)) (by omega) (by omega), show first + (i - first) = i by omega, wrap_id (x := i + 1) (by omega) (by omega), wrap_id (x := i - first + 1) (by omega) (by omega)]
      refine Ev.pos (by omega) (Ev.pos (by omega) (Ev.pos (by omega) (Ev.pos (by omega) (Ev.pos (by omega) (Ev.bind e1 (Ev.pos (by omega) ?_))))))
      rw [show i - first + 1 = i + 1 - first by omega]
      exact g1
    · simp only [neumeref28_Springs.l0]
      rw [wrap_id (x := i + 1) (by omega) (by omega)]
      refine Ev.pos (by omega) (Ev.pos (by omega) (Ev.pos (by omega) ?_))
      rcases e2 with ⟨c, rfl⟩ | ⟨c, s, e, x, f, s2, I2, hv⟩
      · exact Ev.pos c (Ev.pos (by omega) g2)
      · refine Ev.neg (by rw [c]; decide) (Ev.pos (by omega) (Ev.pos (by omega) (Ev.bind s2 (Ev.bind I2 ?_))))
        by_cases c1 : f = 0
        · rw [if_pos c1] at hv
          refine Ev.pos c1 ?_
          by_cases c2 : x.2 = 0
          · rw [if_pos c2] at hv
            subst hv
            exact Ev.pos c2 (Ev.pos (by omega) g2)
          · rw [if_neg c2] at hv
            subst hv
            exact Ev.neg c2 (Ev.pos (by omega) g2)
        · rw [if_neg c1] at hv
          subst hv
          exact Ev.neg c1 (Ev.pos (by omega) g2)
theorem springs (l : List S48) (hl : ∀ z ∈ l, Wf z) (hb : l.length ≤ 300) (first last : Int) : ∃ r e, Ev (fun k => spring_Springs.f k l first last) (r, e) ∧ Ev (fun k => neumeref28_Springs.f k l first last) (r, e) ∧ r.length ≤ 2000 := by
  have bad : Ev (fun k => spring_Springs.j0 k l first last true) ([], 2) ∧ Ev (fun k => neumeref28_Springs.j0 k l first last true) ([], 2) := by
    constructor
    · refine Ev.succ ?_
      simp only [spring_Springs.j0, if_true]
      exact Ev.now _
    · refine Ev.succ ?_
      simp only [neumeref28_Springs.j0, if_true]
      exact Ev.now _
  unfold spring_Springs.f neumeref28_Springs.f
  by_cases c1 : first < 0
  · exact ⟨_, _, Ev.pos c1 bad.1, Ev.pos c1 bad.2, by simp⟩
  · by_cases c2 : last < first
    · exact ⟨_, _, Ev.neg c1 (Ev.pos c2 bad.1), Ev.neg c1 (Ev.pos c2 bad.2), by simp⟩
    · by_cases c3 : last ≥ (l.length : Int)
      · rw [decide_eq_true c3]
        exact ⟨_, _, Ev.neg c1 (Ev.neg c2 bad.1), Ev.neg c1 (Ev.neg c2 bad.2), by simp⟩
      · rw [decide_eq_false c3]
        obtain ⟨r, g1, g2, g3⟩ := rows l hl hb first last (by omega) (by omega) (by omega) (last - first).toNat [] first (by omega) (by omega) (by simp)
        refine ⟨r, 0, Ev.neg c1 (Ev.neg c2 (Ev.succ ?_)), Ev.neg c1 (Ev.neg c2 (Ev.succ ?_)), ?_⟩
        · simp only [spring_Springs.j0, Bool.false_eq_true, if_false, Option.bind_some]
          rw [show first - first = 0 by omega] at g1
          exact Ev.pos (by omega) (Ev.pos (by omega) (Ev.pos (by omega) g1))
        · simp only [neumeref28_Springs.j0, Bool.false_eq_true, if_false]
          exact g2
        · simp at g3; omega
theorem numbers_ev (l : List Int) (hl : l.length ≤ 9223372036854775806) : Ev (fun k => neumeref18_Numbers.f k l l) true := by
  have go : ∀ (d : Nat) (i : Int), 0 ≤ i → i + d = l.length → Ev (fun k => neumeref18_Numbers.l0 k l l i) true := by
    intro d
    induction d with
    | zero =>
      intro i h0 h
      refine Ev.succ ?_
      simp only [neumeref18_Numbers.l0]
      exact Ev.neg (by omega) (Ev.now _)
    | succ d ih =>
      intro i h0 h
      refine Ev.succ ?_
      simp only [neumeref18_Numbers.l0]
      rw [wrap_id (x := i + 1) (by omega) (by omega)]
      exact Ev.pos (by omega) (Ev.pos h0 (Ev.pos (by omega) (Ev.pos (by trivial) (ih (i + 1) (by omega) (by omega)))))
  unfold neumeref18_Numbers.f
  exact Ev.pos (by trivial) (go l.length 0 (by omega) (by omega))
theorem lengths (a f : Int) : spring_Length.f a f = neumeref28_Length.f a f := rfl
theorem price_eq (f : Int) (hf : -9223372036854775808 ≤ f ∧ f ≤ 9223372036854775807) : ∃ v, Ev (fun k => spring_Price.f k f) v ∧ Ev (fun k => neumeref28_Price.f k f) v := by
  have b1 : Ev (fun k => spring_Price.j0 k f true) 1125899906842624 := by
    refine Ev.succ ?_
    simp only [spring_Price.j0, if_true]
    exact Ev.now _
  have b2 : Ev (fun k => neumeref28_Price.j0 k f true) 1125899906842624 := by
    refine Ev.succ ?_
    simp only [neumeref28_Price.j0, if_true]
    exact Ev.now _
  unfold spring_Price.f neumeref28_Price.f
  by_cases c1 : f < -1024
  · exact ⟨_, Ev.pos c1 b1, Ev.pos c1 b2⟩
  · by_cases c2 : f > 8192
    · rw [decide_eq_true c2]
      exact ⟨_, Ev.neg c1 b1, Ev.neg c1 b2⟩
    · rw [decide_eq_false c2]
      have hq : 0 ≤ f * f ∧ f * f ≤ 67108864 := by
        by_cases h : 0 ≤ f
        · exact ⟨Int.mul_nonneg h h, by have := Int.mul_le_mul (show f ≤ 8192 by omega) (show f ≤ 8192 by omega) h (by omega); omega⟩
        · have e : f * f = (-f) * (-f) := by rw [Int.neg_mul_neg]
          rw [e]
          exact ⟨Int.mul_nonneg (by omega) (by omega), by have := Int.mul_le_mul (show -f ≤ 8192 by omega) (show -f ≤ 8192 by omega) (by omega) (by omega); omega⟩
      refine ⟨if f < 0 then f * f * 4 else f * f, Ev.neg c1 (Ev.succ ?_), Ev.neg c1 (Ev.succ ?_)⟩
      · simp only [spring_Price.j0, Bool.false_eq_true, if_false]
        rw [wrap_id (x := f * f) (by omega) (by omega), wrap_id (x := f * f * 4) (by omega) (by omega)]
        exact Ev.ite (fun _ => Ev.now _) (fun _ => Ev.now _)
      · simp only [neumeref28_Price.j0, Bool.false_eq_true, if_false]
        rw [wrap_id (x := f * f) (by omega) (by omega), wrap_id (x := 4 * f) (by omega) (by omega), show 4 * f * f = f * f * 4 by rw [Int.mul_assoc, Int.mul_comm], wrap_id (x := f * f * 4) (by omega) (by omega)]
        exact Ev.ite (fun _ => Ev.now _) (fun _ => Ev.now _)
theorem length_some (a f : Int) : ∃ r, spring_Length.f a f = some r := by
  unfold spring_Length.f
  repeat' split
  all_goals exact ⟨_, rfl⟩

theorem SpringTells : SpringTells_Pure := by
  intro d c first last ideal force ⟨hd, hd'⟩ ⟨_, _, hc⟩ h2 h3 h4 h5
  refine Ev.rounds (g := fun k => neumelaw28_SpringTells.f k d.f0 d.f1 c first last ideal force) ?_
  unfold neumelaw28_SpringTells.f
  have hB := headsT_bind
  by_cases c1 : (c.length : Int) > 300
  · exact Ev.pos c1 hB
  · refine Ev.neg c1 ?_
    obtain ⟨v, e, I1, I2⟩ := ideals d.f0 d.f1 (wf64 hd)
    obtain ⟨r, s, S1, S2, hr⟩ := springs c (fun z hz => by have := hc z hz; exact ⟨trivial, this.2.1, this.2.2.1⟩) (by omega) first last
    obtain ⟨l, hl⟩ := length_some ideal force
    obtain ⟨p, P1, P2⟩ := price_eq force (wf64 h5)
    refine Ev.bind I1 (Ev.bind I2 (Ev.bind S1 (Ev.bind S2 ?_)))
    rw [← lengths, hl]
    simp only [Option.bind_some, if_true]
    refine Ev.bind (numbers_ev r (by omega)) ?_
    simp only [if_true]
    refine Ev.bind P1 (Ev.bind P2 ?_)
    simp only [if_true]
    exact hB
end Go.Proofs.Ytcbeibmoblgaeaa.Pure
