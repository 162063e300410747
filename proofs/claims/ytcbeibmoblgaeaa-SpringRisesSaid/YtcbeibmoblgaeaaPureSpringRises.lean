/- The law SpringRises of layer 28: for all pairs of times (fractions that may be or not) the law answers true (no condition). -/
import Derived.Test.YtcbeibmoblgaeaaStatSpringRises
import Derived.Test.YtcbeibmoblgaeaaSpringEv
namespace Go.Proofs.Ytcbeibmoblgaeaa.Pure
open Go.RowKit Go.Proofs.Ytcbeibmoblgaeaa.P Go.Proofs.Ytcbeibmoblgaeaa.Rp Go.Proofs.YtcbeibmoblgaeaaW.PrintWords Go.Proofs.YtcbeibmoblgaeaaW.PrintLast Go.Proofs.YtcbeibmoblgaeaaW.PrintMore
set_option linter.unusedVariables false

set_option maxRecDepth 100000 in
theorem headsR_at : neumelaw28_heads.f 60 = some true := by decide +kernel
theorem headsR_ev : Ev neumelaw28_heads.f true := Ev.of neumelaw28_heads.mono headsR_at
theorem headsR_bind : Ev (fun k => (neumelaw28_heads.f k).bind fun t => some t) true := Ev.bind headsR_ev (Ev.now _)
theorem wf_i64 {x : Int} (h : (Lit.int .i64 x).wf = true) : -9223372036854775808 ≤ x ∧ x ≤ 9223372036854775807 := by
  simp [Lit.wf] at h
  exact h
theorem rises_j1 {n d p a b : Int} (h : Ok n d) (h0 : 0 < n) (hN : Norm n d p a b) : Ev (fun k => neumelaw28_SpringRises.j1 k (ideal p a b) false n d) true := by
  refine Ev.succ ?_
  simp only [neumelaw28_SpringRises.j1, Bool.false_eq_true, if_false]
  have hB := headsR_bind
  have hn : -9223372036854775808 ≤ n ∧ n ≤ 9223372036854775807 := ⟨by omega, by have := h.2.2.2.1; omega⟩
  refine Ev.bind (add2_ev n d n d hn hn) ?_
  by_cases hz : ∃ x y, radd n d n d = (x, y, 0)
  · obtain ⟨x, y, hz⟩ := hz
    rw [hz]
    have hd : 0 < d := by have := h.1; omega
    have hl : low (sumN n d n d) (sumD d d) = (x, y, 0) := by unfold radd at hz; rw [if_pos ⟨h, h⟩] at hz; exact hz
    have hg : gc d d = d := by
      unfold gc
      rw [Int.gcd_self]; omega
    have h1 : Int.tdiv d d = 1 := Int.tdiv_self (by omega)
    have hs : sumN n d n d = 2 * n := by unfold sumN; rw [hg, h1]; omega
    have hD : sumD d d = d := by unfold sumD; rw [hg, h1]; omega
    rw [hs, hD] at hl
    obtain ⟨hok, he⟩ := low_ok (by omega) hl
    have hy : 0 < y := by have := hok.1; omega
    have hx : 0 < x := by
      rcases Int.lt_or_le 0 x with q | q
      · exact q
      · have r1 := Int.mul_nonpos_of_nonpos_of_nonneg q (Int.le_of_lt hd)
        have r2 := Int.mul_pos (show 0 < 2 * n by omega) hy
        omega
    obtain ⟨p2, a2, b2, hN2, hev⟩ := ideal_ok x y hok hx
    refine Ev.bind hev ?_
    obtain ⟨a3, b3, hN3, hf⟩ := hN.double
    have hfar : far p2 a2 b2 = far p a b + 1228 := by
      rw [← hf]
      exact far_same hy hd hN2 hN3 he
    refine Ev.pos rfl (Ev.pos rfl ?_)
    have i1 := ideal_eq p a b
    have i2 := ideal_eq p2 a2 b2
    have pl := hN.p_le hd h0 h.2.2.2.1 h.2.1
    have ql := quo_range hd hN
    have fb : far p a b < 100000 := by unfold far; omega
    rw [if_neg (show ¬ 1048576 < far p2 a2 b2 by omega)] at i2
    rw [if_neg (show ¬ 1048576 < far p a b by omega)] at i1
    by_cases c : far p a b < 600
    · rw [if_pos c] at i1
      rw [i1]
      refine Ev.pos rfl (Ev.pos ?_ (Ev.pos ?_ hB))
      · split at i2 <;> (show ideal p2 a2 b2 ≥ 600; omega)
      · split at i2 <;> (show ideal p2 a2 b2 ≤ 1828; omega)
    · rw [if_neg c] at i1
      rw [if_neg (by omega)] at i2
      have w : ideal p2 a2 b2 = wrap64 (ideal p a b + 1228) := by rw [i1, i2, wrap_id (by omega) (by omega)]; exact hfar
      by_cases c6 : ideal p a b = 600
      · refine Ev.pos c6 (Ev.pos ?_ (Ev.pos ?_ hB))
        · show ideal p2 a2 b2 ≥ ideal p a b; omega
        · show ideal p2 a2 b2 ≤ 1828; omega
      · exact Ev.neg c6 (Ev.pos w hB)
  · have hc : (radd n d n d).2.2 ≠ 0 := by
      intro q
      exact hz ⟨(radd n d n d).1, (radd n d n d).2.1, by rw [← q]⟩
    have hx : Ok (radd n d n d).1 (radd n d n d).2.1 → False := by
      intro q
      have : radd n d n d = (0, 0, 3) := by
        unfold radd at hc ⊢
        rw [if_pos ⟨h, h⟩] at hc ⊢
        rcases low_code (sumN n d n d) (sumD d d) with r | r
        · exact absurd r hc
        · exact r
      rw [this] at q
      exact absurd q.1 (by decide)
    refine Ev.bind (ideal_bad _ _ ?_ (fun q => hx q.1)) (Ev.neg hc hB)
    have : radd n d n d = (0, 0, 3) := by
      unfold radd at hc ⊢
      rw [if_pos ⟨h, h⟩] at hc ⊢
      rcases low_code (sumN n d n d) (sumD d d) with r | r
      · exact absurd r hc
      · exact r
    rw [this]
    decide
theorem rises_bad (x5 x7 n d m e : Int) : Ev (fun k => neumelaw28_SpringRises.j0 k x5 x7 true n d m e) true := by
  refine Ev.succ ?_
  simp only [neumelaw28_SpringRises.j0, if_true]
  exact headsR_bind

theorem SpringRises : SpringRises_Pure := by
  intro x y ⟨hx, hx'⟩ ⟨hy, hy'⟩
  refine Ev.rounds (g := fun k => neumelaw28_SpringRises.f k x.f0 x.f1 y.f0 y.f1) ?_
  unfold neumelaw28_SpringRises.f
  by_cases h1 : Ok x.f0 x.f1 ∧ 0 < x.f0
  · obtain ⟨p1, a1, b1, N1, E1⟩ := ideal_ok _ _ h1.1 h1.2
    refine Ev.bind E1 ?_
    by_cases h2 : Ok y.f0 y.f1 ∧ 0 < y.f0
    · obtain ⟨p2, a2, b2, N2, E2⟩ := ideal_ok _ _ h2.1 h2.2
      refine Ev.bind E2 (Ev.pos rfl ?_)
      simp only [bne_self_eq_false]
      refine Ev.succ ?_
      simp only [neumelaw28_SpringRises.j0, Bool.false_eq_true, if_false]
      refine Ev.bind (cmp2_ev _ _ _ _ (wf_i64 hx) (wf_i64 hy)) ?_
      have hd1 : 0 < x.f1 := by have := h1.1.1; omega
      have hd2 : 0 < y.f1 := by have := h2.1.1; omega
      have i1 := ideal_eq p1 a1 b1
      have i2 := ideal_eq p2 a2 b2
      have c3 : ¬ ideal p1 a1 b1 < 600 := by split at i1 <;> (try split at i1) <;> omega
      have c4 : ¬ ideal p1 a1 b1 > 1048576 := by split at i1 <;> (try split at i1) <;> omega
      have J := rises_j1 h1.1 h1.2 N1
      rw [decide_eq_false c4]
      by_cases hc : rcmp x.f0 x.f1 y.f0 y.f1 ≤ 0
      · have hle : x.f0 * y.f1 ≤ y.f0 * x.f1 := by
          unfold rcmp at hc
          rw [if_pos ⟨h1.1, h2.1⟩] at hc
          split at hc
          · omega
          · split at hc
            · omega
            · omega
        have fm := far_mono hd1 hd2 N1 N2 hle
        have c2 : ¬ ideal p1 a1 b1 > ideal p2 a2 b2 := by
          rw [i1, i2]
          split <;> (try split) <;> (try split) <;> (try split) <;> omega
        exact Ev.pos hc (Ev.neg c2 (Ev.neg c3 J))
      · exact Ev.neg hc (Ev.neg c3 J)
    · refine Ev.bind (ideal_bad _ _ (wf_i64 hy) h2) (Ev.pos rfl ?_)
      exact rises_bad _ _ _ _ _ _
  · refine Ev.bind (ideal_bad _ _ (wf_i64 hx) h1) ?_
    by_cases h2 : Ok y.f0 y.f1 ∧ 0 < y.f0
    · obtain ⟨p2, a2, b2, N2, E2⟩ := ideal_ok _ _ h2.1 h2.2
      refine Ev.bind E2 (Ev.neg (by decide) ?_)
      exact rises_bad _ _ _ _ _ _
    · refine Ev.bind (ideal_bad _ _ (wf_i64 hy) h2) (Ev.neg (by decide) ?_)
      exact rises_bad _ _ _ _ _ _
end Go.Proofs.Ytcbeibmoblgaeaa.Pure
