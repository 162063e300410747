/- The law SlopeMirror of layer 19: for all rows of xs and tips and both directions the law answers true (no condition). -/
import Derived.Test.YtbmdbkjmleimmaaPx5
import Derived.Test.YtbmdbkjmleimmaaPureSlopeShort
namespace Go.Proofs.Ytbmdbkjmleimmaa.Pure
open Go.RowKit Go.Proofs.Ytbmdbkjmleimmaa.P Go.Proofs.Ytbmdbkjmleimmaa.Rp Go.Proofs.Ytbmdbkjmleimmaa.Sl Go.Proofs.YtbmdbkjmleimmaaW.PrintWords Go.Proofs.YtbmdbkjmleimmaaW.PrintLast Go.Proofs.YtbmdbkjmleimmaaW.PrintMore
set_option linter.unusedVariables false

theorem neg_neg_map (t : List Int) : ((t.map fun y : Int => -y).map fun y => -y) = t := by
  rw [List.map_map]
  exact (List.map_congr_left (fun y _ => Int.neg_neg y)).trans (List.map_id t)
theorem fits_neg' {x t : List Int} (h : Fits x (t.map fun y => -y)) : Fits x t := by
  have := fits_neg h
  rwa [neg_neg_map] at this
/-- Both ways round. -/
theorem fit_both {x t : List Int} (up : Bool) (h : Fits x t) : ∃ L M : List Int, Ev (fun k => slope_Fit.f k x t up) (L, 0) ∧ Ev (fun k => slope_Fit.f k x (t.map fun y => -y) (!up)) (M, 0) ∧ L.length = M.length ∧ L.length ≤ 4096 ∧ ∀ j : Nat, j < L.length → rd L j = wrap64 (-(rd M j)) := by
  obtain ⟨b, eb, hb⟩ := fits_ev x t
  obtain rfl : b = true := hb.2 h
  obtain ⟨b', eb', hb'⟩ := fits_ev x (t.map fun y => -y)
  obtain rfl : b' = true := hb'.2 (fits_neg h)
  have ht : ∀ j : Nat, j < t.length → -1073741824 ≤ rd t j ∧ rd t j ≤ 1073741824 := fun j hj => (h.2.2.2 j (by have := h.1; omega)).2.1
  have hq : ∀ j : Nat, j < (t.map fun y : Int => -y).length → -1073741824 ≤ rd (t.map fun y => -y) j ∧ rd (t.map fun y => -y) j ≤ 1073741824 := by
    intro j hj
    rw [List.length_map] at hj
    rw [rd_map _ hj]
    have := ht j hj
    omega
  cases up with
  | true =>
    obtain ⟨L, W, hu, hE⟩ := ends_up h
    refine ⟨L, L.map fun y => -y, ?_, ?_, by simp, hE.most, fun j hj => ?_⟩
    · unfold slope_Fit.f
      refine Ev.bind eb (Ev.pos rfl (Ev.pos rfl ?_))
      rw [hu]
      exact Ev.now _
    · have e1 : ((t.map fun y : Int => -y).map fun y => wrap64 (-y)) = t := by
        rw [mirrored_id (fun j hj => by have := hq j hj; omega), neg_neg_map]
      have e2 : (L.map fun y => wrap64 (-y)) = L.map fun y => -y := mirrored_id (fun j hj => by have := hE.bL j hj; omega)
      have m1 := mirrored_ev (t.map fun y => -y) (by rw [List.length_map]; have := h.1; have := h.2.2.1; omega)
      have m2 := mirrored_ev L hE.most
      rw [e1] at m1
      rw [e2] at m2
      unfold slope_Fit.f
      refine Ev.bind eb' (Ev.pos rfl (Ev.neg (by decide) (Ev.bind m1 ?_)))
      rw [hu]
      simp only [Option.bind_some]
      exact Ev.bind m2 (Ev.now _)
    · rw [rd_map _ hj, Int.neg_neg, wrap_id (by have := hE.bL j hj; omega) (by have := hE.bL j hj; omega)]
  | false =>
    obtain ⟨L, W, hu, hE⟩ := ends_up (fits_neg h)
    refine ⟨L.map fun y => -y, L, ?_, ?_, by simp, by rw [List.length_map]; exact hE.most, fun j hj => ?_⟩
    · have e1 : (t.map fun y => wrap64 (-y)) = t.map fun y => -y := mirrored_id (fun j hj => by have := ht j hj; omega)
      have e2 : (L.map fun y => wrap64 (-y)) = L.map fun y => -y := mirrored_id (fun j hj => by have := hE.bL j hj; omega)
      have m1 := mirrored_ev t (by have := h.1; have := h.2.2.1; omega)
      have m2 := mirrored_ev L hE.most
      rw [e1] at m1
      rw [e2] at m2
      unfold slope_Fit.f
      refine Ev.bind eb (Ev.pos rfl (Ev.neg (by decide) (Ev.bind m1 ?_)))
      rw [hu]
      simp only [Option.bind_some]
      exact Ev.bind m2 (Ev.now _)
    · unfold slope_Fit.f
      refine Ev.bind eb' (Ev.pos rfl (Ev.pos (by decide) ?_))
      rw [hu]
      exact Ev.now _
    · rw [List.length_map] at hj
      rw [rd_map _ hj, wrap_id (by have := hE.bL j hj; omega) (by have := hE.bL j hj; omega)]
theorem Slant_eq (t : List Int) (up : Bool) (hl : t.length ≤ 400) (h : ∀ j : Nat, j < t.length → -1099511627776 ≤ rd t j ∧ rd t j ≤ 1099511627776) : slope_Slant.f t up = some (if t.length < 2 then 0 else slantV t up) := by
  unfold slope_Slant.f
  by_cases c : t.length < 2
  · rw [if_pos (by omega), if_pos c]
  · have hany : ¬ t.any slope_Slant.bad = true := by
      intro q
      obtain ⟨y, hy, hb⟩ := List.any_eq_true.1 q
      obtain ⟨j, hj, rfl⟩ := List.mem_iff_getElem.1 hy
      have := h j hj
      rw [rd_lt hj] at this
      simp [slope_Slant.bad] at hb
      omega
    rw [if_neg (by omega), if_neg (by omega), if_neg hany, if_neg c]
    have g0 := h 0 (by omega)
    have gl := h (t.length - 1) (by omega)
    rw [show ((t.length - 1 : Nat) : Int) = (t.length : Int) - 1 by omega] at gl
    exact slant_eq t up (by omega) g0 gl
theorem mirror_l1 (L M : List Int) (hl : L.length = M.length) (hm : L.length ≤ 4096) (h : ∀ j : Nat, j < L.length → rd L j = wrap64 (-(rd M j))) : ∀ (d j : Nat), j + d = L.length → Ev (fun k => neumelaw19_SlopeMirror.l1 k L M (j : Int)) true
  | 0, j, hj => by
    refine Ev.succ ?_
    simp only [neumelaw19_SlopeMirror.l1]
    exact Ev.neg (by omega) heads_bind
  | d + 1, j, hj => by
    have ih := mirror_l1 L M hl hm h d (j + 1) (by omega)
    refine Ev.succ ?_
    simp only [neumelaw19_SlopeMirror.l1]
    rw [wrap_id (x := (j : Int) + 1) (by omega) (by omega)]
    exact Ev.pos (by omega) (Ev.pos (by omega) (Ev.pos (by omega) (Ev.pos (h j (by omega)) (by exact_mod_cast ih))))
theorem mirror_j2 (L M : List Int) (hl : L.length = M.length) (hm : L.length ≤ 4096) (h : ∀ j : Nat, j < L.length → rd L j = wrap64 (-(rd M j))) : Ev (fun k => neumelaw19_SlopeMirror.j2 k L M false) true := by
  refine Ev.succ ?_
  simp only [neumelaw19_SlopeMirror.j2, Bool.false_eq_true, if_false]
  exact mirror_l1 L M hl hm h L.length 0 (by omega)
theorem mirror_end (x t : List Int) (up : Bool) (hl : t.length ≤ 400) (h : ∀ j : Nat, j < t.length → -1099511627776 ≤ rd t j ∧ rd t j ≤ 1099511627776) : Ev (fun k => (slope_Fit.f k x t up).bind fun bt199 => (slope_Fit.f k x (t.map fun y => -y) (!up)).bind fun bt203 => (if bt199.2 = bt203.2 then (if (bt199.1.length : Int) = (bt203.1.length : Int) then ((slope_Slant.f t up).bind fun t207 => ((slope_Slant.f (t.map fun y => -y) (!up)).bind fun t208 => (neumelaw19_SlopeMirror.j2 k bt199.1 bt203.1 (t207 != (wrap64 (-t208)))))) else (neumelaw19_SlopeMirror.j2 k bt199.1 bt203.1 true)) else (neumelaw19_SlopeMirror.j2 k bt199.1 bt203.1 true))) true := by
  have S1 := Slant_eq t up hl h
  have S2 := Slant_eq (t.map fun y => -y) (!up) (by simpa using hl) (fun j hj => by
    rw [List.length_map] at hj
    rw [rd_map _ hj]
    have := h j hj
    omega)
  have hs : ((if t.length < 2 then 0 else slantV t up) != wrap64 (-(if (t.map fun y : Int => -y).length < 2 then 0 else slantV (t.map fun y => -y) (!up)))) = false := by
    rw [List.length_map]
    by_cases c : t.length < 2
    · rw [if_pos c, if_pos c, wrap_id (by decide) (by decide)]; decide
    · rw [if_neg c, if_neg c, slant_neg t up (by omega)]
      have := slant_rng t up
      rw [Int.neg_neg, wrap_id (by omega) (by omega)]
      simp
  rw [S1, S2]
  simp only [Option.bind_some, hs]
  by_cases hF : Fits x t
  · obtain ⟨L, M, e1, e2, hLM, h4, hj⟩ := fit_both up hF
    exact Ev.bind e1 (Ev.bind e2 (Ev.pos rfl (Ev.pos (show (L.length : Int) = (M.length : Int) by omega) (mirror_j2 L M hLM h4 hj))))
  · exact Ev.bind (fit_bad up hF) (Ev.bind (fit_bad (!up) (fun q => hF (fits_neg' q))) (Ev.pos rfl (Ev.pos rfl (mirror_j2 [] [] rfl (by simp) (fun j hj => absurd hj (by simp))))))
theorem mirror_l0 (x t : List Int) (up : Bool) (hl : t.length ≤ 400) : ∀ (d j : Nat), j + d = t.length → (∀ i : Nat, i < j → -1099511627776 ≤ rd t i ∧ rd t i ≤ 1099511627776) → Ev (fun k => neumelaw19_SlopeMirror.l0 k x t up ((t.take j).map fun y => -y) (j : Int)) true
  | 0, j, hj, h => by
    obtain rfl : j = t.length := by omega
    refine Ev.succ ?_
    simp only [neumelaw19_SlopeMirror.l0]
    rw [List.take_length]
    exact Ev.neg (by omega) (mirror_end x t up hl h)
  | d + 1, j, hj, h => by
    refine Ev.succ ?_
    simp only [neumelaw19_SlopeMirror.l0]
    refine Ev.pos (by omega) (Ev.pos (by omega) ?_)
    by_cases c1 : rd t (j : Int) < -1099511627776
    · exact Ev.pos c1 heads_bind
    · by_cases c2 : rd t (j : Int) > 1099511627776
      · exact Ev.neg c1 (Ev.pos c2 heads_bind)
      · have ih := mirror_l0 x t up hl d (j + 1) (by omega) (fun i hi => by
          rcases Nat.lt_succ_iff_lt_or_eq.1 hi with hi | rfl
          · exact h i hi
          · omega)
        have e : ((t.take j).map fun y : Int => -y) ++ [wrap64 (-(rd t (j : Int)))] = (t.take (j + 1)).map fun y => -y := by
          rw [wrap_id (by omega) (by omega), List.take_succ_eq_append_getElem (by omega), List.map_append, rd_lt (by omega)]
          rfl
        refine Ev.neg c1 (Ev.neg c2 (Ev.pos (by simp; omega) ?_))
        rw [e, wrap_id (x := (j : Int) + 1) (by omega) (by omega)]
        exact_mod_cast ih
theorem SlopeMirror : neumelaw19_SlopeMirror.Pure := by
  intro x t up
  intros
  refine Ev.rounds (g := fun k => neumelaw19_SlopeMirror.f k x t up) ?_
  have bad : Ev (fun k => neumelaw19_SlopeMirror.j0 k x t up true) true := by
    refine Ev.succ ?_
    simp only [neumelaw19_SlopeMirror.j0, if_true]
    exact heads_bind
  unfold neumelaw19_SlopeMirror.f
  by_cases c1 : (x.length : Int) > 400
  · exact Ev.pos c1 bad
  · refine Ev.neg c1 ?_
    by_cases c2 : (t.length : Int) > 400
    · rw [decide_eq_true c2]; exact bad
    · rw [decide_eq_false c2]
      refine Ev.succ ?_
      simp only [neumelaw19_SlopeMirror.j0, Bool.false_eq_true, if_false]
      exact mirror_l0 x t up (by omega) t.length 0 (by omega) (fun i hi => absurd hi (by omega))
end Go.Proofs.Ytbmdbkjmleimmaa.Pure
