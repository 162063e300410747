/- The law SlopeShort of layer 19: for all rows of xs and tips and both directions the law answers true (no condition). -/
import Derived.Test.YtbmdbkjmleimmaaPx4
import Derived.Test.YtbmdbkjmleimmaaSlopePlain
namespace Go.Proofs.Ytbmdbkjmleimmaa.Pure
open Go.RowKit Go.Proofs.Ytbmdbkjmleimmaa.P Go.Proofs.Ytbmdbkjmleimmaa.Rp Go.Proofs.Ytbmdbkjmleimmaa.Sl Go.Proofs.YtbmdbkjmleimmaaW.PrintWords Go.Proofs.YtbmdbkjmleimmaaW.PrintLast Go.Proofs.YtbmdbkjmleimmaaW.PrintMore
set_option linter.unusedVariables false

/-- What the law asks of a row of ends. -/
structure Ends (x t L : List Int) (up : Bool) (W : Int) : Prop where
  lx : L.length = x.length
  lt : L.length = t.length
  two : 2 ≤ L.length
  most : L.length ≤ 4096
  hW : rd x ((L.length : Int) - 1) - rd x 0 = W
  W0 : 0 < W
  W1 : W ≤ 2147483648
  bL : ∀ j : Nat, j < L.length → -90071992547409920 ≤ rd L j ∧ rd L j ≤ 90071992547409920
  bt : ∀ j : Nat, j < L.length → -1073741824 ≤ rd t j ∧ rd t j ≤ 1073741824
  bx : ∀ j : Nat, j < L.length → -1073741824 ≤ rd x j ∧ rd x j ≤ 1073741824
  less : ∀ j : Nat, j < L.length → (if up = true then rd L j - rd t j else -(rd L j - rd t j)) ≥ -1024
  first : (if up = true then rd L 0 - rd t 0 else -(rd L 0 - rd t 0)) ≥ -512
  a : ∀ j : Nat, j < L.length → -4398046511104 ≤ (rd L j - rd L 0) * W ∧ (rd L j - rd L 0) * W ≤ 4398046511104
  c : ∀ j : Nat, j < L.length → -4398046511104 ≤ (rd L ((L.length : Int) - 1) - rd L 0) * (rd x j - rd x 0) ∧ (rd L ((L.length : Int) - 1) - rd L 0) * (rd x j - rd x 0) ≤ 4398046511104
  off : ∀ j : Nat, j < L.length → -W ≤ (rd L j - rd L 0) * W - (rd L ((L.length : Int) - 1) - rd L 0) * (rd x j - rd x 0) ∧ (rd L j - rd L 0) * W - (rd L ((L.length : Int) - 1) - rd L 0) * (rd x j - rd x 0) ≤ W
  s1 : -1024 ≤ rd L ((L.length : Int) - 1) - rd L 0 ∧ rd L ((L.length : Int) - 1) - rd L 0 ≤ 1024
  s2 : (256 : Int) ∣ rd L ((L.length : Int) - 1) - rd L 0
  s3 : (256 : Int) ∣ rd L 0
theorem short_loop {x t L : List Int} {up : Bool} {W : Int} (h : Ends x t L up W) : ∀ (d j : Nat), j + d = L.length → Ev (fun k => neumelaw19_SlopeShort.l0 k x t up L (L.length : Int) (j : Int)) true
  | 0, j, hj => by
    have hn := h.two
    have hm := h.most
    have b0 := h.bL 0 (by omega)
    have bl := h.bL (L.length - 1) (by omega)
    rw [show ((L.length - 1 : Nat) : Int) = (L.length : Int) - 1 by omega] at bl
    simp only [Int.natCast_zero] at b0
    have s1 := h.s1
    refine Ev.succ ?_
    simp only [neumelaw19_SlopeShort.l0]
    rw [wrap_id (x := (L.length : Int) - 1) (by omega) (by omega), wrap_id (x := rd L ((L.length : Int) - 1) - rd L 0) (by omega) (by omega)]
    exact Ev.neg (by omega) (Ev.pos (by omega) (Ev.pos (by omega) (Ev.pos (by omega) (Ev.pos (by omega) (Ev.pos (by omega) (Ev.pos (Int.tmod_eq_zero_of_dvd h.s2) (Ev.pos (Int.tmod_eq_zero_of_dvd h.s3) heads_bind)))))))
  | d + 1, j, hj => by
    have ih := short_loop h d (j + 1) (by omega)
    have hn := h.two
    have hm := h.most
    have lx := h.lx
    have lt := h.lt
    have b0 := h.bL 0 (by omega)
    have bl := h.bL (L.length - 1) (by omega)
    have bj := h.bL j (by omega)
    have tj := h.bt j (by omega)
    have x0 := h.bx 0 (by omega)
    have xj := h.bx j (by omega)
    have xl := h.bx (L.length - 1) (by omega)
    rw [show ((L.length - 1 : Nat) : Int) = (L.length : Int) - 1 by omega] at bl xl
    simp only [Int.natCast_zero] at b0 x0
    have s1 := h.s1
    have ea := h.a j (by omega)
    have ec := h.c j (by omega)
    have eo := h.off j (by omega)
    have el := h.less j (by omega)
    have hW := h.hW
    have W0 := h.W0
    have W1 := h.W1
    have J4 : Ev (fun k => neumelaw19_SlopeShort.j4 k x t up L (L.length : Int) (j : Int) false) true := by
      refine Ev.succ ?_
      simp only [neumelaw19_SlopeShort.j4, Bool.false_eq_true, if_false]
      rw [wrap_id (x := (L.length : Int) - 1) (by omega) (by omega), wrap_id (x := rd L ((L.length : Int) - 1) - rd L 0) (by omega) (by omega), wrap_id (x := rd x ((L.length : Int) - 1) - rd x 0) (by omega) (by omega), hW,
        wrap_id (x := rd L (j : Int) - rd L 0) (by omega) (by omega), wrap_id (x := rd x (j : Int) - rd x 0) (by omega) (by omega), wrap_id (x := (rd L (j : Int) - rd L 0) * W) (by omega) (by omega), wrap_id (x := (rd L ((L.length : Int) - 1) - rd L 0) * (rd x (j : Int) - rd x 0)) (by omega) (by omega), wrap_id (x := (rd L (j : Int) - rd L 0) * W - (rd L ((L.length : Int) - 1) - rd L 0) * (rd x (j : Int) - rd x 0)) (by omega) (by omega),
        wrap_id (x := rd x 0 - rd x ((L.length : Int) - 1)) (by omega) (by omega), wrap_id (x := (j : Int) + 1) (by omega) (by omega)]
      exact Ev.pos (by omega) (Ev.pos (by omega) (Ev.pos (by omega) (Ev.pos (by omega) (Ev.pos (by omega) (Ev.pos (by omega) (Ev.pos (by omega) (Ev.pos (by omega) (Ev.neg (by omega) (Ev.neg (by omega) (by exact_mod_cast ih))))))))))
    have J3 : ∀ q : Int, q ≥ -1024 → ((j : Int) = 0 → q ≥ -512) → Ev (fun k => neumelaw19_SlopeShort.j3 k x t up L (L.length : Int) (j : Int) q) true := by
      intro q h1 h2
      refine Ev.succ ?_
      simp only [neumelaw19_SlopeShort.j3]
      refine Ev.neg (by omega) ?_
      by_cases c : (j : Int) = 0
      · have := h2 c
        rw [decide_eq_false (show ¬ q < -512 by omega)]
        exact Ev.pos c J4
      · exact Ev.neg c J4
    refine Ev.succ ?_
    simp only [neumelaw19_SlopeShort.l0]
    rw [wrap_id (x := rd L (j : Int) - rd t (j : Int)) (by omega) (by omega), wrap_id (x := -(rd L (j : Int) - rd t (j : Int))) (by omega) (by omega)]
    refine Ev.pos (by omega) (Ev.pos (by omega) (Ev.pos (by omega) (Ev.pos (by omega) ?_)))
    have ef := h.first
    by_cases cu : up = true
    · rw [if_pos cu] at el ef
      refine Ev.pos cu (J3 _ el (fun c => ?_))
      have hj0 : j = 0 := by omega
      subst hj0
      exact ef
    · rw [if_neg cu] at el ef
      refine Ev.neg cu (J3 _ el (fun c => ?_))
      have hj0 : j = 0 := by omega
      subst hj0
      exact ef
/-- Of stems that go up. -/
theorem ends_up {x t : List Int} (h : Fits x t) : ∃ L W, slope_upwards.f x t = some L ∧ Ends x t L true W := by
  obtain ⟨s, W, b, hu, hW, W0, W1, hs, hb, hb0, hb1, hb2, hlow⟩ := upwards_ok x t h
  have sr := slant_rng t true
  rw [← hs] at sr
  have hlen : (x.map fun y => b + near (s * (y - rd x 0)) W).length = x.length := by simp
  have at_ : ∀ j : Nat, j < x.length → rd (x.map fun y => b + near (s * (y - rd x 0)) W) j = b + near (s * (rd x j - rd x 0)) W := fun j hj => rd_map _ hj
  have h0 : rd (x.map fun y => b + near (s * (y - rd x 0)) W) 0 = b := by
    have := at_ 0 (by have := h.2.1; omega)
    simp only [Int.natCast_zero, Int.sub_self, Int.mul_zero] at this
    rw [this, near_zero W W0]; omega
  have hn : rd (x.map fun y => b + near (s * (y - rd x 0)) W) ((x.length : Int) - 1) = b + s := by
    have := at_ (x.length - 1) (by have := h.2.1; omega)
    rw [show ((x.length - 1 : Nat) : Int) = (x.length : Int) - 1 by have := h.2.1; omega, ← hW, near_self s W W0] at this
    exact this
  have xr : ∀ j : Nat, j < x.length → 0 ≤ rd x j - rd x 0 ∧ rd x j - rd x 0 ≤ W := by
    intro j hj
    have r1 := (rising h j 0 (by omega)).1
    have r2 := (rising h (x.length - 1 - j) j (by omega)).1
    rw [show 0 + j = j by omega] at r1
    rw [show j + (x.length - 1 - j) = x.length - 1 by omega, show ((x.length - 1 : Nat) : Int) = (x.length : Int) - 1 by omega] at r2
    simp only [Int.natCast_zero] at r1
    omega
  have nr : ∀ j : Nat, j < x.length → -2199023255552 ≤ s * (rd x j - rd x 0) ∧ s * (rd x j - rd x 0) ≤ 2199023255552 := by
    intro j hj
    have c := xr j hj
    have u := Int.mul_le_mul_of_nonneg_right sr.2.1 c.1
    have v := Int.mul_le_mul_of_nonneg_right sr.1 c.1
    omega
  refine ⟨_, W, hu, ⟨hlen, by rw [hlen]; exact h.1, by rw [hlen]; exact h.2.1, by rw [hlen]; exact h.2.2.1, by rw [hlen]; exact hW.symm, W0, W1, ?_, ?_, ?_, ?_, ?_, ?_, ?_, ?_, ?_, ?_, ?_⟩⟩
  · intro j hj
    rw [hlen] at hj
    rw [at_ j hj]
    have := near_rng _ W _ W0 (by omega) (nr j hj)
    omega
  · intro j hj; rw [hlen] at hj; exact (h.2.2.2 j hj).2.1
  · intro j hj; rw [hlen] at hj; exact (h.2.2.2 j hj).1
  · intro j hj
    rw [hlen] at hj
    rw [if_pos rfl, at_ j hj]
    have := hlow j hj
    omega
  · rw [if_pos rfl, h0]; omega
  · intro j hj
    rw [hlen] at hj
    rw [at_ j hj, h0, show b + near (s * (rd x j - rd x 0)) W - b = near (s * (rd x j - rd x 0)) W by omega]
    have := near_bd (s * (rd x j - rd x 0)) W W0
    have := nr j hj
    omega
  · intro j hj
    rw [hlen] at hj ⊢
    rw [hn, h0, show b + s - b = s by omega]
    have := nr j hj
    omega
  · intro j hj
    rw [hlen] at hj ⊢
    rw [at_ j hj, hn, h0, show b + near (s * (rd x j - rd x 0)) W - b = near (s * (rd x j - rd x 0)) W by omega, show b + s - b = s by omega]
    have := near_bd (s * (rd x j - rd x 0)) W W0
    omega
  · rw [hlen, hn, h0]; omega
  · rw [hlen, hn, h0, show b + s - b = s by omega]; exact Int.dvd_of_emod_eq_zero sr.2.2
  · rw [h0]; exact Int.dvd_of_emod_eq_zero hb
/-- Upside down. -/
theorem ends_down {x t L : List Int} {W : Int} (h : Ends x (t.map fun y => -y) L true W) : Ends x t (L.map fun y => -y) false W := by
  have hlen : (L.map fun y : Int => -y).length = L.length := by simp
  have hlt : L.length = t.length := by have := h.lt; simpa using this
  have at_ : ∀ j : Nat, j < L.length → rd (L.map fun y => -y) j = -rd L j := fun j hj => rd_map _ hj
  have tt : ∀ j : Nat, j < L.length → rd (t.map fun y => -y) j = -rd t j := fun j hj => rd_map _ (by omega)
  have two := h.two
  have h0 : rd (L.map fun y => -y) 0 = -rd L 0 := at_ 0 (by omega)
  have hn : rd (L.map fun y => -y) ((L.length : Int) - 1) = -rd L ((L.length : Int) - 1) := by
    have := at_ (L.length - 1) (by omega)
    rw [show ((L.length - 1 : Nat) : Int) = (L.length : Int) - 1 by omega] at this
    exact this
  refine ⟨by rw [hlen]; exact h.lx, by rw [hlen]; exact hlt, by rw [hlen]; exact h.two, by rw [hlen]; exact h.most, by rw [hlen]; exact h.hW, h.W0, h.W1, ?_, ?_, ?_, ?_, ?_, ?_, ?_, ?_, ?_, ?_, ?_⟩
  · intro j hj; rw [hlen] at hj; rw [at_ j hj]; have := h.bL j hj; omega
  · intro j hj; rw [hlen] at hj; have := h.bt j hj; rw [tt j hj] at this; omega
  · intro j hj; rw [hlen] at hj; exact h.bx j hj
  · intro j hj; rw [hlen] at hj; rw [if_neg (by decide), at_ j hj]; have := h.less j hj; rw [if_pos rfl, tt j hj] at this; omega
  · rw [if_neg (by decide), h0]; have := h.first; have := tt 0 (by omega); rw [if_pos rfl] at *; simp only [Int.natCast_zero] at this; omega
  · intro j hj; rw [hlen] at hj; rw [at_ j hj, h0, show -rd L j - -rd L 0 = -(rd L j - rd L 0) by omega, Int.neg_mul]; have := h.a j hj; omega
  · intro j hj; rw [hlen] at hj ⊢; rw [hn, h0, show -rd L ((L.length : Int) - 1) - -rd L 0 = -(rd L ((L.length : Int) - 1) - rd L 0) by omega, Int.neg_mul]; have := h.c j hj; omega
  · intro j hj; rw [hlen] at hj ⊢; rw [hn, at_ j hj, h0, show -rd L ((L.length : Int) - 1) - -rd L 0 = -(rd L ((L.length : Int) - 1) - rd L 0) by omega, show -rd L j - -rd L 0 = -(rd L j - rd L 0) by omega, Int.neg_mul, Int.neg_mul]; have := h.off j hj; omega
  · rw [hlen, hn, h0]; have := h.s1; omega
  · rw [hlen, hn, h0, show -rd L ((L.length : Int) - 1) - -rd L 0 = -(rd L ((L.length : Int) - 1) - rd L 0) by omega]; exact Int.dvd_neg.2 h.s2
  · rw [h0]; exact Int.dvd_neg.2 h.s3
theorem mirrored_id {l : List Int} (h : ∀ j : Nat, j < l.length → -9007199254740992 * 100 ≤ rd l j ∧ rd l j ≤ 9007199254740992 * 100) : (l.map fun y => wrap64 (-y)) = l.map fun y => -y := by
  refine List.map_congr_left (fun y hy => ?_)
  obtain ⟨j, hj, rfl⟩ := List.mem_iff_getElem.1 hy
  have := h j hj
  rw [rd_lt hj] at this
  exact wrap_id (by omega) (by omega)
theorem fits_neg {x t : List Int} (h : Fits x t) : Fits x (t.map fun y => -y) := by
  refine ⟨by simpa using h.1, h.2.1, h.2.2.1, fun i hi => ?_⟩
  have g := h.2.2.2 i hi
  refine ⟨g.1, ?_, g.2.2⟩
  rw [rd_map _ (by have := h.1; omega)]
  have := g.2.1
  unfold Close at *
  omega
/-- Where stems end. -/
theorem fit_ok {x t : List Int} (up : Bool) (h : Fits x t) : ∃ L W, Ev (fun k => slope_Fit.f k x t up) (L, 0) ∧ Ends x t L up W := by
  obtain ⟨b, eb, hb⟩ := fits_ev x t
  obtain rfl : b = true := hb.2 h
  cases up with
  | true =>
    obtain ⟨L, W, hu, hE⟩ := ends_up h
    refine ⟨L, W, ?_, hE⟩
    unfold slope_Fit.f
    refine Ev.bind eb (Ev.pos rfl (Ev.pos rfl ?_))
    rw [hu]
    exact Ev.now _
  | false =>
    obtain ⟨L, W, hu, hE⟩ := ends_up (fits_neg h)
    refine ⟨L.map fun y => -y, W, ?_, ends_down hE⟩
    have e1 : (t.map fun y => wrap64 (-y)) = t.map fun y => -y := mirrored_id (fun j hj => by have := (h.2.2.2 j (by have := h.1; omega)).2.1; unfold Close at this; omega)
    have e2 : (L.map fun y => wrap64 (-y)) = L.map fun y => -y := mirrored_id (fun j hj => by have := hE.bL j hj; omega)
    have m1 := mirrored_ev t (by have := h.1; have := h.2.2.1; omega)
    have m2 := mirrored_ev L hE.most
    rw [e1] at m1
    rw [e2] at m2
    unfold slope_Fit.f
    refine Ev.bind eb (Ev.pos rfl (Ev.neg (by decide) (Ev.bind m1 ?_)))
    rw [hu]
    simp only [Option.bind_some]
    exact Ev.bind m2 (Ev.now _)
theorem fit_bad {x t : List Int} (up : Bool) (h : ¬ Fits x t) : Ev (fun k => slope_Fit.f k x t up) ([], 2) := by
  obtain ⟨b, eb, hb⟩ := fits_ev x t
  obtain rfl : b = false := by cases b with | false => rfl | true => exact absurd (hb.1 rfl) h
  unfold slope_Fit.f
  exact Ev.bind eb (Ev.neg (by decide) (Ev.now _))

theorem SlopeShort : neumelaw19_SlopeShort.Pure := by
  intro x t up
  intros
  refine Ev.rounds (g := fun k => neumelaw19_SlopeShort.f k x t up) ?_
  have bad : Ev (fun k => neumelaw19_SlopeShort.j0 k x t up true) true := by
    refine Ev.succ ?_
    simp only [neumelaw19_SlopeShort.j0, if_true]
    exact heads_bind
  unfold neumelaw19_SlopeShort.f
  by_cases c1 : (x.length : Int) > 400
  · exact Ev.pos c1 bad
  · refine Ev.neg c1 ?_
    by_cases c2 : (t.length : Int) > 400
    · rw [decide_eq_true c2]; exact bad
    · rw [decide_eq_false c2]
      refine Ev.succ ?_
      simp only [neumelaw19_SlopeShort.j0, Bool.false_eq_true, if_false]
      by_cases hF : Fits x t
      · obtain ⟨L, W, e, hE⟩ := fit_ok up hF
        have lx := hE.lx
        have lt := hE.lt
        have two := hE.two
        refine Ev.bind e (Ev.pos rfl (Ev.pos (show (L.length : Int) = (t.length : Int) by omega) (Ev.pos (show (L.length : Int) = (x.length : Int) by omega) ?_)))
        simp only [decide_eq_false (show ¬ (L.length : Int) < 2 by omega)]
        refine Ev.succ ?_
        simp only [neumelaw19_SlopeShort.j1, Bool.false_eq_true, if_false]
        exact short_loop hE L.length 0 (by omega)
      · refine Ev.bind (fit_bad up hF) (Ev.neg (by decide) (Ev.pos (by decide) heads_bind))
end Go.Proofs.Ytbmdbkjmleimmaa.Pure
