/- TokenChecks: which rows may be tokens, and how they are written: the program and the reference agree. -/
import Derived.Test.YtmffjjncnbeldaaDoorStatTokenChecks
import Derived.Test.YtmffjjncnbeldaaDoorTokJoin
import Derived.Test.YtmffjjncnbeldaaDoorPx13
import Derived.Test.YtmffjjncnbeldaaDoorPx14
namespace Go.Proofs.YtmffjjncnbeldaaDoor.Pure
open Go.RowKit Go.Proofs.YtmffjjncnbeldaaDoor.P Go.Proofs.YtmffjjncnbeldaaDoor.Rp Go.Proofs.YtmffjjncnbeldaaDoorW.PrintWords Go.Proofs.YtmffjjncnbeldaaDoorW.PrintLast Go.Proofs.YtmffjjncnbeldaaDoorW.PrintMore
set_option linter.unusedVariables false
set_option linter.unusedSimpArgs false
theorem rawR_eq (t : TK) (h : (txT t).length < 4611686018427387000) : neumeref08_raw.f t.f0 t.f1 t.f2 = some (bs (rawT t)) := by
  rw [f1_bs]
  unfold neumeref08_raw.f rawT
  by_cases c : t.f0 = 5
  · rw [if_pos c, if_pos c, bs_size, if_pos (by omega), if_pos (by omega)]
    rw [show (⟨#[34]⟩ : ByteArray) = bs [34] from rfl, bs_app, bs_app]
    rfl
  · rw [if_neg c, if_neg c]
theorem alone_eight (t : TK) (h : t.f0 = 8) : aloneB t = false := by
  unfold aloneB
  rw [decide_eq_false_iff_not]
  rintro ⟨h1, h2, h3, h4, h5, h6⟩
  obtain ⟨e1, _, _⟩ := nextS_ends h1
  obtain ⟨_, _, _, d, _⟩ := e1 h4
  omega
/-- What a round of the reference's check tells, behind its first test. -/
theorem rcheck_j1 (L : List TK) (i : Nat) (t : TK) (x : Bool) (r : Bool) (hl : (txT t).length < 4611686018427380000)
    (hx : x = true → r = false) (h8 : x = false → t.f0 = 8 → r = decide (txT t = []))
    (hn : x = false → t.f0 ≠ 8 → (aloneB t = false ∧ r = false) ∨ (aloneB t = true ∧ Ev (fun k => neumeref08_Check.l0 k L ((i : Int) + 1)) r)) (hi : i < 1000000000) :
    Ev (fun k => neumeref08_Check.j1 k L (i : Int) x t.f0 t.f1 t.f2) r := by
  refine Ev.succ ?_
  simp only [neumeref08_Check.j1]
  cases x with
  | true => rw [hx rfl]; exact Ev.pos rfl (Ev.now _)
  | false =>
    refine Ev.neg (by simp) ?_
    by_cases c8 : t.f0 = 8
    · refine Ev.pos c8 (Ev.const ?_)
      rw [h8 rfl c8, f1_bs, bs_toList]
      congr 1
      by_cases q : txT t = []
      · rw [decide_eq_true q, q]; rfl
      · rw [decide_eq_false q]; exact beq_eq_false_iff_ne.2 q
    refine Ev.neg c8 (Ev.bindc (rawR_eq t (by omega)) ?_)
    have hrl := rawT_len t
    have hA : aloneB t = decide (rawT t ≠ [] ∧ (rawT t).length ≤ 65536 ∧ gapS false (rawT t) = 0 ∧ (nextS (rawT t)).2.2.1 = 0 ∧ ((nextS (rawT t)).1 : Int) = t.f0 ∧ (nextS (rawT t)).2.1 = (rawT t).length) := rfl
    have hn2 := hn rfl c8
    rw [hA] at hn2
    generalize rawT t = w at *
    have hbad : ¬ (w ≠ [] ∧ w.length ≤ 65536 ∧ gapS false w = 0 ∧ (nextS w).2.2.1 = 0 ∧ ((nextS w).1 : Int) = t.f0 ∧ (nextS w).2.1 = w.length) → r = false := by
      intro q
      rcases hn2 with ⟨_, h⟩ | ⟨h, _⟩
      · exact h
      · rw [decide_eq_true_eq] at h; exact absurd h q
    have hgo : (w ≠ [] ∧ w.length ≤ 65536 ∧ gapS false w = 0 ∧ (nextS w).2.2.1 = 0 ∧ ((nextS w).1 : Int) = t.f0 ∧ (nextS w).2.1 = w.length) → Ev (fun k => neumeref08_Check.l0 k L ((i : Int) + 1)) r := by
      intro q
      rcases hn2 with ⟨h, _⟩ | ⟨_, h⟩
      · rw [decide_eq_false_iff_not] at h; exact absurd q h
      · exact h
    clear hn2 hn hA
    have jt : ∀ (b : Bool) (x0 : Int) (x1 : ByteArray) (x2 : Int), b = true → r = false → Ev (fun k => neumeref08_Check.j2 k L (i : Int) (bs w) b x0 x1 x2) r := by
      intro b x0 x1 x2 hb hr
      rw [hr]
      refine Ev.succ ?_
      simp only [neumeref08_Check.j2]
      exact Ev.pos hb (Ev.now _)
    rw [bs_size]
    by_cases c1 : w = []
    · exact Ev.pos (by rw [c1]; rfl) (jt _ _ _ _ rfl (hbad (fun q => q.1 c1)))
    have hp := List.length_pos_iff.2 c1
    refine Ev.neg (by omega) ?_
    by_cases c2 : w.length ≤ 65536
    rotate_left
    · exact Ev.pos (by omega) (jt _ _ _ _ rfl (hbad (fun q => c2 q.2.1)))
    refine Ev.neg (by omega) ?_
    have hsk := skip_ev w 0 (by omega) (Nat.zero_le _)
    rw [List.drop_zero, Nat.zero_add, show ((0 : Nat) : Int) = 0 from rfl] at hsk
    refine Ev.bind hsk ?_
    by_cases c3 : gapS false w = 0
    rotate_left
    · exact jt _ _ _ _ (bne_iff_ne.2 (by omega)) (hbad (fun q => c3 q.2.2.1))
    rw [c3]
    refine Ev.succ ?_
    simp only [neumeref08_Check.j2]
    refine Ev.neg (by decide) ?_
    have hnx := next_ev (l := w) (p := 0) (by omega) hp
    rw [List.drop_zero, show ((0 : Nat) : Int) = 0 from rfl] at hnx
    by_cases c4 : (nextS w).2.2.1 = 0
    rotate_left
    · have hv : nextA 0 (nextS w) = (((nextS w).1 : Int), 0, ((nextS w).2.2.1 : Int), ((0 + (nextS w).2.2.2 : Nat) : Int)) := by
        unfold nextA
        rw [if_neg c4, if_neg c4]
      rw [hv] at hnx
      exact Ev.bind hnx (Ev.neg (show ¬ (((nextS w).2.2.1 : Int) = 0) by omega) (Ev.const (by rw [hbad (fun q => c4 q.2.2.2.1)])))
    have hv : nextA 0 (nextS w) = (((nextS w).1 : Int), ((nextS w).2.1 : Int), 0, 0) := by
      unfold nextA
      rw [if_pos c4, if_pos c4, c4, Nat.zero_add]
      rfl
    rw [hv] at hnx
    refine Ev.bind hnx (Ev.pos rfl ?_)
    by_cases c5 : ((nextS w).1 : Int) = t.f0
    rotate_left
    · exact Ev.neg c5 (Ev.const (by rw [hbad (fun q => c5 q.2.2.2.2.1)]))
    refine Ev.pos c5 ?_
    by_cases c6 : (nextS w).2.1 = w.length
    · refine Ev.pos (show ((nextS w).2.1 : Int) = ((bs w).size : Int) by rw [bs_size]; omega) ?_
      rw [wid (x := (i : Int) + 1) (by omega) (by omega)]
      exact hgo ⟨c1, c2, c3, c4, c5, c6⟩
    · exact Ev.neg (show ¬ (((nextS w).2.1 : Int) = ((bs w).size : Int)) by rw [bs_size]; omega) (Ev.const (by rw [hbad (fun q => c6 q.2.2.2.2.2)]))
theorem rcheck_l0 : ∀ (m : Nat) (L : List TK) (i : Nat) (e : Int), Fine L → L.length - i = m → i ≤ L.length → 0 ≤ e →
    (i = 0 → e = 0) → (∀ j, i = j + 1 → 0 ≤ (rd_T34 L (j : Int)).f2 ∧ e = (rd_T34 L (j : Int)).f2 + ((rawT (rd_T34 L (j : Int))).length : Int)) →
    Ev (fun k => neumeref08_Check.l0 k L (i : Int)) (checkB (L.drop i) e) := by
  intro m
  induction m with
  | zero =>
    intro L i e hF hm hi h0 hz hprev
    refine Ev.succ ?_
    simp only [neumeref08_Check.l0]
    rw [List.drop_eq_nil_of_le (by omega)]
    exact Ev.neg (by omega) (Ev.now _)
  | succ m ih =>
    intro L i e hF hm hi h0 hz hprev
    have hi2 : i < L.length := by omega
    have hlen := hF.1
    have hd := rd_drop hi2
    obtain ⟨b1, b2, b3⟩ := hF.2 _ (rd_mem hi2)
    have hih := ih L (i + 1) ((rd_T34 L (i : Int)).f2 + ((rawT (rd_T34 L (i : Int))).length : Int)) hF (by omega) (by omega)
    have hpv : ∀ j, i = j + 1 → (txT (rd_T34 L (j : Int))).length < 1000000000 := fun j hj => (hF.2 _ (rd_mem (L := L) (i := j) (by omega))).1
    generalize ht : rd_T34 L (i : Int) = t at *
    -- the answer, once the first test has passed
    have core : ∀ x : Bool, x = (!(decide (e ≤ t.f2)) || ((t.f0 == 8) != ((i : Int) == (L.length : Int) - 1))) → Ev (fun k => neumeref08_Check.j1 k L (i : Int) x t.f0 t.f1 t.f2) (checkB (L.drop i) e) := by
      intro x hx
      have hcb : checkB (L.drop i) e = if i + 1 = L.length then decide (e ≤ t.f2 ∧ t.f0 = 8 ∧ txT t = []) else (decide (e ≤ t.f2) && (aloneB t && checkB (L.drop (i + 1)) (t.f2 + (rawT t).length))) := by
        rw [hd]
        by_cases q : i + 1 = L.length
        · rw [if_pos q, List.drop_eq_nil_of_le (by omega)]; rfl
        · rw [if_neg q, rd_drop (L := L) (i := i + 1) (by omega)]; rfl
      refine rcheck_j1 L i t x _ (by omega) (fun q => ?_) (fun q q8 => ?_) (fun q q8 => ?_) (by omega)
      · rw [hcb]
        rw [q] at hx
        by_cases c1 : e ≤ t.f2
        · rw [decide_eq_true c1] at hx ⊢
          by_cases c2 : i + 1 = L.length
          · rw [if_pos c2, decide_eq_false_iff_not]
            rw [beq_iff_eq.2 (show (i : Int) = (L.length : Int) - 1 by omega)] at hx
            rintro ⟨_, h8, _⟩
            rw [beq_iff_eq.2 h8] at hx
            exact absurd hx (by decide)
          · rw [if_neg c2]
            rw [beq_eq_false_iff_ne.2 (show (i : Int) ≠ (L.length : Int) - 1 by omega)] at hx
            have h8 : t.f0 = 8 := by
              cases hh : t.f0 == 8 with
              | true => exact beq_iff_eq.1 hh
              | false => rw [hh] at hx; exact absurd hx (by decide)
            rw [alone_eight t h8]; rfl
        · by_cases c2 : i + 1 = L.length
          · rw [if_pos c2, decide_eq_false (fun z => c1 z.1)]
          · rw [if_neg c2, decide_eq_false c1]; rfl
      · rw [q] at hx
        have hxx := (Bool.or_eq_false_iff.1 hx.symm)
        have c1 : e ≤ t.f2 := by
          have := hxx.1
          rw [Bool.not_eq_false', decide_eq_true_eq] at this
          exact this
        have c2 : i + 1 = L.length := by
          have h2 := hxx.2
          rw [beq_iff_eq.2 q8] at h2
          cases hh : ((i : Int) == (L.length : Int) - 1) with
          | true => have := beq_iff_eq.1 hh; omega
          | false => rw [hh] at h2; exact absurd h2 (by decide)
        rw [hcb, if_pos c2]
        by_cases c3 : txT t = []
        · rw [decide_eq_true ⟨c1, q8, c3⟩, decide_eq_true c3]
        · rw [decide_eq_false (fun z => c3 z.2.2), decide_eq_false c3]
      · rw [q] at hx
        have hxx := (Bool.or_eq_false_iff.1 hx.symm)
        have c1 : e ≤ t.f2 := by
          have := hxx.1
          rw [Bool.not_eq_false', decide_eq_true_eq] at this
          exact this
        have c2 : ¬ i + 1 = L.length := by
          intro c2
          have h2 := hxx.2
          rw [beq_eq_false_iff_ne.2 q8, beq_iff_eq.2 (show (i : Int) = (L.length : Int) - 1 by omega)] at h2
          exact absurd h2 (by decide)
        rw [hcb, if_neg c2, decide_eq_true c1, Bool.true_and]
        cases ha : aloneB t with
        | false => exact Or.inl ⟨rfl, rfl⟩
        | true =>
          refine Or.inr ⟨rfl, ?_⟩
          rw [Bool.true_and, show (i : Int) + 1 = ((i + 1 : Nat) : Int) by omega]
          refine hih (by omega) (by omega) (fun j hj => ?_)
          obtain rfl : j = i := by omega
          rw [ht]
          exact ⟨by omega, rfl⟩
    refine Ev.succ ?_
    simp only [neumeref08_Check.l0]
    rw [ht]
    have HW := Aside0.mk (show wrap64 ((L.length : Int) - 1) = (L.length : Int) - 1 from wid (by omega) (by omega))
    refine Ev.pos (by omega) (Ev.pos (by omega) ?_)
    by_cases c1 : t.f2 < 0
    · refine Ev.pos c1 (core true ?_)
      rw [decide_eq_false (show ¬ e ≤ t.f2 by omega)]
      rfl
    refine Ev.neg c1 ?_
    rcases Nat.eq_zero_or_pos i with q0 | q0
    · refine Ev.neg (by omega) ?_
      rw [HW.out]
      refine core _ ?_
      rw [decide_eq_true (show e ≤ t.f2 by have := hz q0; omega)]
      rfl
    · obtain ⟨j, rfl⟩ : ∃ j, i = j + 1 := ⟨i - 1, by omega⟩
      obtain ⟨p1, p2⟩ := hprev j rfl
      have p3 := hpv j rfl
      have e1 : wrap64 (((j + 1 : Nat) : Int) - 1) = (j : Int) := by rw [wid (by omega) (by omega)]; omega
      simp only [e1]
      clear e1
      generalize rd_T34 L (j : Int) = pr at *
      refine Ev.pos (by omega) (Ev.pos (by omega) (Ev.pos (by omega) ?_))
      by_cases c2 : t.f2 < pr.f2
      · refine Ev.pos c2 (core true ?_)
        rw [decide_eq_false (show ¬ e ≤ t.f2 by omega)]
        rfl
      refine Ev.neg c2 (Ev.bindc (rawR_eq pr (by omega)) ?_)
      rw [bs_size]
      have HW2 := Aside0.mk (show wrap64 (t.f2 - pr.f2) = t.f2 - pr.f2 from wid (by omega) (by omega))
      simp only [HW2.out]
      by_cases c3 : t.f2 - pr.f2 < ((rawT pr).length : Int)
      · refine Ev.pos c3 (core true ?_)
        rw [decide_eq_false (show ¬ e ≤ t.f2 by omega)]
        rfl
      · refine Ev.neg c3 ?_
        simp only [HW.out]
        refine core _ ?_
        rw [decide_eq_true (show e ≤ t.f2 by omega)]
        rfl
theorem rcheck_ev (L : List TK) (hF : Fine L) : Ev (fun k => neumeref08_Check.f k L) (checkB L 0) := by
  have := rcheck_l0 L.length L 0 0 hF rfl (Nat.zero_le _) (by omega) (fun _ => rfl) (fun j hj => by omega)
  rw [List.drop_zero] at this
  exact this
theorem rjoin_l0 : ∀ (m : Nat) (L : List TK) (i : Nat) (acc : List UInt8), Fine L → i + 1 ≤ L.length → L.length - 1 - i = m → acc.length + sumT ((L.take (L.length - 1)).drop i) + 3 * (L.length - i) ≤ 100000000 →
    Ev (fun k => neumeref08_Join.l0 k L (bs acc) (i : Int)) (bs (acc ++ joinL (decide (0 < i)) ((L.take (L.length - 1)).drop i))) := by
  intro m
  induction m with
  | zero =>
    intro L i acc hF hi hm hs
    have hlen := hF.1
    refine Ev.succ ?_
    simp only [neumeref08_Join.l0]
    rw [w_succ (by omega), List.drop_eq_nil_of_le (by rw [List.length_take]; omega)]
    refine Ev.neg (by omega) (Ev.const ?_)
    simp [joinL]
  | succ m ih =>
    intro L i acc hF hi hm hs
    have hlen := hF.1
    have hd : (L.take (L.length - 1)).drop i = rd_T34 L (i : Int) :: (L.take (L.length - 1)).drop (i + 1) := join_take (by omega) (by omega)
    obtain ⟨b1, _, _⟩ := hF.2 _ (rd_mem (L := L) (i := i) (by omega))
    rw [hd] at hs ⊢
    generalize ht : rd_T34 L (i : Int) = t at *
    have hrl := rawT_len t
    simp only [sumT] at hs
    refine Ev.succ ?_
    simp only [neumeref08_Join.l0]
    rw [w_succ (by omega), ht]
    refine Ev.pos (by omega) ?_
    have hnext : ∀ acc', acc' = acc ++ ((if decide (0 < i) = true then [32] else []) ++ rawT t) → Ev (fun k => neumeref08_Join.l0 k L (bs acc') ((i + 1 : Nat) : Int)) (bs (acc ++ joinL (decide (0 < i)) (t :: (L.take (L.length - 1)).drop (i + 1)))) := by
      rintro acc' rfl
      refine Ev.to (ih L (i + 1) _ hF (by omega) (by omega) ?_) ?_
      · simp only [List.length_append]
        split <;> simp <;> omega
      · simp only [joinL, List.append_assoc]
        rw [decide_eq_true (show 0 < i + 1 by omega)]
    by_cases c : 0 < i
    · refine Ev.pos (by omega) (Ev.pos (by rw [bs_size]; omega) (Ev.pos (by omega) (Ev.pos (by omega) (Ev.bindc (rawR_eq t (by omega)) ?_))))
      rw [bs_size, bs_size]
      refine Ev.pos (by omega) ?_
      rw [show (⟨#[32]⟩ : ByteArray) = bs [32] from rfl, bs_app, bs_app]
      refine hnext _ ?_
      rw [if_pos (decide_eq_true c)]
      simp
    · refine Ev.neg (by omega) (Ev.pos (by omega) (Ev.pos (by omega) (Ev.bindc (rawR_eq t (by omega)) ?_)))
      rw [bs_size, bs_size]
      refine Ev.pos (by omega) ?_
      rw [bs_app]
      refine hnext _ ?_
      rw [if_neg (by rw [decide_eq_false c]; simp)]
      simp
theorem rjoin_ev (L : List TK) (hF : Fine L) (hs : sumT L + 3 * L.length ≤ 100000000) : Ev (fun k => neumeref08_Join.f k L) (bs (if checkB L 0 = true then joinL false (L.take (L.length - 1)) else [])) := by
  unfold neumeref08_Join.f
  refine Ev.bind (rcheck_ev L hF) ?_
  cases c : checkB L 0 with
  | false => exact Ev.neg (by simp) (Ev.now _)
  | true =>
    have hne : 1 ≤ L.length := by
      cases L with
      | nil => simp [checkB] at c
      | cons t r => simp
    have h1 := sumT_sub L (L.length - 1)
    refine Ev.pos rfl ?_
    have := rjoin_l0 (L.length - 1) L 0 [] hF (by omega) (by omega) (by rw [List.drop_zero]; simp only [List.length_nil]; omega)
    rw [List.drop_zero, List.nil_append] at this
    rw [if_pos rfl]
    exact this
theorem TokenChecks : TokenChecks_Pure := by
  intro L hb
  suffices h : Ev (fun k => neumelaw08_TokenChecks.f k L) true by
    obtain ⟨k, hk⟩ := h
    exact ⟨k, hk k (Nat.le_refl _)⟩
  unfold neumelaw08_TokenChecks.f
  obtain ⟨b, h1, h2⟩ := few_ev L hb.2.2
  refine Ev.bind h1 ?_
  cases b with
  | false => exact Ev.neg (by simp) heads_bind
  | true =>
    obtain ⟨hF, hl, hs, _⟩ := h2 rfl
    refine Ev.pos rfl (Ev.bind (check_ev L hF) (Ev.bind (rcheck_ev L hF) (Ev.pos (by simp) (Ev.bind (join_ev L hF (by omega)) (Ev.bind (rjoin_ev L hF (by omega)) (Ev.pos rfl heads_bind))))))
end Go.Proofs.YtmffjjncnbeldaaDoor.Pure
