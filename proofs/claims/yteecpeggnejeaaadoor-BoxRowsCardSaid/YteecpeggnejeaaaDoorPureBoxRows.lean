/- The law BoxRows of layer 3: for all rows of boxes, right or not, the law answers true (no condition). -/
import Derived.Test.YteecpeggnejeaaaDoorStatBoxRows
import Derived.Test.YteecpeggnejeaaaDoorBoxRef
namespace Go.Proofs.YteecpeggnejeaaaDoor.Pure
open Go.RowKit Go.Proofs.YteecpeggnejeaaaDoor.P Go.Proofs.YteecpeggnejeaaaDoor.Rp Go.Proofs.YteecpeggnejeaaaDoor.Bx Go.Proofs.YteecpeggnejeaaaDoorW.PrintWords Go.Proofs.YteecpeggnejeaaaDoorW.PrintLast Go.Proofs.YteecpeggnejeaaaDoorW.PrintMore
set_option linter.unusedVariables false
abbrev Bs := List S23
theorem rows_bounds (l : Bs) (hn : l.length ≤ 200) : ∀ (d i : Nat), 1 ≤ i → i + d = l.length → ∀ p0 p1 p2 p3 : Int, ∃ r, Ev (fun k => box_Bounds.l0 k l l (l.length : Int) (i : Int) p0 p1 p2 p3) r ∧ Ev (fun k => neumeref03_Bounds.l0 k l (i : Int) p0 p1 p2 p3) r
  | 0, i, h1, hi, p0, p1, p2, p3 => by
    refine ⟨(p0, p1, p2, p3, true), Ev.succ ?_, Ev.succ ?_⟩
    · simp only [box_Bounds.l0]
      rw [decide_eq_true (show (l.length : Int) > 0 by omega)]
      exact Ev.neg (by omega) (Ev.now _)
    · simp only [neumeref03_Bounds.l0]
      exact Ev.neg (by omega) (Ev.now _)
  | d + 1, i, h1, hi, p0, p1, p2, p3 => by
    have w : wrap64 ((i : Int) + 1) = ((i + 1 : Nat) : Int) := by rw [wrap_id (by omega) (by omega)]; omega
    by_cases c : B (rd_T23 l i).f0 (rd_T23 l i).f1 (rd_T23 l i).f2 (rd_T23 l i).f3
    · obtain ⟨r, h, h'⟩ := rows_bounds l hn d (i + 1) (by omega) (by omega) (jn p0 p1 p2 p3 (rd_T23 l i).f0 (rd_T23 l i).f1 (rd_T23 l i).f2 (rd_T23 l i).f3).1 (jn p0 p1 p2 p3 (rd_T23 l i).f0 (rd_T23 l i).f1 (rd_T23 l i).f2 (rd_T23 l i).f3).2.1 (jn p0 p1 p2 p3 (rd_T23 l i).f0 (rd_T23 l i).f1 (rd_T23 l i).f2 (rd_T23 l i).f3).2.2.1 (jn p0 p1 p2 p3 (rd_T23 l i).f0 (rd_T23 l i).f1 (rd_T23 l i).f2 (rd_T23 l i).f3).2.2.2
      refine ⟨r, Ev.succ ?_, Ev.succ ?_⟩
      · simp only [box_Bounds.l0]
        rw [check_yes c, w]
        exact Ev.pos (by omega) (Ev.pos (by omega) (Ev.pos (by omega) (Ev.bindc rfl (Ev.pos rfl (Ev.neg (by omega) (Ev.bind (jn_ev ..) h))))))
      · simp only [neumeref03_Bounds.l0]
        rw [rcheck_yes c, w]
        exact Ev.pos (by omega) (Ev.pos (by omega) (Ev.bindc rfl (Ev.pos rfl (Ev.bind (rjn ..) h'))))
    · refine ⟨(0, 0, 0, 0, false), Ev.succ ?_, Ev.succ ?_⟩
      · simp only [box_Bounds.l0]
        rw [check_no c]
        exact Ev.pos (by omega) (Ev.pos (by omega) (Ev.pos (by omega) (Ev.bindc rfl (Ev.neg (by decide) (Ev.now _)))))
      · simp only [neumeref03_Bounds.l0]
        rw [rcheck_no c]
        exact Ev.pos (by omega) (Ev.pos (by omega) (Ev.bindc rfl (Ev.neg (by decide) (Ev.now _))))
theorem bounds_same (l : Bs) (hn : l.length ≤ 200) : ∃ r, Ev (fun k => box_Bounds.f k l) r ∧ Ev (fun k => neumeref03_Bounds.f k l) r := by
  have w : wrap64 ((0 : Int) + 1) = ((1 : Nat) : Int) := by decide +kernel
  by_cases c0 : l.length = 0
  · refine ⟨(0, 0, 0, 0, false), ?_, ?_⟩
    · unfold box_Bounds.f
      refine Ev.succ ?_
      simp only [box_Bounds.l0]
      rw [decide_eq_false (show ¬ (l.length : Int) > 0 by omega)]
      exact Ev.neg (by omega) (Ev.now _)
    · unfold neumeref03_Bounds.f
      exact Ev.pos (by omega) (Ev.now _)
  · by_cases c : B (rd_T23 l 0).f0 (rd_T23 l 0).f1 (rd_T23 l 0).f2 (rd_T23 l 0).f3
    · obtain ⟨r, h, h'⟩ := rows_bounds l hn (l.length - 1) 1 (by omega) (by omega) (jn (rd_T23 l 0).f0 (rd_T23 l 0).f1 (rd_T23 l 0).f2 (rd_T23 l 0).f3 (rd_T23 l 0).f0 (rd_T23 l 0).f1 (rd_T23 l 0).f2 (rd_T23 l 0).f3).1 (jn (rd_T23 l 0).f0 (rd_T23 l 0).f1 (rd_T23 l 0).f2 (rd_T23 l 0).f3 (rd_T23 l 0).f0 (rd_T23 l 0).f1 (rd_T23 l 0).f2 (rd_T23 l 0).f3).2.1 (jn (rd_T23 l 0).f0 (rd_T23 l 0).f1 (rd_T23 l 0).f2 (rd_T23 l 0).f3 (rd_T23 l 0).f0 (rd_T23 l 0).f1 (rd_T23 l 0).f2 (rd_T23 l 0).f3).2.2.1 (jn (rd_T23 l 0).f0 (rd_T23 l 0).f1 (rd_T23 l 0).f2 (rd_T23 l 0).f3 (rd_T23 l 0).f0 (rd_T23 l 0).f1 (rd_T23 l 0).f2 (rd_T23 l 0).f3).2.2.2
      refine ⟨r, ?_, ?_⟩
      · unfold box_Bounds.f
        refine Ev.succ ?_
        simp only [box_Bounds.l0]
        rw [check_yes c, w]
        exact Ev.pos (by omega) (Ev.pos (by omega) (Ev.pos (by omega) (Ev.bindc rfl (Ev.pos rfl (Ev.pos (by simp) (Ev.bind (jn_ev ..) h))))))
      · unfold neumeref03_Bounds.f
        refine Ev.neg (by omega) (Ev.pos (by omega) (Ev.succ ?_))
        simp only [neumeref03_Bounds.l0]
        rw [rcheck_yes c, w]
        exact Ev.pos (by omega) (Ev.pos (by omega) (Ev.bindc rfl (Ev.pos rfl (Ev.bind (rjn ..) h'))))
    · refine ⟨(0, 0, 0, 0, false), ?_, ?_⟩
      · unfold box_Bounds.f
        refine Ev.succ ?_
        simp only [box_Bounds.l0]
        rw [check_no c]
        exact Ev.pos (by omega) (Ev.pos (by omega) (Ev.pos (by omega) (Ev.bindc rfl (Ev.neg (by decide) (Ev.now _)))))
      · unfold neumeref03_Bounds.f
        refine Ev.neg (by omega) (Ev.pos (by omega) (Ev.succ ?_))
        simp only [neumeref03_Bounds.l0]
        rw [rcheck_no c]
        exact Ev.pos (by omega) (Ev.pos (by omega) (Ev.bindc rfl (Ev.neg (by decide) (Ev.now _))))
theorem rows_l2 (l : Bs) (hn : l.length ≤ 200) (i : Nat) (hi : i < l.length) (r0 : Int × Int × Bool) (h0 : Ev (fun k => box_Apart.l1 k l (-1) (-1) (l.length : Int) ((i + 1 : Nat) : Int)) r0) (h0' : Ev (fun k => neumeref03_Apart.l1 k l ((i + 1 : Nat) : Int)) r0) :
    ∀ (d j : Nat), j + d = l.length → ∃ r, Ev (fun k => box_Apart.l2 k l (-1) (-1) (i : Int) (j : Int) (l.length : Int) (i : Int)) r ∧ Ev (fun k => neumeref03_Apart.l2 k l (i : Int) (j : Int)) r
  | 0, j, hj => by
    have w : wrap64 ((i : Int) + 1) = ((i + 1 : Nat) : Int) := by rw [wrap_id (by omega) (by omega)]; omega
    refine ⟨r0, Ev.succ ?_, Ev.succ ?_⟩
    · simp only [box_Apart.l2]
      rw [w]
      exact Ev.neg (by omega) h0
    · simp only [neumeref03_Apart.l2]
      rw [w]
      exact Ev.neg (by omega) h0'
  | d + 1, j, hj => by
    have w : wrap64 ((j : Int) + 1) = ((j + 1 : Nat) : Int) := by rw [wrap_id (by omega) (by omega)]; omega
    obtain ⟨r, h, h'⟩ := rows_l2 l hn i hi r0 h0 h0' d (j + 1) (by omega)
    by_cases c : T (rd_T23 l i).f0 (rd_T23 l i).f1 (rd_T23 l i).f2 (rd_T23 l i).f3 (rd_T23 l j).f0 (rd_T23 l j).f1 (rd_T23 l j).f2 (rd_T23 l j).f3
    · refine ⟨((i : Int), (j : Int), false), Ev.succ ?_, Ev.succ ?_⟩
      · simp only [box_Apart.l2]
        rw [meet_eq, decide_eq_true c, decide_eq_false (show ¬ (i : Int) < 0 by omega)]
        exact Ev.pos (by omega) (Ev.pos (by omega) (Ev.pos (by omega) (Ev.pos (by omega) (Ev.bindc rfl (Ev.pos rfl (Ev.now _))))))
      · simp only [neumeref03_Apart.l2]
        rw [rmeet, decide_eq_true c]
        exact Ev.pos (by omega) (Ev.pos (by omega) (Ev.pos (by omega) (Ev.pos (by omega) (Ev.bindc rfl (Ev.pos rfl (Ev.now _))))))
    · refine ⟨r, Ev.succ ?_, Ev.succ ?_⟩
      · simp only [box_Apart.l2]
        rw [meet_eq, decide_eq_false c, w]
        exact Ev.pos (by omega) (Ev.pos (by omega) (Ev.pos (by omega) (Ev.pos (by omega) (Ev.bindc rfl (Ev.neg (by decide) h)))))
      · simp only [neumeref03_Apart.l2]
        rw [rmeet, decide_eq_false c, w]
        exact Ev.pos (by omega) (Ev.pos (by omega) (Ev.pos (by omega) (Ev.pos (by omega) (Ev.bindc rfl (Ev.neg (by decide) h')))))
theorem rows_l1 (l : Bs) (hn : l.length ≤ 200) : ∀ (d i : Nat), i + d = l.length → ∃ r, Ev (fun k => box_Apart.l1 k l (-1) (-1) (l.length : Int) (i : Int)) r ∧ Ev (fun k => neumeref03_Apart.l1 k l (i : Int)) r
  | 0, i, hi => by
    refine ⟨(-1, -1, true), Ev.succ ?_, Ev.succ ?_⟩
    · simp only [box_Apart.l1]
      exact Ev.neg (by omega) (Ev.const rfl)
    · simp only [neumeref03_Apart.l1]
      exact Ev.neg (by omega) (Ev.now _)
  | d + 1, i, hi => by
    have w : wrap64 ((i : Int) + 1) = ((i + 1 : Nat) : Int) := by rw [wrap_id (by omega) (by omega)]; omega
    obtain ⟨r0, h0, h0'⟩ := rows_l1 l hn d (i + 1) (by omega)
    obtain ⟨r, h, h'⟩ := rows_l2 l hn i (by omega) r0 h0 h0' d (i + 1) (by omega)
    refine ⟨r, Ev.succ ?_, Ev.succ ?_⟩
    · simp only [box_Apart.l1]
      rw [w]
      exact Ev.pos (by omega) h
    · simp only [neumeref03_Apart.l1]
      rw [w]
      exact Ev.pos (by omega) h'
theorem rows_l0 (l : Bs) (hn : l.length ≤ 200) : ∀ (d i : Nat), i + d = l.length → ∃ r, Ev (fun k => box_Apart.l0 k l l (l.length : Int) (i : Int)) r ∧ Ev (fun k => neumeref03_Apart.l0 k l (i : Int)) r
  | 0, i, hi => by
    obtain ⟨r, h, h'⟩ := rows_l1 l hn l.length 0 (by omega)
    refine ⟨r, Ev.succ ?_, Ev.succ ?_⟩
    · simp only [box_Apart.l0]
      exact Ev.neg (by omega) h
    · simp only [neumeref03_Apart.l0]
      exact Ev.neg (by omega) h'
  | d + 1, i, hi => by
    have w : wrap64 ((i : Int) + 1) = ((i + 1 : Nat) : Int) := by rw [wrap_id (by omega) (by omega)]; omega
    by_cases c : B (rd_T23 l i).f0 (rd_T23 l i).f1 (rd_T23 l i).f2 (rd_T23 l i).f3
    · obtain ⟨r, h, h'⟩ := rows_l0 l hn d (i + 1) (by omega)
      refine ⟨r, Ev.succ ?_, Ev.succ ?_⟩
      · simp only [box_Apart.l0]
        rw [check_yes c, w]
        exact Ev.pos (by omega) (Ev.pos (by omega) (Ev.pos (by omega) (Ev.bindc rfl (Ev.pos rfl h))))
      · simp only [neumeref03_Apart.l0]
        rw [rcheck_yes c, w]
        exact Ev.pos (by omega) (Ev.pos (by omega) (Ev.bindc rfl (Ev.pos rfl h')))
    · refine ⟨(0, 0, false), Ev.succ ?_, Ev.succ ?_⟩
      · simp only [box_Apart.l0]
        rw [check_no c]
        exact Ev.pos (by omega) (Ev.pos (by omega) (Ev.pos (by omega) (Ev.bindc rfl (Ev.neg (by decide) (Ev.now _)))))
      · simp only [neumeref03_Apart.l0]
        rw [rcheck_no c]
        exact Ev.pos (by omega) (Ev.pos (by omega) (Ev.bindc rfl (Ev.neg (by decide) (Ev.now _))))
theorem BoxRows : BoxRows_Pure := by
  intro l hl
  suffices h : Ev (fun k => neumelaw03_BoxRows.f k l) true from h.rounds
  unfold neumelaw03_BoxRows.f
  by_cases c : (l.length : Int) > 200
  · exact Ev.pos c heads_bind
  obtain ⟨r, h, h'⟩ := bounds_same l (by omega)
  obtain ⟨s, g, g'⟩ := rows_l0 l (by omega) l.length 0 (by omega)
  have ga : Ev (fun k => box_Apart.f k l) s := by
    unfold box_Apart.f
    exact Ev.neg (by omega) g
  have gb : Ev (fun k => neumeref03_Apart.f k l) s := by
    unfold neumeref03_Apart.f
    exact Ev.neg (by omega) g'
  exact Ev.neg c (Ev.bind h (Ev.bind h' (Ev.bind ga (Ev.bind gb (Ev.pos (by simp) (Ev.pos (by simp) (Ev.pos rfl (Ev.pos rfl (Ev.pos (by simp) heads_bind)))))))))
end Go.Proofs.YteecpeggnejeaaaDoor.Pure
