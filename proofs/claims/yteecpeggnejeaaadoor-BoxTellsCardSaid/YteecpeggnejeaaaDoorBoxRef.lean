/- Layer 3: what the document's answer tells, without the program. -/
import Derived.Test.YteecpeggnejeaaaDoorPx2
import Derived.Test.YteecpeggnejeaaaDoorPx2
import Derived.Test.YteecpeggnejeaaaDoorPx3
import Derived.Test.YteecpeggnejeaaaDoorPx3
import Derived.Test.YteecpeggnejeaaaDoorPx4
import Derived.Test.YteecpeggnejeaaaDoorBoxPlain
namespace Go.Proofs.YteecpeggnejeaaaDoor.Bx
open Go.RowKit Go.Proofs.YteecpeggnejeaaaDoor.P Go.Proofs.YteecpeggnejeaaaDoor.Rp Go.Proofs.YteecpeggnejeaaaDoorW.PrintWords Go.Proofs.YteecpeggnejeaaaDoorW.PrintLast Go.Proofs.YteecpeggnejeaaaDoorW.PrintMore
set_option linter.unusedVariables false
theorem rok (x : Int) : neumeref01_Ok.f x = some (fx_ok x) := by
  unfold neumeref01_Ok.f fx_ok
  by_cases c : -1099511627776 ≤ x
  · rw [if_pos c]; simp [c]
  · rw [if_neg c]; simp [c]
theorem rcheck (x0 x1 x2 x3 : Int) : neumeref03_Check.f x0 x1 x2 x3 = some (box_ok x0 x1 x2 x3) := by
  unfold neumeref03_Check.f box_ok
  simp only [rok, Option.bind_some]
  cases fx_ok x0 <;> cases fx_ok x1 <;> cases fx_ok x2 <;> cases fx_ok x3 <;> simp
  by_cases c : x0 ≤ x2
  · simp [c]
  · simp [c]
theorem rcheck_yes {x0 x1 x2 x3 : Int} (h : B x0 x1 x2 x3) : neumeref03_Check.f x0 x1 x2 x3 = some true := by rw [rcheck, (ok_iff _ _ _ _).2 h]
theorem rcheck_no {x0 x1 x2 x3 : Int} (h : ¬ B x0 x1 x2 x3) : neumeref03_Check.f x0 x1 x2 x3 = some false := by rw [rcheck, Bool.eq_false_iff.mpr (fun q => h ((ok_iff _ _ _ _).1 q))]
theorem radd (a b : Int) : neumeref01_Add.f a b = some (if A a b then (a + b, 0) else (0, 3)) := by
  unfold neumeref01_Add.f neumeref01_sized.f
  simp only [rok, Option.bind_some, fx_iff]
  by_cases c1 : L a
  · rw [if_pos c1]
    by_cases c2 : L b
    · rw [if_pos c2, wrap_id (x := a + b) (by omega) (by omega)]
      by_cases c3 : L (a + b)
      · rw [if_pos c3, if_pos ⟨c1, c2, c3⟩]; rfl
      · rw [if_neg c3, if_neg (fun h => c3 h.2.2)]; rfl
    · rw [if_neg c2, if_neg (fun h => c2 h.2.1)]
  · rw [if_neg c1, if_neg (fun h => c1 h.1)]
theorem rmoved (x0 x1 x2 x3 y0 y1 y2 y3 : Int) : neumeref03_moved.f x0 x1 x2 x3 y0 y1 y2 y3 = some (mv x0 x1 x2 x3 y0 y1 y2 y3) := by
  unfold neumeref03_moved.f mv
  simp only [radd, Option.bind_some]
  by_cases c0 : A x0 y0
  · by_cases c1 : A x1 y1
    · by_cases c2 : A x2 y2
      · by_cases c3 : A x3 y3
        · rw [if_pos c0, if_pos c1, if_pos c2, if_pos c3, if_pos rfl, if_pos rfl, if_pos rfl, if_pos rfl, if_pos ⟨c0, c1, c2, c3⟩]
        · rw [if_pos c0, if_pos c1, if_pos c2, if_neg c3, if_pos rfl, if_pos rfl, if_pos rfl, if_neg (by decide), if_neg (fun h => c3 h.2.2.2)]
      · rw [if_pos c0, if_pos c1, if_neg c2, if_pos rfl, if_pos rfl, if_neg (by decide), if_neg (fun h => c2 h.2.2.1)]
    · rw [if_pos c0, if_neg c1, if_pos rfl, if_neg (by decide), if_neg (fun h => c1 h.2.1)]
  · rw [if_neg c0, if_neg (by decide), if_neg (fun h => c0 h.1)]
theorem rmove (x0 x1 x2 x3 x y : Int) : neumeref03_Move.f x0 x1 x2 x3 x y = some (bmove x0 x1 x2 x3 x y) := by
  unfold neumeref03_Move.f bmove
  by_cases c : B x0 x1 x2 x3
  · rw [rcheck_yes c, if_pos c, rmoved]; rfl
  · rw [rcheck_no c, if_neg c]; rfl
theorem rgrow (x0 x1 x2 x3 x : Int) : neumeref03_Grow.f x0 x1 x2 x3 x = some (bgrow x0 x1 x2 x3 x) := by
  unfold neumeref03_Grow.f bgrow
  by_cases c : B x0 x1 x2 x3
  · rw [rcheck_yes c, if_pos c, rok]
    simp only [Option.bind_some, if_true]
    by_cases c2 : L x
    · rw [if_pos ((fx_iff x).2 c2), if_pos c2, wrap_id (x := -x) (by omega) (by omega), rmoved]
      simp only [Option.bind_some]
      unfold mv
      by_cases c3 : M x0 x1 x2 x3 (-x) (-x) x x
      · rw [if_pos c3, if_pos c3]
        simp only [if_true]
        obtain ⟨⟨_, _, m0⟩, ⟨_, _, m1⟩, ⟨_, _, m2⟩, ⟨_, _, m3⟩⟩ := c3
        by_cases c4 : B (x0 + -x) (x1 + -x) (x2 + x) (x3 + x)
        · rw [if_pos c4, if_neg (by have := c4.2.2.2.2.1; omega), if_neg (by have := c4.2.2.2.2.2; omega)]
        · rw [if_neg c4]
          by_cases d1 : x0 + -x > x2 + x
          · rw [if_pos d1]
          · rw [if_neg d1, if_pos (by apply Int.not_le.1; intro d2; exact c4 ⟨m0, m1, m2, m3, by omega, d2⟩)]
      · rw [if_neg c3, if_neg c3]; rfl
    · rw [if_neg (fun h => c2 ((fx_iff x).1 h)), if_neg c2]
  · rw [rcheck_no c, if_neg c]; rfl
theorem rjn (x0 x1 x2 x3 y0 y1 y2 y3 : Int) : Ev (fun k => neumeref03_Join.f k x0 x1 x2 x3 y0 y1 y2 y3) (jn x0 x1 x2 x3 y0 y1 y2 y3) := by
  unfold neumeref03_Join.f jn
  by_cases c : B x0 x1 x2 x3
  · rw [rcheck_yes c, if_pos c]
    refine Ev.bindc rfl (Ev.pos rfl (Ev.succ ?_))
    simp only [neumeref03_Join.j0]
    by_cases c2 : B y0 y1 y2 y3
    · rw [rcheck_yes c2, if_pos c2, rcheck_yes c]
      exact Ev.const rfl
    · rw [rcheck_no c2, if_neg c2, rcheck_yes c]
      exact Ev.const rfl
  · rw [rcheck_no c, if_neg c]
    refine Ev.bindc rfl (Ev.neg (by decide) ?_)
    by_cases c2 : B y0 y1 y2 y3
    · rw [rcheck_yes c2, if_pos c2]
      refine Ev.bindc rfl (Ev.succ ?_)
      simp only [neumeref03_Join.j0]
      rw [rcheck_no c]
      exact Ev.const rfl
    · rw [rcheck_no c2, if_neg c2]
      refine Ev.bindc rfl (Ev.succ ?_)
      simp only [neumeref03_Join.j0]
      exact Ev.const rfl
theorem rmeet (x0 x1 x2 x3 y0 y1 y2 y3 : Int) : neumeref03_Meet.f x0 x1 x2 x3 y0 y1 y2 y3 = some (decide (T x0 x1 x2 x3 y0 y1 y2 y3)) := by
  unfold neumeref03_Meet.f
  by_cases c : B x0 x1 x2 x3
  · rw [rcheck_yes c]
    by_cases c2 : B y0 y1 y2 y3
    · rw [rcheck_yes c2]
      simp only [Option.bind_some, if_true]
      by_cases c3 : mx x0 y0 < mn x2 y2
      · rw [if_pos c3]
        by_cases c4 : mx x1 y1 < mn x3 y3
        · rw [decide_eq_true c4, show decide (T x0 x1 x2 x3 y0 y1 y2 y3) = true from decide_eq_true ⟨c, c2, c3, c4⟩]
        · rw [decide_eq_false c4, show decide (T x0 x1 x2 x3 y0 y1 y2 y3) = false from decide_eq_false (fun h => c4 h.2.2.2)]
      · rw [if_neg c3, show decide (T x0 x1 x2 x3 y0 y1 y2 y3) = false from decide_eq_false (fun h => c3 h.2.2.1)]
    · rw [rcheck_no c2, show decide (T x0 x1 x2 x3 y0 y1 y2 y3) = false from decide_eq_false (fun h => c2 h.2.1)]
      rfl
  · rw [rcheck_no c, show decide (T x0 x1 x2 x3 y0 y1 y2 y3) = false from decide_eq_false (fun h => c h.1)]
    rfl
theorem rinside (x0 x1 x2 x3 y0 y1 y2 y3 : Int) : neumeref03_Inside.f x0 x1 x2 x3 y0 y1 y2 y3 = some (decide (I x0 x1 x2 x3 y0 y1 y2 y3)) := by
  unfold neumeref03_Inside.f
  by_cases c : B x0 x1 x2 x3
  · rw [rcheck_yes c]
    by_cases c2 : B y0 y1 y2 y3
    · rw [rcheck_yes c2]
      simp only [Option.bind_some, if_true]
      have e : decide (I x0 x1 x2 x3 y0 y1 y2 y3) = (decide (y0 ≤ x0) && (decide (x2 ≤ y2) && (decide (y1 ≤ x1) && decide (x3 ≤ y3)))) := by
        rw [Bool.eq_iff_iff]
        simp only [Bool.and_eq_true, decide_eq_true_eq]
        exact ⟨fun h => h.2.2, fun h => ⟨c, c2, h⟩⟩
      rw [e]
      by_cases d0 : x0 ≥ y0
      · rw [if_pos d0, decide_eq_true (show y0 ≤ x0 from d0)]
        by_cases d1 : x2 ≤ y2
        · rw [if_pos d1, decide_eq_true d1]
          by_cases d2 : x1 ≥ y1
          · rw [if_pos d2, decide_eq_true (show y1 ≤ x1 from d2)]
            simp
          · rw [if_neg d2, decide_eq_false (show ¬ y1 ≤ x1 from d2)]
            simp
        · rw [if_neg d1, decide_eq_false d1]
          simp
      · rw [if_neg d0, decide_eq_false (show ¬ y0 ≤ x0 from d0)]
        simp
    · rw [rcheck_no c2, show decide (I x0 x1 x2 x3 y0 y1 y2 y3) = false from decide_eq_false (fun h => c2 h.2.1)]
      rfl
  · rw [rcheck_no c, show decide (I x0 x1 x2 x3 y0 y1 y2 y3) = false from decide_eq_false (fun h => c h.1)]
    rfl
end Go.Proofs.YteecpeggnejeaaaDoor.Bx
