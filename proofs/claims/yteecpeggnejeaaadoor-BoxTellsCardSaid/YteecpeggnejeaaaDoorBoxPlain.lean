/- Layer 3: what boxes tell and become, without the program. -/
import Derived.Test.YteecpeggnejeaaaDoorPx6
import Derived.Test.YteecpeggnejeaaaDoorPx6
import Derived.Test.YteecpeggnejeaaaDoorPx3
import Derived.Test.YteecpeggnejeaaaDoorPx4
import Derived.Test.YteecpeggnejeaaaDoorPx3
import Derived.Test.YteecpeggnejeaaaDoorPx7
import Derived.Test.YteecpeggnejeaaaDoorEv
namespace Go.Proofs.YteecpeggnejeaaaDoor.Bx
open Go.RowKit Go.Proofs.YteecpeggnejeaaaDoor.P Go.Proofs.YteecpeggnejeaaaDoor.Rp Go.Proofs.YteecpeggnejeaaaDoorW.PrintWords Go.Proofs.YteecpeggnejeaaaDoorW.PrintLast Go.Proofs.YteecpeggnejeaaaDoorW.PrintMore
set_option linter.unusedVariables false
theorem heads_bind : Ev (fun k => (neumelaw03_heads.f k).bind fun t => some t) true := Ev.some_bind (Ev.of neumelaw03_heads.mono neumelaw03_heads.at)
theorem wrap_id {x : Int} (h : -9223372036854775808 ≤ x) (h' : x ≤ 9223372036854775807) : wrap64 x = x := by unfold wrap64; omega
theorem wf64 {x : Int} (h : (Lit.int .i64 x).wf = true) : -9223372036854775808 ≤ x ∧ x ≤ 9223372036854775807 := by
  simp [Lit.wf] at h
  exact h
abbrev L (x : Int) : Prop := -1099511627776 ≤ x ∧ x ≤ 1099511627776
theorem fx_iff (x : Int) : fx_ok x = true ↔ L x := by unfold fx_ok; exact decide_eq_true_iff
theorem ok_eq (x : Int) : fix_Ok.f x = some (fx_ok x) := by
  unfold fix_Ok.f fx_ok
  by_cases c : -1099511627776 ≤ x
  · rw [if_pos c]; simp [c]
  · rw [if_neg c]; simp [c]
/-- A box that may be. -/
abbrev B (x0 x1 x2 x3 : Int) : Prop := L x0 ∧ L x1 ∧ L x2 ∧ L x3 ∧ x0 ≤ x2 ∧ x1 ≤ x3
theorem ok_iff (x0 x1 x2 x3 : Int) : box_ok x0 x1 x2 x3 = true ↔ B x0 x1 x2 x3 := by
  unfold box_ok
  simp only [Bool.and_eq_true, fx_iff, decide_eq_true_eq]
  exact ⟨fun h => ⟨h.1.1.1.1.1, h.1.1.1.1.2, h.1.1.1.2, h.1.1.2, h.1.2, h.2⟩, fun h => ⟨⟨⟨⟨⟨h.1, h.2.1⟩, h.2.2.1⟩, h.2.2.2.1⟩, h.2.2.2.2.1⟩, h.2.2.2.2.2⟩⟩
theorem check_yes {x0 x1 x2 x3 : Int} (h : B x0 x1 x2 x3) : box_Check.f x0 x1 x2 x3 = some true := by
  unfold box_Check.f
  rw [(ok_iff _ _ _ _).2 h]
theorem check_no {x0 x1 x2 x3 : Int} (h : ¬ B x0 x1 x2 x3) : box_Check.f x0 x1 x2 x3 = some false := by
  unfold box_Check.f
  rw [Bool.eq_false_iff.mpr (fun q => h ((ok_iff _ _ _ _).1 q))]
/-- Sums. -/
abbrev A (a b : Int) : Prop := L a ∧ L b ∧ L (a + b)
theorem add_eq (a b : Int) : fix_Add.f a b = some (if A a b then (a + b, 0) else (0, 3)) := by
  unfold fix_Add.f fix_out.f
  simp only [fx_iff]
  by_cases c1 : L a ∧ L b
  · rw [if_pos c1]
    by_cases c2 : L (a + b)
    · rw [if_pos c2, if_pos ⟨c1.1, c1.2, c2⟩]
    · rw [if_neg c2, if_neg (fun h => c2 h.2.2)]
  · rw [if_neg c1, if_neg (fun h => c1 ⟨h.1, h.2.1⟩)]
abbrev M (x0 x1 x2 x3 y0 y1 y2 y3 : Int) : Prop := A x0 y0 ∧ A x1 y1 ∧ A x2 y2 ∧ A x3 y3
/-- A box whose edges are moved. -/
def mv (x0 x1 x2 x3 y0 y1 y2 y3 : Int) : Int × Int × Int × Int × Int := if M x0 x1 x2 x3 y0 y1 y2 y3 then (x0 + y0, x1 + y1, x2 + y2, x3 + y3, 0) else (0, 0, 0, 0, 3)
theorem shifted_eq (x0 x1 x2 x3 y0 y1 y2 y3 : Int) : box_shifted.f x0 x1 x2 x3 y0 y1 y2 y3 = some (mv x0 x1 x2 x3 y0 y1 y2 y3) := by
  unfold box_shifted.f mv
  simp only [add_eq, Option.bind_some]
  by_cases c0 : A x0 y0
  · by_cases c1 : A x1 y1
    · by_cases c2 : A x2 y2
      · by_cases c3 : A x3 y3
        · rw [if_pos c0, if_pos c1, if_pos c2, if_pos c3, if_pos ⟨rfl, rfl, rfl, rfl⟩, if_pos ⟨c0, c1, c2, c3⟩]
        · rw [if_neg c3, if_neg (fun h => absurd h.2.2.2 (by decide)), if_neg (fun h => c3 h.2.2.2)]
      · rw [if_neg c2, if_neg (fun h => absurd h.2.2.1 (by decide)), if_neg (fun h => c2 h.2.2.1)]
    · rw [if_neg c1, if_neg (fun h => absurd h.2.1 (by decide)), if_neg (fun h => c1 h.2.1)]
  · rw [if_neg c0, if_neg (fun h => absurd h.1 (by decide)), if_neg (fun h => c0 h.1)]
def bmove (x0 x1 x2 x3 x y : Int) : Int × Int × Int × Int × Int := if B x0 x1 x2 x3 then mv x0 x1 x2 x3 x y x y else (0, 0, 0, 0, 2)
theorem move_eq (x0 x1 x2 x3 x y : Int) : box_Move.f x0 x1 x2 x3 x y = some (bmove x0 x1 x2 x3 x y) := by
  unfold box_Move.f bmove
  by_cases c : B x0 x1 x2 x3
  · rw [check_yes c, if_pos c, shifted_eq]; rfl
  · rw [check_no c, if_neg c]; rfl
def bgrow (x0 x1 x2 x3 x : Int) : Int × Int × Int × Int × Int :=
  if B x0 x1 x2 x3 then (if L x then (if M x0 x1 x2 x3 (-x) (-x) x x then (if B (x0 + -x) (x1 + -x) (x2 + x) (x3 + x) then (x0 + -x, x1 + -x, x2 + x, x3 + x, 0) else (0, 0, 0, 0, 2)) else (0, 0, 0, 0, 3)) else (0, 0, 0, 0, 3)) else (0, 0, 0, 0, 2)
theorem grow_eq (x0 x1 x2 x3 x : Int) : box_Grow.f x0 x1 x2 x3 x = some (bgrow x0 x1 x2 x3 x) := by
  unfold box_Grow.f bgrow
  by_cases c : B x0 x1 x2 x3
  · rw [check_yes c, if_pos c, ok_eq]
    simp only [Option.bind_some, if_true]
    by_cases c2 : L x
    · rw [if_pos ((fx_iff x).2 c2), if_pos c2, wrap_id (x := -x) (by omega) (by omega), shifted_eq]
      simp only [Option.bind_some]
      unfold mv
      by_cases c3 : M x0 x1 x2 x3 (-x) (-x) x x
      · rw [if_pos c3, if_pos c3]
        simp only [if_true]
        by_cases c4 : B (x0 + -x) (x1 + -x) (x2 + x) (x3 + x)
        · rw [check_yes c4, if_pos c4]; rfl
        · rw [check_no c4, if_neg c4]; rfl
      · rw [if_neg c3, if_neg c3]; rfl
    · rw [if_neg (fun h => c2 ((fx_iff x).1 h)), if_neg c2]
  · rw [check_no c, if_neg c]; rfl
/-- A box around two. -/
def jn (x0 x1 x2 x3 y0 y1 y2 y3 : Int) : Int × Int × Int × Int :=
  if B x0 x1 x2 x3 then (if B y0 y1 y2 y3 then (mn x0 y0, mn x1 y1, mx x2 y2, mx x3 y3) else (x0, x1, x2, x3)) else if B y0 y1 y2 y3 then (y0, y1, y2, y3) else (0, 0, 0, 0)
theorem mn_self (x : Int) : mn x x = x := by unfold mn; split <;> rfl
theorem mx_self (x : Int) : mx x x = x := by unfold mx; split <;> rfl
theorem jn_ev (x0 x1 x2 x3 y0 y1 y2 y3 : Int) : Ev (fun k => box_Join.f k x0 x1 x2 x3 y0 y1 y2 y3) (jn x0 x1 x2 x3 y0 y1 y2 y3) := by
  unfold box_Join.f jn
  by_cases c : B x0 x1 x2 x3
  · rw [check_yes c, if_pos c]
    refine Ev.bindc rfl (Ev.pos rfl (Ev.succ ?_))
    simp only [box_Join.j0]
    by_cases c2 : B y0 y1 y2 y3
    · rw [check_yes c2, if_pos c2, check_yes c]
      exact Ev.const rfl
    · rw [check_no c2, if_neg c2, check_yes c]
      exact Ev.const rfl
  · rw [check_no c, if_neg c]
    refine Ev.bindc rfl (Ev.neg (by decide) (Ev.succ ?_))
    simp only [box_Join.j0]
    by_cases c2 : B y0 y1 y2 y3
    · rw [check_yes c2, if_pos c2]
      refine Ev.const ?_
      simp only [Option.bind_some, if_true, mn_self, mx_self]
    · rw [check_no c2, if_neg c2]
      exact Ev.const rfl
/-- Do two have room together? -/
abbrev T (x0 x1 x2 x3 y0 y1 y2 y3 : Int) : Prop := B x0 x1 x2 x3 ∧ B y0 y1 y2 y3 ∧ mx x0 y0 < mn x2 y2 ∧ mx x1 y1 < mn x3 y3
theorem meet_eq (x0 x1 x2 x3 y0 y1 y2 y3 : Int) : box_Meet.f x0 x1 x2 x3 y0 y1 y2 y3 = some (decide (T x0 x1 x2 x3 y0 y1 y2 y3)) := by
  unfold box_Meet.f box_overlap.f
  by_cases c : B x0 x1 x2 x3
  · rw [check_yes c]
    by_cases c2 : B y0 y1 y2 y3
    · rw [check_yes c2]
      simp only [Option.bind_some, if_true]
      by_cases c3 : mx x0 y0 < mn x2 y2
      · rw [decide_eq_true c3, if_pos rfl]
        by_cases c4 : mx x1 y1 < mn x3 y3
        · rw [decide_eq_true c4, decide_eq_true ⟨c, c2, c3, c4⟩]
        · rw [decide_eq_false c4, decide_eq_false (fun h => c4 h.2.2.2)]
      · rw [decide_eq_false c3, if_neg (by decide), decide_eq_false (fun h => c3 h.2.2.1)]
    · rw [check_no c2, show decide (T x0 x1 x2 x3 y0 y1 y2 y3) = false from decide_eq_false (fun h => c2 h.2.1)]
      rfl
  · rw [check_no c, show decide (T x0 x1 x2 x3 y0 y1 y2 y3) = false from decide_eq_false (fun h => c h.1)]
    rfl
/-- Is one within another? -/
abbrev I (x0 x1 x2 x3 y0 y1 y2 y3 : Int) : Prop := B x0 x1 x2 x3 ∧ B y0 y1 y2 y3 ∧ y0 ≤ x0 ∧ x2 ≤ y2 ∧ y1 ≤ x1 ∧ x3 ≤ y3
theorem mn_is {a b : Int} : mn a b = b ↔ b ≤ a := by unfold mn; split <;> omega
theorem mx_is {a b : Int} : mx a b = b ↔ a ≤ b := by unfold mx; split <;> omega
theorem inside_ev (x0 x1 x2 x3 y0 y1 y2 y3 : Int) : Ev (fun k => box_Inside.f k x0 x1 x2 x3 y0 y1 y2 y3) (decide (I x0 x1 x2 x3 y0 y1 y2 y3)) := by
  unfold box_Inside.f
  by_cases c : B x0 x1 x2 x3
  · rw [check_yes c]
    refine Ev.bindc rfl (Ev.pos rfl ?_)
    by_cases c2 : B y0 y1 y2 y3
    · rw [check_yes c2]
      refine Ev.bindc rfl (Ev.pos rfl (Ev.bind (jn_ev ..) (Ev.const ?_)))
      unfold jn
      rw [if_pos c, if_pos c2]
      congr 1
      rw [Bool.eq_iff_iff]
      simp only [Bool.and_eq_true, beq_iff_eq, mn_is, mx_is, decide_eq_true_eq]
      exact ⟨fun h => ⟨c, c2, h.1, h.2.2.1, h.2.1, h.2.2.2⟩, fun h => ⟨h.2.2.1, h.2.2.2.2.1, h.2.2.2.1, h.2.2.2.2.2⟩⟩
    · rw [check_no c2, decide_eq_false (fun h => c2 h.2.1)]
      exact Ev.const rfl
  · rw [check_no c, decide_eq_false (fun h => c h.1)]
    exact Ev.const rfl
theorem mn_spec (a b : Int) : mn a b ≤ a ∧ mn a b ≤ b ∧ (mn a b = a ∨ mn a b = b) := by unfold mn; split <;> omega
theorem mx_spec (a b : Int) : a ≤ mx a b ∧ b ≤ mx a b ∧ (mx a b = a ∨ mx a b = b) := by unfold mx; split <;> omega
end Go.Proofs.YteecpeggnejeaaaDoor.Bx
