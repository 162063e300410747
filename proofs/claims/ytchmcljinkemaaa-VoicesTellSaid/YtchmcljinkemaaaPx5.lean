-- Written by a program of this session (wip/tools/xprint.py, over the kit's print): Lean checks it.
import Derived.Test.YtchmcljinkemaaaPx0
import Derived.Test.YtchmcljinkemaaaPx3
import Derived.Test.YtchmcljinkemaaaPx4
namespace Go.Proofs.Ytchmcljinkemaaa.P
open Go.RowKit Go.Proofs.YtchmcljinkemaaaW.PrintWords Go.Proofs.YtchmcljinkemaaaW.PrintLast Go.Proofs.YtchmcljinkemaaaW.PrintMore
attribute [local go_sem] max2_int min2_int max_two min_two max_three min_three max_four min_four   -- for this text's walks alone
set_option linter.unusedVariables false
set_option linter.unusedSimpArgs false

/-! ### neumelaw24_heads: function 7 -/
def neumelaw24_heads.f (k : Nat)  : Option (Bool) := (some (([(⟨0, 0, 10, 10⟩ : S45)] : List (S45)) : List (S45))).bind fun y181 => ((some (([(⟨0, 5, 4, 8⟩ : S45)] : List (S45)) : List (S45))).bind fun y184 => ((voices_Push.f k y181 y184 true).bind fun bt187 => ((voices_Push.f k y181 y184 false).bind fun bt189 => ((voices_Shifts.f k (([y181, y184, y184] : List (List (S45))))).bind fun bt194 => ((voices_Push.f k (([(⟨1, 0, 0, 0⟩ : S45)] : List (S45))) ([] : List (S45)) true).bind fun bt201 => ((some (([] : List (S45)) : List (S45))).bind fun y203 => (if y203.length + y181.length < 4398046511104 then ((some (y203 ++ y181 : List (S45))).bind fun y206 => (if y206.length < 4398046511104 then ((voices_Span.f (y206 ++ [(⟨(-3), 0, 2, 0⟩ : S45)])).bind fun bt212 => (if bt187.1 = 10 then (if bt187.2 = 0 then (if bt189.1 = (-4) then (if bt189.2 = 0 then ((neumeref18_Numbers.f k bt194.1 (([0, 10, 14] : List Int))).bind fun t217 => (if t217 = true then (if bt194.2 = 0 then (if bt201.2 = 2 then (if bt212.1 = (-3) then (some (bt212.2 == 10)) else (some false)) else (some false)) else (some false)) else (some false))) else (some false)) else (some false)) else (some false)) else (some false))) else (none))) else (none))))))))
theorem neumelaw24_heads.mono : ∀ k, LeO (neumelaw24_heads.f k ) (neumelaw24_heads.f (k + 1) ) := by
 intro  k
 unfold neumelaw24_heads.f
 repeat' first
   | (with_reducible exact neumeref18_Numbers.mono _ _ _)
   | (with_reducible exact voices_Push.mono _ _ _ _)
   | (with_reducible exact voices_Shifts.mono _ _)
   | (with_reducible exact LeO.refl _)
   | (with_reducible exact LeO.none _)
   | (with_reducible refine LeO.ite ?_ ?_)
   | (with_reducible refine LeO.bind ?_ (fun _ => ?_))
   | exact neumeref18_Numbers.mono _ _ _
   | exact voices_Push.mono _ _ _ _
   | exact voices_Shifts.mono _ _
   | exact LeO.none _
   | refine LeO.ite ?_ ?_
   | refine LeO.bind ?_ (fun _ => ?_)
set_option maxHeartbeats 8000000 in
set_option maxRecDepth 100000 in
theorem neumelaw24_heads.callsT (k : Nat)  (r : Bool) (w : World) (hxt : Aside0 (r = true)) (h : neumelaw24_heads.f k  = some r) :
  Calls Try.prog 7 #[] w fun e w' => e = .returned (.bool r) ∧ Below w.heap.size w w' := by
 have hu45 := Try.underlying45
 have HB := sd_ (Below.refl w.heap.size w)
 have H : ((some (([(⟨0, 0, 10, 10⟩ : S45)] : List (S45)) : List (S45))).bind fun y181 => ((some (([(⟨0, 5, 4, 8⟩ : S45)] : List (S45)) : List (S45))).bind fun y184 => ((voices_Push.f k y181 y184 true).bind fun bt187 => ((voices_Push.f k y181 y184 false).bind fun bt189 => ((voices_Shifts.f k (([y181, y184, y184] : List (List (S45))))).bind fun bt194 => ((voices_Push.f k (([(⟨1, 0, 0, 0⟩ : S45)] : List (S45))) ([] : List (S45)) true).bind fun bt201 => ((some (([] : List (S45)) : List (S45))).bind fun y203 => (if y203.length + y181.length < 4398046511104 then ((some (y203 ++ y181 : List (S45))).bind fun y206 => (if y206.length < 4398046511104 then ((voices_Span.f (y206 ++ [(⟨(-3), 0, 2, 0⟩ : S45)])).bind fun bt212 => (if bt187.1 = 10 then (if bt187.2 = 0 then (if bt189.1 = (-4) then (if bt189.2 = 0 then ((neumeref18_Numbers.f k bt194.1 (([0, 10, 14] : List Int))).bind fun t217 => (if t217 = true then (if bt194.2 = 0 then (if bt201.2 = 2 then (if bt212.1 = (-3) then (some (bt212.2 == 10)) else (some false)) else (some false)) else (some false)) else (some false))) else (some false)) else (some false)) else (some false)) else (some false))) else (none))) else (none))))))))) = some r := h
 clear h
 obtain ⟨y181, hy181⟩ : ∃ y_ : List (S45), y_ = (([(⟨0, 0, 10, 10⟩ : S45)] : List (S45))) := ⟨_, rfl⟩
 replace H : ((some (([(⟨0, 5, 4, 8⟩ : S45)] : List (S45)) : List (S45))).bind fun y184 => ((voices_Push.f k y181 y184 true).bind fun bt187 => ((voices_Push.f k y181 y184 false).bind fun bt189 => ((voices_Shifts.f k (([y181, y184, y184] : List (List (S45))))).bind fun bt194 => ((voices_Push.f k (([(⟨1, 0, 0, 0⟩ : S45)] : List (S45))) ([] : List (S45)) true).bind fun bt201 => ((some (([] : List (S45)) : List (S45))).bind fun y203 => (if y203.length + y181.length < 4398046511104 then ((some (y203 ++ y181 : List (S45))).bind fun y206 => (if y206.length < 4398046511104 then ((voices_Span.f (y206 ++ [(⟨(-3), 0, 2, 0⟩ : S45)])).bind fun bt212 => (if bt187.1 = 10 then (if bt187.2 = 0 then (if bt189.1 = (-4) then (if bt189.2 = 0 then ((neumeref18_Numbers.f k bt194.1 (([0, 10, 14] : List Int))).bind fun t217 => (if t217 = true then (if bt194.2 = 0 then (if bt201.2 = 2 then (if bt212.1 = (-3) then (some (bt212.2 == 10)) else (some false)) else (some false)) else (some false)) else (some false))) else (some false)) else (some false)) else (some false)) else (some false))) else (none))) else (none)))))))) = some r := by first | (rw [hy181]; with_reducible exact H) | (have H2_ := (Option.bind_some _ _).symm.trans H; rw [hy181]; with_reducible exact H2_) | (have H2_ := (Option.bind_some _ _).symm.trans H; with_reducible exact H2_) | with_reducible exact H | (rw [hy181]; exact H) | exact H
 have Ny181 := sd_ hy181
 clear hy181
 obtain ⟨y184, hy184⟩ : ∃ y_ : List (S45), y_ = (([(⟨0, 5, 4, 8⟩ : S45)] : List (S45))) := ⟨_, rfl⟩
 replace H : ((voices_Push.f k y181 y184 true).bind fun bt187 => ((voices_Push.f k y181 y184 false).bind fun bt189 => ((voices_Shifts.f k (([y181, y184, y184] : List (List (S45))))).bind fun bt194 => ((voices_Push.f k (([(⟨1, 0, 0, 0⟩ : S45)] : List (S45))) ([] : List (S45)) true).bind fun bt201 => ((some (([] : List (S45)) : List (S45))).bind fun y203 => (if y203.length + y181.length < 4398046511104 then ((some (y203 ++ y181 : List (S45))).bind fun y206 => (if y206.length < 4398046511104 then ((voices_Span.f (y206 ++ [(⟨(-3), 0, 2, 0⟩ : S45)])).bind fun bt212 => (if bt187.1 = 10 then (if bt187.2 = 0 then (if bt189.1 = (-4) then (if bt189.2 = 0 then ((neumeref18_Numbers.f k bt194.1 (([0, 10, 14] : List Int))).bind fun t217 => (if t217 = true then (if bt194.2 = 0 then (if bt201.2 = 2 then (if bt212.1 = (-3) then (some (bt212.2 == 10)) else (some false)) else (some false)) else (some false)) else (some false))) else (some false)) else (some false)) else (some false)) else (some false))) else (none))) else (none))))))) = some r := by first | (rw [hy184]; with_reducible exact H) | (have H2_ := (Option.bind_some _ _).symm.trans H; rw [hy184]; with_reducible exact H2_) | (have H2_ := (Option.bind_some _ _).symm.trans H; with_reducible exact H2_) | with_reducible exact H | (rw [hy184]; exact H) | exact H
 have Ny184 := sd_ hy184
 clear hy184
 replace H := ob_ H
 obtain ⟨⟨t187, t188⟩, A10, H⟩ := H
 replace H : ((voices_Push.f k y181 y184 false).bind fun bt189 => ((voices_Shifts.f k (([y181, y184, y184] : List (List (S45))))).bind fun bt194 => ((voices_Push.f k (([(⟨1, 0, 0, 0⟩ : S45)] : List (S45))) ([] : List (S45)) true).bind fun bt201 => ((some (([] : List (S45)) : List (S45))).bind fun y203 => (if y203.length + y181.length < 4398046511104 then ((some (y203 ++ y181 : List (S45))).bind fun y206 => (if y206.length < 4398046511104 then ((voices_Span.f (y206 ++ [(⟨(-3), 0, 2, 0⟩ : S45)])).bind fun bt212 => (if t187 = 10 then (if t188 = 0 then (if bt189.1 = (-4) then (if bt189.2 = 0 then ((neumeref18_Numbers.f k bt194.1 (([0, 10, 14] : List Int))).bind fun t217 => (if t217 = true then (if bt194.2 = 0 then (if bt201.2 = 2 then (if bt212.1 = (-3) then (some (bt212.2 == 10)) else (some false)) else (some false)) else (some false)) else (some false))) else (some false)) else (some false)) else (some false)) else (some false))) else (none))) else (none)))))) = some r := H
 have A1 := sd_ A10
 clear A10
 replace H := ob_ H
 obtain ⟨⟨t189, t190⟩, A20, H⟩ := H
 replace H : ((voices_Shifts.f k (([y181, y184, y184] : List (List (S45))))).bind fun bt194 => ((voices_Push.f k (([(⟨1, 0, 0, 0⟩ : S45)] : List (S45))) ([] : List (S45)) true).bind fun bt201 => ((some (([] : List (S45)) : List (S45))).bind fun y203 => (if y203.length + y181.length < 4398046511104 then ((some (y203 ++ y181 : List (S45))).bind fun y206 => (if y206.length < 4398046511104 then ((voices_Span.f (y206 ++ [(⟨(-3), 0, 2, 0⟩ : S45)])).bind fun bt212 => (if t187 = 10 then (if t188 = 0 then (if t189 = (-4) then (if t190 = 0 then ((neumeref18_Numbers.f k bt194.1 (([0, 10, 14] : List Int))).bind fun t217 => (if t217 = true then (if bt194.2 = 0 then (if bt201.2 = 2 then (if bt212.1 = (-3) then (some (bt212.2 == 10)) else (some false)) else (some false)) else (some false)) else (some false))) else (some false)) else (some false)) else (some false)) else (some false))) else (none))) else (none))))) = some r := H
 have A2 := sd_ A20
 clear A20
 obtain ⟨y191, hy191⟩ : ∃ y_ : List (List (S45)), y_ = (([y181, y184, y184] : List (List (S45)))) := ⟨_, rfl⟩
 replace H : ((voices_Shifts.f k y191).bind fun bt194 => ((voices_Push.f k (([(⟨1, 0, 0, 0⟩ : S45)] : List (S45))) ([] : List (S45)) true).bind fun bt201 => ((some (([] : List (S45)) : List (S45))).bind fun y203 => (if y203.length + y181.length < 4398046511104 then ((some (y203 ++ y181 : List (S45))).bind fun y206 => (if y206.length < 4398046511104 then ((voices_Span.f (y206 ++ [(⟨(-3), 0, 2, 0⟩ : S45)])).bind fun bt212 => (if t187 = 10 then (if t188 = 0 then (if t189 = (-4) then (if t190 = 0 then ((neumeref18_Numbers.f k bt194.1 (([0, 10, 14] : List Int))).bind fun t217 => (if t217 = true then (if bt194.2 = 0 then (if bt201.2 = 2 then (if bt212.1 = (-3) then (some (bt212.2 == 10)) else (some false)) else (some false)) else (some false)) else (some false))) else (some false)) else (some false)) else (some false)) else (some false))) else (none))) else (none))))) = some r := by first | (rw [hy191]; with_reducible exact H) | (have H2_ := (Option.bind_some _ _).symm.trans H; rw [hy191]; with_reducible exact H2_) | (have H2_ := (Option.bind_some _ _).symm.trans H; with_reducible exact H2_) | with_reducible exact H | (rw [hy191]; exact H) | exact H
 have Ny191 := sd_ hy191
 clear hy191
 replace H := ob_ H
 obtain ⟨⟨t194, t195⟩, A30, H⟩ := H
 replace H : ((voices_Push.f k (([(⟨1, 0, 0, 0⟩ : S45)] : List (S45))) ([] : List (S45)) true).bind fun bt201 => ((some (([] : List (S45)) : List (S45))).bind fun y203 => (if y203.length + y181.length < 4398046511104 then ((some (y203 ++ y181 : List (S45))).bind fun y206 => (if y206.length < 4398046511104 then ((voices_Span.f (y206 ++ [(⟨(-3), 0, 2, 0⟩ : S45)])).bind fun bt212 => (if t187 = 10 then (if t188 = 0 then (if t189 = (-4) then (if t190 = 0 then ((neumeref18_Numbers.f k t194 (([0, 10, 14] : List Int))).bind fun t217 => (if t217 = true then (if t195 = 0 then (if bt201.2 = 2 then (if bt212.1 = (-3) then (some (bt212.2 == 10)) else (some false)) else (some false)) else (some false)) else (some false))) else (some false)) else (some false)) else (some false)) else (some false))) else (none))) else (none)))) = some r := H
 have A3 := sd_ A30
 clear A30
 obtain ⟨y198, hy198⟩ : ∃ y_ : List (S45), y_ = (([(⟨1, 0, 0, 0⟩ : S45)] : List (S45))) := ⟨_, rfl⟩
 replace H : ((voices_Push.f k y198 ([] : List (S45)) true).bind fun bt201 => ((some (([] : List (S45)) : List (S45))).bind fun y203 => (if y203.length + y181.length < 4398046511104 then ((some (y203 ++ y181 : List (S45))).bind fun y206 => (if y206.length < 4398046511104 then ((voices_Span.f (y206 ++ [(⟨(-3), 0, 2, 0⟩ : S45)])).bind fun bt212 => (if t187 = 10 then (if t188 = 0 then (if t189 = (-4) then (if t190 = 0 then ((neumeref18_Numbers.f k t194 (([0, 10, 14] : List Int))).bind fun t217 => (if t217 = true then (if t195 = 0 then (if bt201.2 = 2 then (if bt212.1 = (-3) then (some (bt212.2 == 10)) else (some false)) else (some false)) else (some false)) else (some false))) else (some false)) else (some false)) else (some false)) else (some false))) else (none))) else (none)))) = some r := by first | (rw [hy198]; with_reducible exact H) | (have H2_ := (Option.bind_some _ _).symm.trans H; rw [hy198]; with_reducible exact H2_) | (have H2_ := (Option.bind_some _ _).symm.trans H; with_reducible exact H2_) | with_reducible exact H | (rw [hy198]; exact H) | exact H
 have Ny198 := sd_ hy198
 clear hy198
 replace H := ob_ H
 obtain ⟨⟨t201, t202⟩, A40, H⟩ := H
 replace H : ((some (([] : List (S45)) : List (S45))).bind fun y203 => (if y203.length + y181.length < 4398046511104 then ((some (y203 ++ y181 : List (S45))).bind fun y206 => (if y206.length < 4398046511104 then ((voices_Span.f (y206 ++ [(⟨(-3), 0, 2, 0⟩ : S45)])).bind fun bt212 => (if t187 = 10 then (if t188 = 0 then (if t189 = (-4) then (if t190 = 0 then ((neumeref18_Numbers.f k t194 (([0, 10, 14] : List Int))).bind fun t217 => (if t217 = true then (if t195 = 0 then (if t202 = 2 then (if bt212.1 = (-3) then (some (bt212.2 == 10)) else (some false)) else (some false)) else (some false)) else (some false))) else (some false)) else (some false)) else (some false)) else (some false))) else (none))) else (none))) = some r := H
 have A4 := sd_ A40
 clear A40
 obtain ⟨y203, hy203⟩ : ∃ y_ : List (S45), y_ = (([] : List (S45))) := ⟨_, rfl⟩
 replace H : (if y203.length + y181.length < 4398046511104 then ((some (y203 ++ y181 : List (S45))).bind fun y206 => (if y206.length < 4398046511104 then ((voices_Span.f (y206 ++ [(⟨(-3), 0, 2, 0⟩ : S45)])).bind fun bt212 => (if t187 = 10 then (if t188 = 0 then (if t189 = (-4) then (if t190 = 0 then ((neumeref18_Numbers.f k t194 (([0, 10, 14] : List Int))).bind fun t217 => (if t217 = true then (if t195 = 0 then (if t202 = 2 then (if bt212.1 = (-3) then (some (bt212.2 == 10)) else (some false)) else (some false)) else (some false)) else (some false))) else (some false)) else (some false)) else (some false)) else (some false))) else (none))) else (none)) = some r := by first | (rw [hy203]; with_reducible exact H) | (have H2_ := (Option.bind_some _ _).symm.trans H; rw [hy203]; with_reducible exact H2_) | (have H2_ := (Option.bind_some _ _).symm.trans H; with_reducible exact H2_) | with_reducible exact H | (rw [hy203]; exact H) | exact H
 have Ny203 := sd_ hy203
 clear hy203
 by_cases c5 : y203.length + y181.length < 4398046511104
 ·rw [if_pos c5] at H
  have LMc5 := sd_ c5
  clear c5
  obtain ⟨y206, hy206⟩ : ∃ y_ : List (S45), y_ = (y203 ++ y181) := ⟨_, rfl⟩
  replace H : (if y206.length < 4398046511104 then ((voices_Span.f (y206 ++ [(⟨(-3), 0, 2, 0⟩ : S45)])).bind fun bt212 => (if t187 = 10 then (if t188 = 0 then (if t189 = (-4) then (if t190 = 0 then ((neumeref18_Numbers.f k t194 (([0, 10, 14] : List Int))).bind fun t217 => (if t217 = true then (if t195 = 0 then (if t202 = 2 then (if bt212.1 = (-3) then (some (bt212.2 == 10)) else (some false)) else (some false)) else (some false)) else (some false))) else (some false)) else (some false)) else (some false)) else (some false))) else (none)) = some r := by first | (rw [hy206]; with_reducible exact H) | (have H2_ := (Option.bind_some _ _).symm.trans H; rw [hy206]; with_reducible exact H2_) | (have H2_ := (Option.bind_some _ _).symm.trans H; with_reducible exact H2_) | with_reducible exact H | (rw [hy206]; exact H) | exact H
  have Ny206 := sd_ hy206
  clear hy206
  by_cases c6 : y206.length < 4398046511104
  ·rw [if_pos c6] at H
   have LMc6 := sd_ c6
   clear c6
   obtain ⟨y209, hy209⟩ : ∃ y_ : List (S45), y_ = (y206 ++ [(⟨(-3), 0, 2, 0⟩ : S45)]) := ⟨_, rfl⟩
   replace H : ((voices_Span.f y209).bind fun bt212 => (if t187 = 10 then (if t188 = 0 then (if t189 = (-4) then (if t190 = 0 then ((neumeref18_Numbers.f k t194 (([0, 10, 14] : List Int))).bind fun t217 => (if t217 = true then (if t195 = 0 then (if t202 = 2 then (if bt212.1 = (-3) then (some (bt212.2 == 10)) else (some false)) else (some false)) else (some false)) else (some false))) else (some false)) else (some false)) else (some false)) else (some false))) = some r := by first | (rw [hy209]; with_reducible exact H) | (have H2_ := (Option.bind_some _ _).symm.trans H; rw [hy209]; with_reducible exact H2_) | (have H2_ := (Option.bind_some _ _).symm.trans H; with_reducible exact H2_) | with_reducible exact H | (rw [hy209]; exact H) | exact H
   have Ny209 := sd_ hy209
   clear hy209
   replace H := ob_ H
   obtain ⟨⟨t212, t213⟩, A70, H⟩ := H
   replace H : (if t187 = 10 then (if t188 = 0 then (if t189 = (-4) then (if t190 = 0 then ((neumeref18_Numbers.f k t194 (([0, 10, 14] : List Int))).bind fun t217 => (if t217 = true then (if t195 = 0 then (if t202 = 2 then (if t212 = (-3) then (some (t213 == 10)) else (some false)) else (some false)) else (some false)) else (some false))) else (some false)) else (some false)) else (some false)) else (some false)) = some r := H
   have A7 := sd_ A70
   clear A70
   by_cases c8 : t187 = 10
   ·rw [if_pos c8] at H
    have c8b0 : (t187 == 10) = true := beq_iff_eq.mpr c8
    have c8b1 : (t187 != 10) = false := bne_eq_false_iff_eq.mpr c8
    clear c8
    by_cases c9 : t188 = 0
    ·rw [if_pos c9] at H
     have c9b0 : (t188 == 0) = true := beq_iff_eq.mpr c9
     have c9b1 : (t188 != 0) = false := bne_eq_false_iff_eq.mpr c9
     clear c9
     by_cases c10 : t189 = (-4)
     ·rw [if_pos c10] at H
      have c10b0 : (t189 == (-4)) = true := beq_iff_eq.mpr c10
      have c10b1 : (t189 != (-4)) = false := bne_eq_false_iff_eq.mpr c10
      clear c10
      by_cases c11 : t190 = 0
      ·rw [if_pos c11] at H
       have c11b0 : (t190 == 0) = true := beq_iff_eq.mpr c11
       have c11b1 : (t190 != 0) = false := bne_eq_false_iff_eq.mpr c11
       clear c11
       obtain ⟨y214, hy214⟩ : ∃ y_ : List Int, y_ = (([0, 10, 14] : List Int)) := ⟨_, rfl⟩
       replace H : ((neumeref18_Numbers.f k t194 y214).bind fun t217 => (if t217 = true then (if t195 = 0 then (if t202 = 2 then (if t212 = (-3) then (some (t213 == 10)) else (some false)) else (some false)) else (some false)) else (some false))) = some r := by first | (rw [hy214]; with_reducible exact H) | (have H2_ := (Option.bind_some _ _).symm.trans H; rw [hy214]; with_reducible exact H2_) | (have H2_ := (Option.bind_some _ _).symm.trans H; with_reducible exact H2_) | with_reducible exact H | (rw [hy214]; exact H) | exact H
       have Ny214 := sd_ hy214
       clear hy214
       replace H := ob_ H
       obtain ⟨t217, A120, H⟩ := H
       replace H : (if t217 = true then (if t195 = 0 then (if t202 = 2 then (if t212 = (-3) then (some (t213 == 10)) else (some false)) else (some false)) else (some false)) else (some false)) = some r := H
       have A12 := sd_ A120
       clear A120
       by_cases c13 : t217 = true
       ·subst c13
        have H1 : (if t195 = 0 then (if t202 = 2 then (if t212 = (-3) then (some (t213 == 10)) else (some false)) else (some false)) else (some false)) = some r := by rw [if_pos rfl] at H; exact H
        clear H; have H := H1; clear H1
        by_cases c14 : t195 = 0
        ·rw [if_pos c14] at H
         have c14b0 : (t195 == 0) = true := beq_iff_eq.mpr c14
         have c14b1 : (t195 != 0) = false := bne_eq_false_iff_eq.mpr c14
         clear c14
         by_cases c15 : t202 = 2
         ·rw [if_pos c15] at H
          have c15b0 : (t202 == 2) = true := beq_iff_eq.mpr c15
          have c15b1 : (t202 != 2) = false := bne_eq_false_iff_eq.mpr c15
          clear c15
          by_cases c16 : t212 = (-3)
          ·rw [if_pos c16] at H
           have c16b0 : (t212 == (-3)) = true := beq_iff_eq.mpr c16
           have c16b1 : (t212 != (-3)) = false := bne_eq_false_iff_eq.mpr c16
           clear c16
           obtain rfl := Option.some.inj H
           go_enter Try.func7, Try.ntmps7
           go_wp2_with (first | ((with_reducible refine gate_dst (N := 14) rfl ?_); (try (refine gate_guard (by rfl) ?_; dsimp only)); refine Kd.R_lit k45 _ 45 ?hg (N := 14) ?hd (xs := ([(⟨0, 0, 10, 10⟩ : S45)] : List (S45))) (inner := [.int .i64 0, .int .i64 0, .int .i64 10, .int .i64 10]) (ok := fun _ => True) (okp := fun _ => True) ?hr ?hp (fun _ hk => hk) trivial (Below.refl _ _) (Nat.le_refl _) (by simp) ?_; (case hd => rfl); (case hg => rfl); (case hr => first | (go_simp; done) | (go_simp; rfl)); (case hp => exact (Reps.c4 (show Kd.M k45 _ _ _ (⟨0, 0, 10, 10⟩ : S45) [.int .i64 0, .int .i64 0, .int .i64 10, .int .i64 10] from (k45_mkM _ _ _ (⟨0, 0, 10, 10⟩ : S45) )) (Reps.none _ _))); intro v182 w17 ho18 hb hg_ hnew_; clear hg_ hnew_; (first | rw [← Ny181.out] at ho18 | (simp only [Int.reduceToNat] at ho18; rw [← Ny181.out] at ho18)); have HO183 := sd_ (Kd.R_lower ho18 (bz_ (bb_ HB.out e0_))); replace HB := hb_ HB e0_ hb; clear hb ho18) | ((with_reducible refine gate_dst (N := 16) rfl ?_); (try (refine gate_guard (by rfl) ?_; dsimp only)); refine Kd.R_lit k45 _ 45 ?hg (N := 16) ?hd (xs := ([(⟨0, 5, 4, 8⟩ : S45)] : List (S45))) (inner := [.int .i64 0, .int .i64 5, .int .i64 4, .int .i64 8]) (ok := fun _ => True) (okp := fun _ => True) ?hr ?hp (fun _ hk => hk) trivial (Below.refl _ _) (Nat.le_refl _) (by simp) ?_; (case hd => rfl); (case hg => rfl); (case hr => first | (go_simp; done) | (go_simp; rfl)); (case hp => exact (Reps.c4 (show Kd.M k45 _ _ _ (⟨0, 5, 4, 8⟩ : S45) [.int .i64 0, .int .i64 5, .int .i64 4, .int .i64 8] from (k45_mkM _ _ _ (⟨0, 5, 4, 8⟩ : S45) )) (Reps.none _ _))); intro v185 w19 ho20 hb hg_ hnew_; clear hg_ hnew_; (first | rw [← Ny184.out] at ho20 | (simp only [Int.reduceToNat] at ho20; rw [← Ny184.out] at ho20)); have HO186 := sd_ (Kd.R_lower (Kd.R_new' ho20 (Kd.R_lt (by (with_reducible repeat (first | apply Kd.R_alloc | apply Kd.R_drewN | apply Kd.R_drew)); exact HO183.out))) (bz_ (bb_ HB.out e0_))); replace HO183 := sd_ (Kd.R_elder' (by (with_reducible repeat (first | apply Kd.R_alloc | apply Kd.R_drewN | apply Kd.R_drew)); exact HO183.out) (Kd.R_base ho20) hb); replace HB := hb_ HB e0_ hb; clear hb ho20; obtain ⟨Ao21, co21, eo21⟩ := Kd.R_slice HO183.out; subst eo21; obtain ⟨Ao22, co22, eo22⟩ := Kd.R_slice HO186.out; subst eo22) | ((with_reducible refine gate_callee (f := 13) rfl ?_); refine goesL_ (some 20) rfl rfl Try.func13 (by kernel_rfl) rfl #[.slice Ao21 y181.length co21, .slice Ao22 y184.length co22, .bool true] rfl (by (try simp only [lm_, lq_, lx_]); first | done | rfl | (simp only [ld_, lt_]; rfl)) ?_; (with_reducible refine (voices_Push.calls k _ _ y181 _ _ y184 true t187 t188 _ ?side1 ?side2 ?side3 ?side4 A1.out).mono ?_); (case side1 => repeat (first | exact (Kd.R_reads' HO183.out).2.2 | (with_reducible refine Kd.C_alloc ?_ _) | (with_reducible refine Kd.C_drewN ?_ _) | (with_reducible refine Kd.C_drew ?_))); (case side2 => exact (Kd.R_reads' HO183.out).2.1); (case side3 => repeat (first | exact (Kd.R_reads' HO186.out).2.2 | (with_reducible refine Kd.C_alloc ?_ _) | (with_reducible refine Kd.C_drewN ?_ _) | (with_reducible refine Kd.C_drew ?_))); (case side4 => exact (Kd.R_reads' HO186.out).2.1); rintro e w23 ⟨rfl, hb⟩; refine ⟨_, rfl, ?_⟩; replace HO183 := sd_ (Kd.R_below (by (with_reducible repeat (first | apply Kd.R_alloc | apply Kd.R_drewN | apply Kd.R_drew)); exact HO183.out) hb); replace HO186 := sd_ (Kd.R_below (by (with_reducible repeat (first | apply Kd.R_alloc | apply Kd.R_drewN | apply Kd.R_drew)); exact HO186.out) hb); replace HB := hb_ HB e0_ hb; (try clear hb); (try clear hb2); (try clear hk); (try clear hi)) | ((with_reducible refine gate_callee (f := 13) rfl ?_); refine goesL_ (some 26) rfl rfl Try.func13 (by kernel_rfl) rfl #[.slice Ao21 y181.length co21, .slice Ao22 y184.length co22, .bool false] rfl (by (try simp only [lm_, lq_, lx_]); first | done | rfl | (simp only [ld_, lt_]; rfl)) ?_; (with_reducible refine (voices_Push.calls k _ _ y181 _ _ y184 false t189 t190 _ ?side1 ?side2 ?side3 ?side4 A2.out).mono ?_); (case side1 => repeat (first | exact (Kd.R_reads' HO183.out).2.2 | (with_reducible refine Kd.C_alloc ?_ _) | (with_reducible refine Kd.C_drewN ?_ _) | (with_reducible refine Kd.C_drew ?_))); (case side2 => exact (Kd.R_reads' HO183.out).2.1); (case side3 => repeat (first | exact (Kd.R_reads' HO186.out).2.2 | (with_reducible refine Kd.C_alloc ?_ _) | (with_reducible refine Kd.C_drewN ?_ _) | (with_reducible refine Kd.C_drew ?_))); (case side4 => exact (Kd.R_reads' HO186.out).2.1); rintro e w24 ⟨rfl, hb⟩; refine ⟨_, rfl, ?_⟩; replace HO183 := sd_ (Kd.R_below (by (with_reducible repeat (first | apply Kd.R_alloc | apply Kd.R_drewN | apply Kd.R_drew)); exact HO183.out) hb); replace HO186 := sd_ (Kd.R_below (by (with_reducible repeat (first | apply Kd.R_alloc | apply Kd.R_drewN | apply Kd.R_drew)); exact HO186.out) hb); replace HB := hb_ HB e0_ hb; (try clear hb); (try clear hb2); (try clear hk); (try clear hi)) | ((with_reducible refine gate_dst (N := 33) rfl ?_); (try (refine gate_guard (by rfl) ?_; dsimp only)); refine Kd.N_lit (Kd.slice 45 k45) _ 22 ?hg (N' := 33) ?hd (xs := ([y181, y184, y184] : List (List (S45)))) (inner := [.slice Ao21 y181.length co21, .slice Ao22 y184.length co22, .slice Ao22 y184.length co22]) (ok := (fun _ => True)) (okp := (fun _ => True)) ?hr ?hp (fun _ hk => hk) ((show ∀ k_, w24.heap.size ≤ k_ → (fun _ => True) k_ from fun k_ hk => trivial) _ (Nat.le_refl _)) (Below.refl _ _) (Nat.le_refl _) (by simp) ?_; (case hd => rfl); (case hg => rfl); (case hr => first | (go_simp; done) | (go_simp; rfl)); (case hp => exact (Reps.one (show Kd.FK (Kd.slice 45 k45) _ _ y181 [.slice Ao21 y181.length co21] from (Kd.FK_slice_mk (Kd.R_reads' (Kd.R_mono (ok' := (fun _ => True)) (HO183.out) (fun k_ hk => trivial))).2.1 (Kd.R_F (Kd.R_mono (ok' := (fun _ => True)) (HO183.out) (fun k_ hk => trivial))))) (Reps.one (show Kd.FK (Kd.slice 45 k45) _ _ y184 [.slice Ao22 y184.length co22] from (Kd.FK_slice_mk (Kd.R_reads' (Kd.R_mono (ok' := (fun _ => True)) (HO186.out) (fun k_ hk => trivial))).2.1 (Kd.R_F (Kd.R_mono (ok' := (fun _ => True)) (HO186.out) (fun k_ hk => trivial))))) (Reps.one (show Kd.FK (Kd.slice 45 k45) _ _ y184 [.slice Ao22 y184.length co22] from (Kd.FK_slice_mk (Kd.R_reads' (Kd.R_mono (ok' := (fun _ => True)) (HO186.out) (fun k_ hk => trivial))).2.1 (Kd.R_F (Kd.R_mono (ok' := (fun _ => True)) (HO186.out) (fun k_ hk => trivial))))) (Reps.none _ _))))); intro v192 w25 ho26 hb hg_ hnew_; clear hg_ hnew_; (first | rw [← Ny191.out] at ho26 | (simp only [Int.reduceToNat] at ho26; rw [← Ny191.out] at ho26)); have HO193 := sd_ (Kd.N_lower ho26 (bz_ (bb_ HB.out e0_))); have HCP := sd_ (Kd.C_below (Kd.R_reads' HO183.out).2.2 hb); replace HB := hb_ HB e0_ hb; clear HO183 HO186; clear hb ho26; obtain ⟨Ao27, co27, eo27⟩ := Kd.N_slice HO193.out; subst eo27) | ((with_reducible refine gate_callee (f := 10) rfl ?_); refine goesL_ (some 34) rfl rfl Try.func10 (by kernel_rfl) rfl #[.slice Ao27 y191.length co27] rfl (by (try simp only [lm_, lq_, lx_]); first | done | rfl | (simp only [ld_, lt_]; rfl)) ?_; (with_reducible refine (voices_Shifts.calls k _ _ y191 t194 t195 _ ?side1 ?side2 A3.out).mono ?_); (case side1 => repeat (first | exact (Kd.N_reads' HO193.out).2.2 | (with_reducible refine Kd.C_alloc ?_ _) | (with_reducible refine Kd.C_drewN ?_ _) | (with_reducible refine Kd.C_drew ?_))); (case side2 => exact (Kd.N_reads' HO193.out).2.1); rintro e w28 ⟨v196, rfl, ho0, hb⟩; refine ⟨_, rfl, ?_⟩; have HO197 := sd_ (Kd.R_lower ho0 (bz_ (bb_ HB.out e0_))); replace HO193 := sd_ (Kd.N_elder' (by (with_reducible repeat (first | apply Kd.N_alloc | apply Kd.N_drewN | apply Kd.N_drew)); exact HO193.out) (Kd.R_base ho0) hb); replace HCP := sd_ (Kd.C_below HCP.out hb); replace HB := hb_ HB e0_ hb; (try clear hb); (try clear hb2); (try clear hk); (try clear hi); (try clear ho0)) | ((with_reducible refine gate_dst (N := 39) rfl ?_); (try (refine gate_guard (by rfl) ?_; dsimp only)); refine Kd.R_lit k45 _ 45 ?hg (N := 39) ?hd (xs := ([(⟨1, 0, 0, 0⟩ : S45)] : List (S45))) (inner := [.int .i64 1, .int .i64 0, .int .i64 0, .int .i64 0]) (ok := fun _ => True) (okp := fun _ => True) ?hr ?hp (fun _ hk => hk) trivial (Below.refl _ _) (Nat.le_refl _) (by simp) ?_; (case hd => rfl); (case hg => rfl); (case hr => first | (go_simp; done) | (go_simp; rfl)); (case hp => exact (Reps.c4 (show Kd.M k45 _ _ _ (⟨1, 0, 0, 0⟩ : S45) [.int .i64 1, .int .i64 0, .int .i64 0, .int .i64 0] from (k45_mkM _ _ _ (⟨1, 0, 0, 0⟩ : S45) )) (Reps.none _ _))); intro v199 w29 ho30 hb hg_ hnew_; clear hg_ hnew_; (first | rw [← Ny198.out] at ho30 | (simp only [Int.reduceToNat] at ho30; rw [← Ny198.out] at ho30)); have HO200 := sd_ (Kd.R_lower ho30 (bz_ (bb_ HB.out e0_))); replace HO193 := sd_ (Kd.N_elder' (by (with_reducible repeat (first | apply Kd.N_alloc | apply Kd.N_drewN | apply Kd.N_drew)); exact HO193.out) (Kd.R_base ho30) hb); replace HO197 := sd_ (Kd.R_below (by (with_reducible repeat (first | apply Kd.R_alloc | apply Kd.R_drewN | apply Kd.R_drew)); exact HO197.out) hb); replace HCP := sd_ (Kd.C_below HCP.out hb); replace HB := hb_ HB e0_ hb; clear hb ho30; obtain ⟨Ao31, co31, eo31⟩ := Kd.R_slice HO200.out; subst eo31) | ((with_reducible refine gate_callee (f := 13) rfl ?_); refine goesL_ (some 40) rfl rfl Try.func13 (by kernel_rfl) rfl #[.slice Ao31 y198.length co31, .slice none 0 0, .bool true] rfl (by (try simp only [lm_, lq_, lx_]); first | done | rfl | (simp only [ld_, lt_]; rfl)) ?_; (refine (voices_Push.calls k _ _ y198 _ _ ([] : List (S45)) true t201 t202 _ ?side1 ?side2 ?side3 ?side4 A4.out).mono ?_); (case side1 => repeat (first | exact (Kd.R_reads' HO200.out).2.2 | (with_reducible refine Kd.C_alloc ?_ _) | (with_reducible refine Kd.C_drewN ?_ _) | (with_reducible refine Kd.C_drew ?_))); (case side2 => exact (Kd.R_reads' HO200.out).2.1); (case side3 => exact Kd.C_nil _ _); (case side4 => exact Nat.le_refl _); rintro e w32 ⟨rfl, hb⟩; refine ⟨_, rfl, ?_⟩; replace HO193 := sd_ (Kd.N_below (by (with_reducible repeat (first | apply Kd.N_alloc | apply Kd.N_drewN | apply Kd.N_drew)); exact HO193.out) hb); replace HO197 := sd_ (Kd.R_below (by (with_reducible repeat (first | apply Kd.R_alloc | apply Kd.R_drewN | apply Kd.R_drew)); exact HO197.out) hb); replace HO200 := sd_ (Kd.R_below (by (with_reducible repeat (first | apply Kd.R_alloc | apply Kd.R_drewN | apply Kd.R_drew)); exact HO200.out) hb); replace HCP := sd_ (Kd.C_below HCP.out hb); replace HB := hb_ HB e0_ hb; (try clear hb); (try clear hb2); (try clear hk); (try clear hi)) | ((with_reducible refine gate_dst (N := 44) rfl ?_); (try (refine gate_guard (by rfl) ?_; dsimp only)); refine Kd.R_lit k45 _ 45 ?hg (N := 44) ?hd (xs := ([] : List (S45))) (inner := []) (ok := fun _ => True) (okp := fun _ => True) ?hr ?hp (fun _ hk => hk) trivial (Below.refl _ _) (Nat.le_refl _) (by simp) ?_; (case hd => rfl); (case hg => rfl); (case hr => first | (go_simp; done) | (go_simp; rfl)); (case hp => exact (Reps.none _ _)); intro v204 w33 ho34 hb hg_ hnew_; clear hg_ hnew_; (first | rw [← Ny203.out] at ho34 | (simp only [Int.reduceToNat] at ho34; rw [← Ny203.out] at ho34)); have HO205 := sd_ (Kd.R_lower (Kd.R_new' ho34 (Kd.R_lt (by (with_reducible repeat (first | apply Kd.R_alloc | apply Kd.R_drewN | apply Kd.R_drew)); exact HO200.out))) (bz_ (bb_ HB.out e0_))); replace HO193 := sd_ (Kd.N_elder' (by (with_reducible repeat (first | apply Kd.N_alloc | apply Kd.N_drewN | apply Kd.N_drew)); exact HO193.out) (Kd.R_base ho34) hb); replace HO197 := sd_ (Kd.R_below (by (with_reducible repeat (first | apply Kd.R_alloc | apply Kd.R_drewN | apply Kd.R_drew)); exact HO197.out) hb); replace HO200 := sd_ (Kd.R_elder' (by (with_reducible repeat (first | apply Kd.R_alloc | apply Kd.R_drewN | apply Kd.R_drew)); exact HO200.out) (Kd.R_base ho34) hb); replace HCP := sd_ (Kd.C_below HCP.out hb); replace HB := hb_ HB e0_ hb; clear hb ho34) | ((with_reducible refine gate_builtin (b := .append) (xs := #[.tmp 44, .tmp 45]) rfl ?_); (try (refine gate_guard (by rfl) ?_; dsimp only)); at_builtin; refine Kd.R_append_rows k45 (w0 := w) w.heap.size rfl (.tmp 44) (.tmp 45) 22 45 (.agg #[(.int .i64 0), (.int .i64 0), (.int .i64 0), (.int .i64 0)]) 32 rfl Try.underlying22 info45 rfl (by decide) (by omega) v204 y203 y181 _ _ _ (fun k_ => some k_ ≠ (.slice Ao31 y198.length co31 : Value).ownBlock) (fun _ => False) rfl rfl ?aO ?aR (fun _ _ h => h) (fun _ h => h.elim) ?aF ?aB ?aS ?aL ?_; (case aR => repeat (first | exact HCP.out | (with_reducible refine Kd.C_alloc ?_ _) | (with_reducible refine Kd.C_drewN ?_ _) | (with_reducible refine Kd.C_drew ?_))); (case aB => exact (bb_ HB.out e0_)); (case aF => exact (fun k_ hk => Kd.fresh' (Kd.R_lt (by (with_reducible repeat (first | apply Kd.R_alloc | apply Kd.R_drewN | apply Kd.R_drew)); exact HO200.out)) k_ hk)); (case aO => exact (by (with_reducible repeat (first | apply Kd.R_alloc | apply Kd.R_drewN | apply Kd.R_drew)); exact Kd.R_mono HO205.out (fun _ hk => hk.2))); (case aS => exact (bz_ (bb_ HB.out e0_))); (case aL => have := LMc5.out; omega); intro v207 w35 ho hb hg hat; rw [← Ny206.out] at ho; have n0_ := sd_ (Kd.N_afterv (ok := (fun k_ => some k_ ≠ (v196 : Value).ownBlock ∧ some k_ ≠ (.slice Ao31 y198.length co31 : Value).ownBlock)) (by (with_reducible repeat (first | apply Kd.N_alloc | apply Kd.N_drewN | apply Kd.N_drew)); exact Kd.N_mono HO193.out (fun _ hk => ⟨⟨hk.1.1.2, hk.1.2⟩, hk.2⟩)) hg hat); have n1_ := sd_ (Kd.R_over' (by (with_reducible repeat (first | apply Kd.R_alloc | apply Kd.R_drewN | apply Kd.R_drew)); exact HO197.out) (Kd.R_typed (by (with_reducible repeat (first | apply Kd.R_alloc | apply Kd.R_drewN | apply Kd.R_drew)); exact HO205.out)) (by decide) hg); have n2_ := sd_ (Kd.R_after (ok := (fun _ => True)) (by (with_reducible repeat (first | apply Kd.R_alloc | apply Kd.R_drewN | apply Kd.R_drew)); exact HO200.out) hg hat); have n3_ := sd_ (hb); have n4_ := sd_ (ho); clear HO193; clear HO197; clear HO200; clear HB; clear HO205; have HO193 := n0_; have HO197 := n1_; have HO200 := n2_; have HB := n3_; have HO208 := n4_; clear n0_ n1_ n2_ n3_ n4_; clear ho hb hg hat) | ((with_reducible refine gate_builtin (b := .append) (xs := #[.tmp 46, .tmp 48]) rfl ?_); (try (refine gate_guard (by rfl) ?_; dsimp only)); at_builtin; refine Kd.R_append k45 (w0 := w) w.heap.size rfl (.tmp 46) (.tmp 48) 22 45 (.agg #[(.int .i64 0), (.int .i64 0), (.int .i64 0), (.int .i64 0)]) 32 rfl Try.underlying22 info45 rfl (by decide) (by omega) v207 y206 (⟨(-3), 0, 2, 0⟩ : S45) [.int .i64 (-3), .int .i64 0, .int .i64 2, .int .i64 0] (fun k_ => some k_ ≠ (.slice Ao31 y198.length co31 : Value).ownBlock) (fun _ => False) rfl rfl ?aP (fun _ hk => hk.elim) ?aF ?aO ?aB ?aS ?aL ?_; (case aP => exact k45_mkM _ _ _ (⟨(-3), 0, 2, 0⟩ : S45)); (case aB => exact (bb_ HB.out e0_)); (case aF => exact (fun k_ hk => Kd.fresh' (Kd.R_lt (by (with_reducible repeat (first | apply Kd.R_alloc | apply Kd.R_drewN | apply Kd.R_drew)); exact HO200.out)) k_ hk)); (case aO => exact (by (with_reducible repeat (first | apply Kd.R_alloc | apply Kd.R_drewN | apply Kd.R_drew)); exact HO208.out)); (case aS => exact (bz_ (bb_ HB.out e0_))); (case aL => have := LMc6.out; omega); intro v210 w36 ho hb hg hat; rw [← Ny209.out] at ho; have n0_ := sd_ (Kd.N_afterv (ok := (fun k_ => some k_ ≠ (v196 : Value).ownBlock ∧ some k_ ≠ (.slice Ao31 y198.length co31 : Value).ownBlock)) (by (with_reducible repeat (first | apply Kd.N_alloc | apply Kd.N_drewN | apply Kd.N_drew)); exact HO193.out) hg hat); have n1_ := sd_ (Kd.R_over' (by (with_reducible repeat (first | apply Kd.R_alloc | apply Kd.R_drewN | apply Kd.R_drew)); exact HO197.out) (Kd.R_typed (by (with_reducible repeat (first | apply Kd.R_alloc | apply Kd.R_drewN | apply Kd.R_drew)); exact HO208.out)) (by decide) hg); have n2_ := sd_ (Kd.R_after (ok := (fun _ => True)) (by (with_reducible repeat (first | apply Kd.R_alloc | apply Kd.R_drewN | apply Kd.R_drew)); exact HO200.out) hg hat); have n3_ := sd_ (hb); have n4_ := sd_ (ho); clear HO193; clear HO197; clear HO200; clear HB; clear HO208; have HO193 := n0_; have HO197 := n1_; have HO200 := n2_; have HB := n3_; have HO211 := n4_; clear n0_ n1_ n2_ n3_ n4_; clear ho hb hg hat; obtain ⟨Ao37, co37, eo37⟩ := Kd.R_slice HO211.out; subst eo37) | ((with_reducible refine gate_callee (f := 15) rfl ?_); refine goesL_ (some 50) rfl rfl Try.func15 (by kernel_rfl) rfl #[.slice Ao37 y209.length co37] rfl (by (try simp only [lm_, lq_, lx_]); first | done | rfl | (simp only [ld_, lt_]; rfl)) ?_; (with_reducible refine (voices_Span.calls _ _ y209 t212 t213 _ ?side1 ?side2 A7.out).mono ?_); (case side1 => repeat (first | exact (Kd.R_reads' HO211.out).2.2 | (with_reducible refine Kd.C_alloc ?_ _) | (with_reducible refine Kd.C_drewN ?_ _) | (with_reducible refine Kd.C_drew ?_))); (case side2 => exact (Kd.R_reads' HO211.out).2.1); rintro e w38 ⟨rfl, hb⟩; refine ⟨_, rfl, ?_⟩; replace HO193 := sd_ (Kd.N_below (by (with_reducible repeat (first | apply Kd.N_alloc | apply Kd.N_drewN | apply Kd.N_drew)); exact HO193.out) hb); replace HO197 := sd_ (Kd.R_below (by (with_reducible repeat (first | apply Kd.R_alloc | apply Kd.R_drewN | apply Kd.R_drew)); exact HO197.out) hb); replace HO200 := sd_ (Kd.R_below (by (with_reducible repeat (first | apply Kd.R_alloc | apply Kd.R_drewN | apply Kd.R_drew)); exact HO200.out) hb); replace HO211 := sd_ (Kd.R_below (by (with_reducible repeat (first | apply Kd.R_alloc | apply Kd.R_drewN | apply Kd.R_drew)); exact HO211.out) hb); replace HB := hb_ HB e0_ hb; (try clear hb); (try clear hb2); (try clear hk); (try clear hi)) | ((with_reducible refine gate_dst (N := 69) rfl ?_); (try (refine gate_guard (by rfl) ?_; dsimp only)); refine Kd.R_lit (Kd.int .i64) _ 3 ?hg (N := 69) ?hd (xs := ([0, 10, 14] : List Int)) (inner := [.int .i64 0, .int .i64 10, .int .i64 14]) (ok := fun _ => True) (okp := fun _ => True) ?hr ?hp (fun _ hk => hk) trivial (Below.refl _ _) (Nat.le_refl _) (by simp) ?_; (case hd => rfl); (case hg => rfl); (case hr => first | (go_simp; done) | (go_simp; rfl)); (case hp => exact (Reps.one (show Kd.M (Kd.int .i64) _ _ _ 0 [.int .i64 0] from rfl) (Reps.one (show Kd.M (Kd.int .i64) _ _ _ 10 [.int .i64 10] from rfl) (Reps.one (show Kd.M (Kd.int .i64) _ _ _ 14 [.int .i64 14] from rfl) (Reps.none _ _))))); intro v215 w39 ho40 hb hg_ hnew_; clear hg_ hnew_; (first | rw [← Ny214.out] at ho40 | (simp only [Int.reduceToNat] at ho40; rw [← Ny214.out] at ho40)); have HO216 := sd_ (Kd.R_lower (Kd.R_new' ho40 (Kd.R_lt (by (with_reducible repeat (first | apply Kd.R_alloc | apply Kd.R_drewN | apply Kd.R_drew)); exact HO197.out))) (bz_ (bb_ HB.out e0_))); replace HO193 := sd_ (Kd.N_elder' (by (with_reducible repeat (first | apply Kd.N_alloc | apply Kd.N_drewN | apply Kd.N_drew)); exact HO193.out) (Kd.R_base ho40) hb); replace HO197 := sd_ (Kd.R_elder' (by (with_reducible repeat (first | apply Kd.R_alloc | apply Kd.R_drewN | apply Kd.R_drew)); exact HO197.out) (Kd.R_base ho40) hb); replace HO200 := sd_ (Kd.R_below (by (with_reducible repeat (first | apply Kd.R_alloc | apply Kd.R_drewN | apply Kd.R_drew)); exact HO200.out) hb); replace HO211 := sd_ (Kd.R_below (by (with_reducible repeat (first | apply Kd.R_alloc | apply Kd.R_drewN | apply Kd.R_drew)); exact HO211.out) hb); replace HB := hb_ HB e0_ hb; clear hb ho40; obtain ⟨Ao41, co41, eo41⟩ := Kd.R_slice HO197.out; subst eo41; obtain ⟨Ao42, co42, eo42⟩ := Kd.R_slice HO216.out; subst eo42) | (go_at_call 12; (with_reducible refine (neumeref18_Numbers.calls k _ _ t194 _ _ y214 true _ ?side1 ?side2 ?side3 ?side4 A12.out).mono ?_); (case side1 => repeat (first | exact (Kd.R_reads' HO197.out).2.2 | (with_reducible refine Kd.C_alloc ?_ _) | (with_reducible refine Kd.C_drewN ?_ _) | (with_reducible refine Kd.C_drew ?_))); (case side2 => exact (Kd.R_reads' HO197.out).2.1); (case side3 => repeat (first | exact (Kd.R_reads' HO216.out).2.2 | (with_reducible refine Kd.C_alloc ?_ _) | (with_reducible refine Kd.C_drewN ?_ _) | (with_reducible refine Kd.C_drew ?_))); (case side4 => exact (Kd.R_reads' HO216.out).2.1); rintro e w' ⟨rfl, ⟨nd, rfl⟩⟩))
           go_ret
           exact ⟨by first | rfl | (simp [errW_none, errW_some] <;> rfl) | (simp [*, errW_none, errW_some] <;> rfl), by repeat (first | (with_reducible first | exact HB.out | apply ba_ | apply pd_ | apply d1_) | exact HB.out)⟩
          ·rw [if_neg c16] at H
           have c16b0 : (t212 == (-3)) = false := beq_eq_false_iff_ne.mpr c16
           have c16b1 : (t212 != (-3)) = true := bne_iff_ne.mpr c16
           exact absurd ((Option.some.inj H).trans hxt.out) (by decide)
         ·rw [if_neg c15] at H
          have c15b0 : (t202 == 2) = false := beq_eq_false_iff_ne.mpr c15
          have c15b1 : (t202 != 2) = true := bne_iff_ne.mpr c15
          exact absurd ((Option.some.inj H).trans hxt.out) (by decide)
        ·rw [if_neg c14] at H
         have c14b0 : (t195 == 0) = false := beq_eq_false_iff_ne.mpr c14
         have c14b1 : (t195 != 0) = true := bne_iff_ne.mpr c14
         exact absurd ((Option.some.inj H).trans hxt.out) (by decide)
       ·replace c13 := bf_ c13
        subst c13
        have H1 : (some false) = some r := by rw [if_neg (show ¬ (false = true) by decide)] at H; exact H
        clear H; have H := H1; clear H1
        exact absurd ((Option.some.inj H).trans hxt.out) (by decide)
      ·rw [if_neg c11] at H
       have c11b0 : (t190 == 0) = false := beq_eq_false_iff_ne.mpr c11
       have c11b1 : (t190 != 0) = true := bne_iff_ne.mpr c11
       exact absurd ((Option.some.inj H).trans hxt.out) (by decide)
     ·rw [if_neg c10] at H
      have c10b0 : (t189 == (-4)) = false := beq_eq_false_iff_ne.mpr c10
      have c10b1 : (t189 != (-4)) = true := bne_iff_ne.mpr c10
      exact absurd ((Option.some.inj H).trans hxt.out) (by decide)
    ·rw [if_neg c9] at H
     have c9b0 : (t188 == 0) = false := beq_eq_false_iff_ne.mpr c9
     have c9b1 : (t188 != 0) = true := bne_iff_ne.mpr c9
     exact absurd ((Option.some.inj H).trans hxt.out) (by decide)
   ·rw [if_neg c8] at H
    have c8b0 : (t187 == 10) = false := beq_eq_false_iff_ne.mpr c8
    have c8b1 : (t187 != 10) = true := bne_iff_ne.mpr c8
    exact absurd ((Option.some.inj H).trans hxt.out) (by decide)
  ·rw [if_neg c6] at H
   exact absurd H (by simp)
 ·rw [if_neg c5] at H
  exact absurd H (by simp)
theorem neumelaw24_heads.at : neumelaw24_heads.f 60 = some true := by decide +kernel
theorem neumelaw24_heads.is : ∀ k r, neumelaw24_heads.f k = some r → r = true := by
 intro k r h
 exact Option.some.inj ((at_rounds neumelaw24_heads.mono (Nat.le_max_left k 60) h).symm.trans (at_rounds neumelaw24_heads.mono (Nat.le_max_right k 60) neumelaw24_heads.at))
theorem neumelaw24_heads.calls (k : Nat)  (r : Bool) (w : World) (h : neumelaw24_heads.f k  = some r) :
  Calls Try.prog 7 #[] w fun e w' => e = .returned (.bool r) ∧ Below w.heap.size w w' := neumelaw24_heads.callsT k r w ⟨neumelaw24_heads.is k r h⟩ h

/-! ### neumeref01_Ok: function 47 -/
def neumeref01_Ok.f (a0 : Int) : Option (Bool) := if a0 ≥ (-1099511627776) then (some (decide (a0 ≤ 1099511627776))) else (some false)
set_option maxHeartbeats 8000000 in
set_option maxRecDepth 100000 in
theorem neumeref01_Ok.calls (a0 : Int) (r : Bool) (w : World) (h : neumeref01_Ok.f a0 = some r) :
  Calls Try.prog 47 #[.int .i64 a0] w fun e w' => e = .returned (.bool r) ∧ Drawn0 w w' := by
 have H : (if a0 ≥ (-1099511627776) then (some (decide (a0 ≤ 1099511627776))) else (some false)) = some r := h
 clear h
 by_cases c2 : a0 ≥ (-1099511627776)
 ·rw [if_pos c2] at H
  have c2b0 : decide ((-1099511627776) ≤ a0) = true := dt_ c2
  clear c2
  obtain rfl := Option.some.inj H
  go_enter Try.func47, Try.ntmps47
  go_wp2
  go_ret
  exact ⟨by first | rfl | (simp; done) | (simp [*]; done), by repeat (first | exact Drawn0.refl _ | apply Drawn0.step)⟩
 ·rw [if_neg c2] at H
  have c2b0 : decide ((-1099511627776) ≤ a0) = false := df_ c2
  clear c2
  obtain rfl := Option.some.inj H
  go_enter Try.func47, Try.ntmps47
  go_wp2
  go_ret
  exact ⟨by first | rfl | (simp; done) | (simp [*]; done), by repeat (first | exact Drawn0.refl _ | apply Drawn0.step)⟩

/-! ### neumeref03_Check: function 39 -/
def neumeref03_Check.f (a0_0 : Int) (a0_1 : Int) (a0_2 : Int) (a0_3 : Int) : Option (Bool) := (neumeref01_Ok.f a0_0).bind fun t219 => (if t219 = true then ((neumeref01_Ok.f a0_1).bind fun t220 => (if t220 = true then ((neumeref01_Ok.f a0_2).bind fun t221 => (if t221 = true then ((neumeref01_Ok.f a0_3).bind fun t222 => (if t222 = true then (if a0_0 ≤ a0_2 then (some (decide (a0_1 ≤ a0_3))) else (some false)) else (some false))) else (some false))) else (some false))) else (some false))
set_option maxHeartbeats 8000000 in
set_option maxRecDepth 100000 in
theorem neumeref03_Check.calls (a0_0 : Int) (a0_1 : Int) (a0_2 : Int) (a0_3 : Int) (r : Bool) (w : World) (h : neumeref03_Check.f a0_0 a0_1 a0_2 a0_3 = some r) :
  Calls Try.prog 39 #[.agg #[.int .i64 a0_0, .int .i64 a0_1, .int .i64 a0_2, .int .i64 a0_3]] w fun e w' => e = .returned (.bool r) ∧ Below w.heap.size w w' := by
 have hu45 := Try.underlying45
 have HB := sd_ (Below.refl w.heap.size w)
 have H : ((neumeref01_Ok.f a0_0).bind fun t219 => (if t219 = true then ((neumeref01_Ok.f a0_1).bind fun t220 => (if t220 = true then ((neumeref01_Ok.f a0_2).bind fun t221 => (if t221 = true then ((neumeref01_Ok.f a0_3).bind fun t222 => (if t222 = true then (if a0_0 ≤ a0_2 then (some (decide (a0_1 ≤ a0_3))) else (some false)) else (some false))) else (some false))) else (some false))) else (some false))) = some r := h
 clear h
 replace H := ob_ H
 obtain ⟨t219, A20, H⟩ := H
 replace H : (if t219 = true then ((neumeref01_Ok.f a0_1).bind fun t220 => (if t220 = true then ((neumeref01_Ok.f a0_2).bind fun t221 => (if t221 = true then ((neumeref01_Ok.f a0_3).bind fun t222 => (if t222 = true then (if a0_0 ≤ a0_2 then (some (decide (a0_1 ≤ a0_3))) else (some false)) else (some false))) else (some false))) else (some false))) else (some false)) = some r := H
 have A2 := sd_ A20
 clear A20
 by_cases c3 : t219 = true
 ·subst c3
  have H1 : ((neumeref01_Ok.f a0_1).bind fun t220 => (if t220 = true then ((neumeref01_Ok.f a0_2).bind fun t221 => (if t221 = true then ((neumeref01_Ok.f a0_3).bind fun t222 => (if t222 = true then (if a0_0 ≤ a0_2 then (some (decide (a0_1 ≤ a0_3))) else (some false)) else (some false))) else (some false))) else (some false))) = some r := by rw [if_pos rfl] at H; exact H
  clear H; have H := H1; clear H1
  replace H := ob_ H
  obtain ⟨t220, A40, H⟩ := H
  replace H : (if t220 = true then ((neumeref01_Ok.f a0_2).bind fun t221 => (if t221 = true then ((neumeref01_Ok.f a0_3).bind fun t222 => (if t222 = true then (if a0_0 ≤ a0_2 then (some (decide (a0_1 ≤ a0_3))) else (some false)) else (some false))) else (some false))) else (some false)) = some r := H
  have A4 := sd_ A40
  clear A40
  by_cases c5 : t220 = true
  ·subst c5
   have H1 : ((neumeref01_Ok.f a0_2).bind fun t221 => (if t221 = true then ((neumeref01_Ok.f a0_3).bind fun t222 => (if t222 = true then (if a0_0 ≤ a0_2 then (some (decide (a0_1 ≤ a0_3))) else (some false)) else (some false))) else (some false))) = some r := by rw [if_pos rfl] at H; exact H
   clear H; have H := H1; clear H1
   replace H := ob_ H
   obtain ⟨t221, A60, H⟩ := H
   replace H : (if t221 = true then ((neumeref01_Ok.f a0_3).bind fun t222 => (if t222 = true then (if a0_0 ≤ a0_2 then (some (decide (a0_1 ≤ a0_3))) else (some false)) else (some false))) else (some false)) = some r := H
   have A6 := sd_ A60
   clear A60
   by_cases c7 : t221 = true
   ·subst c7
    have H1 : ((neumeref01_Ok.f a0_3).bind fun t222 => (if t222 = true then (if a0_0 ≤ a0_2 then (some (decide (a0_1 ≤ a0_3))) else (some false)) else (some false))) = some r := by rw [if_pos rfl] at H; exact H
    clear H; have H := H1; clear H1
    replace H := ob_ H
    obtain ⟨t222, A80, H⟩ := H
    replace H : (if t222 = true then (if a0_0 ≤ a0_2 then (some (decide (a0_1 ≤ a0_3))) else (some false)) else (some false)) = some r := H
    have A8 := sd_ A80
    clear A80
    by_cases c9 : t222 = true
    ·subst c9
     have H1 : (if a0_0 ≤ a0_2 then (some (decide (a0_1 ≤ a0_3))) else (some false)) = some r := by rw [if_pos rfl] at H; exact H
     clear H; have H := H1; clear H1
     by_cases c10 : a0_0 ≤ a0_2
     ·rw [if_pos c10] at H
      have c10b0 : decide (a0_0 ≤ a0_2) = true := dt_ c10
      clear c10
      obtain rfl := Option.some.inj H
      go_enter Try.func39, Try.ntmps39
      go_wp2_with (first | ((with_reducible refine gate_dst (N := 1) rfl ?_); refine box_event ?hg (N := 1) ?hd (cs := #[.int .i64 a0_0, .int .i64 a0_1, .int .i64 a0_2, .int .i64 a0_3]) (t := 45) ?hr ?_; (case hd => rfl); (case hg => rfl); (case hr => first | (go_simp; done) | (go_simp; rfl)); intro gb218 hg w11 hbox hb; have BK218 := sd_ hbox; have GW218 := gw_ HB e0_ hg; have GE218 := GW218; replace HB := hb_ HB e0_ hb; clear hb hbox hg; have hcz12_0 : w11.cell? ⟨gb218, 0, none⟩ = some (.int .i64 a0_0) := (kc_ BK218.out 0).trans rfl; have hcz12_1 : w11.cell? ⟨gb218, 1, none⟩ = some (.int .i64 a0_1) := (kc_ BK218.out 1).trans rfl; have hcz12_2 : w11.cell? ⟨gb218, 2, none⟩ = some (.int .i64 a0_2) := (kc_ BK218.out 2).trans rfl; have hcz12_3 : w11.cell? ⟨gb218, 3, none⟩ = some (.int .i64 a0_3) := (kc_ BK218.out 3).trans rfl; have hfz12_0 := kf_ BK218.out 0; have hfz12_1 := kf_ BK218.out 1; have hfz12_2 := kf_ BK218.out 2; have hfz12_3 := kf_ BK218.out 3) | ((with_reducible refine gate_callee (f := 47) rfl ?_); refine goesL_ (some 5) rfl rfl Try.func47 (by kernel_rfl) rfl #[.int .i64 a0_0] rfl (by (try simp only [lm_, lq_, lx_]); first | done | rfl | (simp only [ld_, lt_]; rfl)) ?_; (with_reducible refine (neumeref01_Ok.calls a0_0 true _ A2.out).mono ?_); rintro e w' ⟨rfl, ⟨nd, rfl⟩⟩; refine ⟨_, rfl, ?_⟩) | (go_at_call 47; (with_reducible refine (neumeref01_Ok.calls a0_1 true _ A4.out).mono ?_); rintro e w' ⟨rfl, ⟨nd, rfl⟩⟩) | (go_at_call 47; (with_reducible refine (neumeref01_Ok.calls a0_2 true _ A6.out).mono ?_); rintro e w' ⟨rfl, ⟨nd, rfl⟩⟩) | (go_at_call 47; (with_reducible refine (neumeref01_Ok.calls a0_3 true _ A8.out).mono ?_); rintro e w' ⟨rfl, ⟨nd, rfl⟩⟩))
      go_ret
      exact ⟨by first | rfl | (simp [errW_none, errW_some] <;> rfl) | (simp [*, errW_none, errW_some] <;> rfl), by repeat (first | (with_reducible first | exact HB.out | apply ba_ | apply pd_ | apply d1_ | refine bs_ ?_ GE218.out) | exact HB.out)⟩
     ·rw [if_neg c10] at H
      have c10b0 : decide (a0_0 ≤ a0_2) = false := df_ c10
      clear c10
      obtain rfl := Option.some.inj H
      go_enter Try.func39, Try.ntmps39
      go_wp2_with (first | ((with_reducible refine gate_dst (N := 1) rfl ?_); refine box_event ?hg (N := 1) ?hd (cs := #[.int .i64 a0_0, .int .i64 a0_1, .int .i64 a0_2, .int .i64 a0_3]) (t := 45) ?hr ?_; (case hd => rfl); (case hg => rfl); (case hr => first | (go_simp; done) | (go_simp; rfl)); intro gb218 hg w13 hbox hb; have BK218 := sd_ hbox; have GW218 := gw_ HB e0_ hg; have GE218 := GW218; replace HB := hb_ HB e0_ hb; clear hb hbox hg; have hcz14_0 : w13.cell? ⟨gb218, 0, none⟩ = some (.int .i64 a0_0) := (kc_ BK218.out 0).trans rfl; have hcz14_1 : w13.cell? ⟨gb218, 1, none⟩ = some (.int .i64 a0_1) := (kc_ BK218.out 1).trans rfl; have hcz14_2 : w13.cell? ⟨gb218, 2, none⟩ = some (.int .i64 a0_2) := (kc_ BK218.out 2).trans rfl; have hcz14_3 : w13.cell? ⟨gb218, 3, none⟩ = some (.int .i64 a0_3) := (kc_ BK218.out 3).trans rfl; have hfz14_0 := kf_ BK218.out 0; have hfz14_1 := kf_ BK218.out 1; have hfz14_2 := kf_ BK218.out 2; have hfz14_3 := kf_ BK218.out 3) | ((with_reducible refine gate_callee (f := 47) rfl ?_); refine goesL_ (some 5) rfl rfl Try.func47 (by kernel_rfl) rfl #[.int .i64 a0_0] rfl (by (try simp only [lm_, lq_, lx_]); first | done | rfl | (simp only [ld_, lt_]; rfl)) ?_; (with_reducible refine (neumeref01_Ok.calls a0_0 true _ A2.out).mono ?_); rintro e w' ⟨rfl, ⟨nd, rfl⟩⟩; refine ⟨_, rfl, ?_⟩) | (go_at_call 47; (with_reducible refine (neumeref01_Ok.calls a0_1 true _ A4.out).mono ?_); rintro e w' ⟨rfl, ⟨nd, rfl⟩⟩) | (go_at_call 47; (with_reducible refine (neumeref01_Ok.calls a0_2 true _ A6.out).mono ?_); rintro e w' ⟨rfl, ⟨nd, rfl⟩⟩) | (go_at_call 47; (with_reducible refine (neumeref01_Ok.calls a0_3 true _ A8.out).mono ?_); rintro e w' ⟨rfl, ⟨nd, rfl⟩⟩))
      go_ret
      exact ⟨by first | rfl | (simp [errW_none, errW_some] <;> rfl) | (simp [*, errW_none, errW_some] <;> rfl), by repeat (first | (with_reducible first | exact HB.out | apply ba_ | apply pd_ | apply d1_ | refine bs_ ?_ GE218.out) | exact HB.out)⟩
    ·replace c9 := bf_ c9
     subst c9
     have H1 : (some false) = some r := by rw [if_neg (show ¬ (false = true) by decide)] at H; exact H
     clear H; have H := H1; clear H1
     obtain rfl := Option.some.inj H
     go_enter Try.func39, Try.ntmps39
     go_wp2_with (first | ((with_reducible refine gate_dst (N := 1) rfl ?_); refine box_event ?hg (N := 1) ?hd (cs := #[.int .i64 a0_0, .int .i64 a0_1, .int .i64 a0_2, .int .i64 a0_3]) (t := 45) ?hr ?_; (case hd => rfl); (case hg => rfl); (case hr => first | (go_simp; done) | (go_simp; rfl)); intro gb218 hg w15 hbox hb; have BK218 := sd_ hbox; have GW218 := gw_ HB e0_ hg; have GE218 := GW218; replace HB := hb_ HB e0_ hb; clear hb hbox hg; have hcz16_0 : w15.cell? ⟨gb218, 0, none⟩ = some (.int .i64 a0_0) := (kc_ BK218.out 0).trans rfl; have hcz16_1 : w15.cell? ⟨gb218, 1, none⟩ = some (.int .i64 a0_1) := (kc_ BK218.out 1).trans rfl; have hcz16_2 : w15.cell? ⟨gb218, 2, none⟩ = some (.int .i64 a0_2) := (kc_ BK218.out 2).trans rfl; have hcz16_3 : w15.cell? ⟨gb218, 3, none⟩ = some (.int .i64 a0_3) := (kc_ BK218.out 3).trans rfl; have hfz16_0 := kf_ BK218.out 0; have hfz16_1 := kf_ BK218.out 1; have hfz16_2 := kf_ BK218.out 2; have hfz16_3 := kf_ BK218.out 3) | ((with_reducible refine gate_callee (f := 47) rfl ?_); refine goesL_ (some 5) rfl rfl Try.func47 (by kernel_rfl) rfl #[.int .i64 a0_0] rfl (by (try simp only [lm_, lq_, lx_]); first | done | rfl | (simp only [ld_, lt_]; rfl)) ?_; (with_reducible refine (neumeref01_Ok.calls a0_0 true _ A2.out).mono ?_); rintro e w' ⟨rfl, ⟨nd, rfl⟩⟩; refine ⟨_, rfl, ?_⟩) | (go_at_call 47; (with_reducible refine (neumeref01_Ok.calls a0_1 true _ A4.out).mono ?_); rintro e w' ⟨rfl, ⟨nd, rfl⟩⟩) | (go_at_call 47; (with_reducible refine (neumeref01_Ok.calls a0_2 true _ A6.out).mono ?_); rintro e w' ⟨rfl, ⟨nd, rfl⟩⟩) | (go_at_call 47; (with_reducible refine (neumeref01_Ok.calls a0_3 false _ A8.out).mono ?_); rintro e w' ⟨rfl, ⟨nd, rfl⟩⟩))
     go_ret
     exact ⟨by first | rfl | (simp [errW_none, errW_some] <;> rfl) | (simp [*, errW_none, errW_some] <;> rfl), by repeat (first | (with_reducible first | exact HB.out | apply ba_ | apply pd_ | apply d1_ | refine bs_ ?_ GE218.out) | exact HB.out)⟩
   ·replace c7 := bf_ c7
    subst c7
    have H1 : (some false) = some r := by rw [if_neg (show ¬ (false = true) by decide)] at H; exact H
    clear H; have H := H1; clear H1
    obtain rfl := Option.some.inj H
    go_enter Try.func39, Try.ntmps39
    go_wp2_with (first | ((with_reducible refine gate_dst (N := 1) rfl ?_); refine box_event ?hg (N := 1) ?hd (cs := #[.int .i64 a0_0, .int .i64 a0_1, .int .i64 a0_2, .int .i64 a0_3]) (t := 45) ?hr ?_; (case hd => rfl); (case hg => rfl); (case hr => first | (go_simp; done) | (go_simp; rfl)); intro gb218 hg w17 hbox hb; have BK218 := sd_ hbox; have GW218 := gw_ HB e0_ hg; have GE218 := GW218; replace HB := hb_ HB e0_ hb; clear hb hbox hg; have hcz18_0 : w17.cell? ⟨gb218, 0, none⟩ = some (.int .i64 a0_0) := (kc_ BK218.out 0).trans rfl; have hcz18_1 : w17.cell? ⟨gb218, 1, none⟩ = some (.int .i64 a0_1) := (kc_ BK218.out 1).trans rfl; have hcz18_2 : w17.cell? ⟨gb218, 2, none⟩ = some (.int .i64 a0_2) := (kc_ BK218.out 2).trans rfl; have hcz18_3 : w17.cell? ⟨gb218, 3, none⟩ = some (.int .i64 a0_3) := (kc_ BK218.out 3).trans rfl; have hfz18_0 := kf_ BK218.out 0; have hfz18_1 := kf_ BK218.out 1; have hfz18_2 := kf_ BK218.out 2; have hfz18_3 := kf_ BK218.out 3) | ((with_reducible refine gate_callee (f := 47) rfl ?_); refine goesL_ (some 5) rfl rfl Try.func47 (by kernel_rfl) rfl #[.int .i64 a0_0] rfl (by (try simp only [lm_, lq_, lx_]); first | done | rfl | (simp only [ld_, lt_]; rfl)) ?_; (with_reducible refine (neumeref01_Ok.calls a0_0 true _ A2.out).mono ?_); rintro e w' ⟨rfl, ⟨nd, rfl⟩⟩; refine ⟨_, rfl, ?_⟩) | (go_at_call 47; (with_reducible refine (neumeref01_Ok.calls a0_1 true _ A4.out).mono ?_); rintro e w' ⟨rfl, ⟨nd, rfl⟩⟩) | (go_at_call 47; (with_reducible refine (neumeref01_Ok.calls a0_2 false _ A6.out).mono ?_); rintro e w' ⟨rfl, ⟨nd, rfl⟩⟩))
    go_ret
    exact ⟨by first | rfl | (simp [errW_none, errW_some] <;> rfl) | (simp [*, errW_none, errW_some] <;> rfl), by repeat (first | (with_reducible first | exact HB.out | apply ba_ | apply pd_ | apply d1_ | refine bs_ ?_ GE218.out) | exact HB.out)⟩
  ·replace c5 := bf_ c5
   subst c5
   have H1 : (some false) = some r := by rw [if_neg (show ¬ (false = true) by decide)] at H; exact H
   clear H; have H := H1; clear H1
   obtain rfl := Option.some.inj H
   go_enter Try.func39, Try.ntmps39
   go_wp2_with (first | ((with_reducible refine gate_dst (N := 1) rfl ?_); refine box_event ?hg (N := 1) ?hd (cs := #[.int .i64 a0_0, .int .i64 a0_1, .int .i64 a0_2, .int .i64 a0_3]) (t := 45) ?hr ?_; (case hd => rfl); (case hg => rfl); (case hr => first | (go_simp; done) | (go_simp; rfl)); intro gb218 hg w19 hbox hb; have BK218 := sd_ hbox; have GW218 := gw_ HB e0_ hg; have GE218 := GW218; replace HB := hb_ HB e0_ hb; clear hb hbox hg; have hcz20_0 : w19.cell? ⟨gb218, 0, none⟩ = some (.int .i64 a0_0) := (kc_ BK218.out 0).trans rfl; have hcz20_1 : w19.cell? ⟨gb218, 1, none⟩ = some (.int .i64 a0_1) := (kc_ BK218.out 1).trans rfl; have hcz20_2 : w19.cell? ⟨gb218, 2, none⟩ = some (.int .i64 a0_2) := (kc_ BK218.out 2).trans rfl; have hcz20_3 : w19.cell? ⟨gb218, 3, none⟩ = some (.int .i64 a0_3) := (kc_ BK218.out 3).trans rfl; have hfz20_0 := kf_ BK218.out 0; have hfz20_1 := kf_ BK218.out 1; have hfz20_2 := kf_ BK218.out 2; have hfz20_3 := kf_ BK218.out 3) | ((with_reducible refine gate_callee (f := 47) rfl ?_); refine goesL_ (some 5) rfl rfl Try.func47 (by kernel_rfl) rfl #[.int .i64 a0_0] rfl (by (try simp only [lm_, lq_, lx_]); first | done | rfl | (simp only [ld_, lt_]; rfl)) ?_; (with_reducible refine (neumeref01_Ok.calls a0_0 true _ A2.out).mono ?_); rintro e w' ⟨rfl, ⟨nd, rfl⟩⟩; refine ⟨_, rfl, ?_⟩) | (go_at_call 47; (with_reducible refine (neumeref01_Ok.calls a0_1 false _ A4.out).mono ?_); rintro e w' ⟨rfl, ⟨nd, rfl⟩⟩))
   go_ret
   exact ⟨by first | rfl | (simp [errW_none, errW_some] <;> rfl) | (simp [*, errW_none, errW_some] <;> rfl), by repeat (first | (with_reducible first | exact HB.out | apply ba_ | apply pd_ | apply d1_ | refine bs_ ?_ GE218.out) | exact HB.out)⟩
 ·replace c3 := bf_ c3
  subst c3
  have H1 : (some false) = some r := by rw [if_neg (show ¬ (false = true) by decide)] at H; exact H
  clear H; have H := H1; clear H1
  obtain rfl := Option.some.inj H
  go_enter Try.func39, Try.ntmps39
  go_wp2_with (first | ((with_reducible refine gate_dst (N := 1) rfl ?_); refine box_event ?hg (N := 1) ?hd (cs := #[.int .i64 a0_0, .int .i64 a0_1, .int .i64 a0_2, .int .i64 a0_3]) (t := 45) ?hr ?_; (case hd => rfl); (case hg => rfl); (case hr => first | (go_simp; done) | (go_simp; rfl)); intro gb218 hg w21 hbox hb; have BK218 := sd_ hbox; have GW218 := gw_ HB e0_ hg; have GE218 := GW218; replace HB := hb_ HB e0_ hb; clear hb hbox hg; have hcz22_0 : w21.cell? ⟨gb218, 0, none⟩ = some (.int .i64 a0_0) := (kc_ BK218.out 0).trans rfl; have hcz22_1 : w21.cell? ⟨gb218, 1, none⟩ = some (.int .i64 a0_1) := (kc_ BK218.out 1).trans rfl; have hcz22_2 : w21.cell? ⟨gb218, 2, none⟩ = some (.int .i64 a0_2) := (kc_ BK218.out 2).trans rfl; have hcz22_3 : w21.cell? ⟨gb218, 3, none⟩ = some (.int .i64 a0_3) := (kc_ BK218.out 3).trans rfl; have hfz22_0 := kf_ BK218.out 0; have hfz22_1 := kf_ BK218.out 1; have hfz22_2 := kf_ BK218.out 2; have hfz22_3 := kf_ BK218.out 3) | ((with_reducible refine gate_callee (f := 47) rfl ?_); refine goesL_ (some 5) rfl rfl Try.func47 (by kernel_rfl) rfl #[.int .i64 a0_0] rfl (by (try simp only [lm_, lq_, lx_]); first | done | rfl | (simp only [ld_, lt_]; rfl)) ?_; (with_reducible refine (neumeref01_Ok.calls a0_0 false _ A2.out).mono ?_); rintro e w' ⟨rfl, ⟨nd, rfl⟩⟩; refine ⟨_, rfl, ?_⟩))
  go_ret
  exact ⟨by first | rfl | (simp [errW_none, errW_some] <;> rfl) | (simp [*, errW_none, errW_some] <;> rfl), by repeat (first | (with_reducible first | exact HB.out | apply ba_ | apply pd_ | apply d1_ | refine bs_ ?_ GE218.out) | exact HB.out)⟩

/-! ### neumeref03_Meet: function 31 -/
def neumeref03_Meet.f (a0_0 : Int) (a0_1 : Int) (a0_2 : Int) (a0_3 : Int) (a1_0 : Int) (a1_1 : Int) (a1_2 : Int) (a1_3 : Int) : Option (Bool) := (neumeref03_Check.f a0_0 a0_1 a0_2 a0_3).bind fun t231 => (if t231 = true then ((neumeref03_Check.f a1_0 a1_1 a1_2 a1_3).bind fun t232 => (if t232 = true then (if (mx a0_0 a1_0) < (mn a0_2 a1_2) then (some (decide ((mx a0_1 a1_1) < (mn a0_3 a1_3)))) else (some false)) else (some false))) else (some false))
set_option maxHeartbeats 8000000 in
set_option maxRecDepth 100000 in
theorem neumeref03_Meet.calls (a0_0 : Int) (a0_1 : Int) (a0_2 : Int) (a0_3 : Int) (a1_0 : Int) (a1_1 : Int) (a1_2 : Int) (a1_3 : Int) (r : Bool) (w : World) (h : neumeref03_Meet.f a0_0 a0_1 a0_2 a0_3 a1_0 a1_1 a1_2 a1_3 = some r) :
  Calls Try.prog 31 #[.agg #[.int .i64 a0_0, .int .i64 a0_1, .int .i64 a0_2, .int .i64 a0_3], .agg #[.int .i64 a1_0, .int .i64 a1_1, .int .i64 a1_2, .int .i64 a1_3]] w fun e w' => e = .returned (.bool r) ∧ Below w.heap.size w w' := by
 have hu45 := Try.underlying45
 have HB := sd_ (Below.refl w.heap.size w)
 have H : ((neumeref03_Check.f a0_0 a0_1 a0_2 a0_3).bind fun t231 => (if t231 = true then ((neumeref03_Check.f a1_0 a1_1 a1_2 a1_3).bind fun t232 => (if t232 = true then (if (mx a0_0 a1_0) < (mn a0_2 a1_2) then (some (decide ((mx a0_1 a1_1) < (mn a0_3 a1_3)))) else (some false)) else (some false))) else (some false))) = some r := h
 clear h
 replace H := ob_ H
 obtain ⟨t231, A30, H⟩ := H
 replace H : (if t231 = true then ((neumeref03_Check.f a1_0 a1_1 a1_2 a1_3).bind fun t232 => (if t232 = true then (if (mx a0_0 a1_0) < (mn a0_2 a1_2) then (some (decide ((mx a0_1 a1_1) < (mn a0_3 a1_3)))) else (some false)) else (some false))) else (some false)) = some r := H
 have A3 := sd_ A30
 clear A30
 by_cases c4 : t231 = true
 ·subst c4
  have H1 : ((neumeref03_Check.f a1_0 a1_1 a1_2 a1_3).bind fun t232 => (if t232 = true then (if (mx a0_0 a1_0) < (mn a0_2 a1_2) then (some (decide ((mx a0_1 a1_1) < (mn a0_3 a1_3)))) else (some false)) else (some false))) = some r := by rw [if_pos rfl] at H; exact H
  clear H; have H := H1; clear H1
  replace H := ob_ H
  obtain ⟨t232, A50, H⟩ := H
  replace H : (if t232 = true then (if (mx a0_0 a1_0) < (mn a0_2 a1_2) then (some (decide ((mx a0_1 a1_1) < (mn a0_3 a1_3)))) else (some false)) else (some false)) = some r := H
  have A5 := sd_ A50
  clear A50
  by_cases c6 : t232 = true
  ·subst c6
   have H1 : (if (mx a0_0 a1_0) < (mn a0_2 a1_2) then (some (decide ((mx a0_1 a1_1) < (mn a0_3 a1_3)))) else (some false)) = some r := by rw [if_pos rfl] at H; exact H
   clear H; have H := H1; clear H1
   obtain ⟨ji7, hji7⟩ : ∃ j_ : Int, (mx a0_0 a1_0) = j_ := ⟨_, rfl⟩
   replace H : (if (ji7) < (mn a0_2 a1_2) then (some (decide ((mx a0_1 a1_1) < (mn a0_3 a1_3)))) else (some false)) = some r := by first | (rw [hji7] at H; exact H) | (simp only [hji7] at H ⊢; exact H)
   (try rw [hji7] at A3)
   (try rw [hji7] at A5)
   have hji7_ : (if a0_0 < a1_0 then a1_0 else a0_0) = ji7 := hji7
   obtain ⟨ji8, hji8⟩ : ∃ j_ : Int, (mn a0_2 a1_2) = j_ := ⟨_, rfl⟩
   replace H : (if (ji7) < (ji8) then (some (decide ((mx a0_1 a1_1) < (mn a0_3 a1_3)))) else (some false)) = some r := by first | (rw [hji8] at H; exact H) | (simp only [hji8] at H ⊢; exact H)
   (try rw [hji8] at A3)
   (try rw [hji8] at A5)
   have hji8_ : (if a1_2 < a0_2 then a1_2 else a0_2) = ji8 := hji8
   obtain ⟨ji9, hji9⟩ : ∃ j_ : Int, (mx a0_1 a1_1) = j_ := ⟨_, rfl⟩
   replace H : (if (ji7) < (ji8) then (some (decide ((ji9) < (mn a0_3 a1_3)))) else (some false)) = some r := by first | (rw [hji9] at H; exact H) | (simp only [hji9] at H ⊢; exact H)
   (try rw [hji9] at A3)
   (try rw [hji9] at A5)
   have hji9_ : (if a0_1 < a1_1 then a1_1 else a0_1) = ji9 := hji9
   obtain ⟨ji10, hji10⟩ : ∃ j_ : Int, (mn a0_3 a1_3) = j_ := ⟨_, rfl⟩
   replace H : (if (ji7) < (ji8) then (some (decide ((ji9) < (ji10)))) else (some false)) = some r := by first | (rw [hji10] at H; exact H) | (simp only [hji10] at H ⊢; exact H)
   (try rw [hji10] at A3)
   (try rw [hji10] at A5)
   have hji10_ : (if a1_3 < a0_3 then a1_3 else a0_3) = ji10 := hji10
   by_cases c11 : (ji7) < (ji8)
   ·rw [if_pos c11] at H
    have c11b0 : decide ((ji7) < (ji8)) = true := dt_ c11
    clear c11
    obtain rfl := Option.some.inj H
    go_enter Try.func31, Try.ntmps31
    go_wp2_with (first | ((with_reducible refine gate_dst (N := 2) rfl ?_); refine box_event ?hg (N := 2) ?hd (cs := #[.int .i64 a0_0, .int .i64 a0_1, .int .i64 a0_2, .int .i64 a0_3]) (t := 45) ?hr ?_; (case hd => rfl); (case hg => rfl); (case hr => first | (go_simp; done) | (go_simp; rfl)); intro gb229 hg w12 hbox hb; have BK229 := sd_ hbox; have GW229 := gw_ HB e0_ hg; have GE229 := GW229; replace HB := hb_ HB e0_ hb; clear hb hbox hg) | ((with_reducible refine gate_dst (N := 3) rfl ?_); refine box_event ?hg (N := 3) ?hd (cs := #[.int .i64 a1_0, .int .i64 a1_1, .int .i64 a1_2, .int .i64 a1_3]) (t := 45) ?hr ?_; (case hd => rfl); (case hg => rfl); (case hr => first | (go_simp; done) | (go_simp; rfl)); intro gb230 hg w13 hbox hb; have BK230 := sd_ hbox; have GW230 := gw_ HB (e_ GE229 e0_) hg; have GE230 := GW230; have NB229_230 := nb_ BK229 hg; have NB230_229 := sy_ NB229_230; replace BK229 := kb_ BK229 hb; replace HB := hb_ HB (e_ GE229 e0_) hb; clear hb hbox hg; have hnb14 := NB229_230.out; have hnc14 := NB230_229.out; have hcz15_0 : w13.cell? ⟨gb229, 0, none⟩ = some (.int .i64 a0_0) := (kc_ BK229.out 0).trans rfl; have hcz15_1 : w13.cell? ⟨gb229, 1, none⟩ = some (.int .i64 a0_1) := (kc_ BK229.out 1).trans rfl; have hcz15_2 : w13.cell? ⟨gb229, 2, none⟩ = some (.int .i64 a0_2) := (kc_ BK229.out 2).trans rfl; have hcz15_3 : w13.cell? ⟨gb229, 3, none⟩ = some (.int .i64 a0_3) := (kc_ BK229.out 3).trans rfl; have hfz15_0 := kf_ BK229.out 0; have hfz15_1 := kf_ BK229.out 1; have hfz15_2 := kf_ BK229.out 2; have hfz15_3 := kf_ BK229.out 3) | ((with_reducible refine gate_callee (f := 39) rfl ?_); refine goesL_ (some 8) rfl rfl Try.func39 (by kernel_rfl) rfl #[.agg #[.int .i64 a0_0, .int .i64 a0_1, .int .i64 a0_2, .int .i64 a0_3]] rfl (by (try simp only [lm_, lq_, lx_]); first | done | rfl | (simp only [ld_, lt_]; rfl)) ?_; (with_reducible refine (neumeref03_Check.calls a0_0 a0_1 a0_2 a0_3 true _ A3.out).mono ?_); rintro e w16 ⟨rfl, hb⟩; refine ⟨_, rfl, ?_⟩; replace BK229 := kb_ BK229 hb; replace BK230 := kb_ BK230 hb; replace HB := hb_ HB (e_ GE229 (e_ GE230 e0_)) hb; (try clear hb); (try clear hb2); (try clear hk); (try clear hi); have hcz17_0 : w16.cell? ⟨gb230, 0, none⟩ = some (.int .i64 a1_0) := (kc_ BK230.out 0).trans rfl; have hcz17_1 : w16.cell? ⟨gb230, 1, none⟩ = some (.int .i64 a1_1) := (kc_ BK230.out 1).trans rfl; have hcz17_2 : w16.cell? ⟨gb230, 2, none⟩ = some (.int .i64 a1_2) := (kc_ BK230.out 2).trans rfl; have hcz17_3 : w16.cell? ⟨gb230, 3, none⟩ = some (.int .i64 a1_3) := (kc_ BK230.out 3).trans rfl; have hfz17_0 := kf_ BK230.out 0; have hfz17_1 := kf_ BK230.out 1; have hfz17_2 := kf_ BK230.out 2; have hfz17_3 := kf_ BK230.out 3) | (go_at_call 39; (with_reducible refine (neumeref03_Check.calls a1_0 a1_1 a1_2 a1_3 true _ A5.out).mono ?_); rintro e w18 ⟨rfl, hb⟩; replace BK229 := kb_ BK229 hb; replace BK230 := kb_ BK230 hb; replace HB := hb_ HB (e_ GE229 (e_ GE230 e0_)) hb; (try clear hb); (try clear hb2); (try clear hk); (try clear hi); have hcz19_0 : w18.cell? ⟨gb229, 0, none⟩ = some (.int .i64 a0_0) := (kc_ BK229.out 0).trans rfl; have hcz19_1 : w18.cell? ⟨gb229, 1, none⟩ = some (.int .i64 a0_1) := (kc_ BK229.out 1).trans rfl; have hcz19_2 : w18.cell? ⟨gb229, 2, none⟩ = some (.int .i64 a0_2) := (kc_ BK229.out 2).trans rfl; have hcz19_3 : w18.cell? ⟨gb229, 3, none⟩ = some (.int .i64 a0_3) := (kc_ BK229.out 3).trans rfl; have hfz19_0 := kf_ BK229.out 0; have hfz19_1 := kf_ BK229.out 1; have hfz19_2 := kf_ BK229.out 2; have hfz19_3 := kf_ BK229.out 3; have hcz20_0 : w18.cell? ⟨gb230, 0, none⟩ = some (.int .i64 a1_0) := (kc_ BK230.out 0).trans rfl; have hcz20_1 : w18.cell? ⟨gb230, 1, none⟩ = some (.int .i64 a1_1) := (kc_ BK230.out 1).trans rfl; have hcz20_2 : w18.cell? ⟨gb230, 2, none⟩ = some (.int .i64 a1_2) := (kc_ BK230.out 2).trans rfl; have hcz20_3 : w18.cell? ⟨gb230, 3, none⟩ = some (.int .i64 a1_3) := (kc_ BK230.out 3).trans rfl; have hfz20_0 := kf_ BK230.out 0; have hfz20_1 := kf_ BK230.out 1; have hfz20_2 := kf_ BK230.out 2; have hfz20_3 := kf_ BK230.out 3))
    go_ret
    exact ⟨by first | rfl | (simp [errW_none, errW_some] <;> rfl) | (simp only [← hji7, ← hji8, ← hji9, ← hji10]; first | rfl | (simp [errW_none, errW_some] <;> rfl)) | (simp [*, errW_none, errW_some] <;> rfl), by repeat (first | (with_reducible first | exact HB.out | apply ba_ | apply pd_ | apply d1_ | refine bs_ ?_ GE229.out | refine bs_ ?_ GE230.out) | exact HB.out)⟩
   ·rw [if_neg c11] at H
    have c11b0 : decide ((ji7) < (ji8)) = false := df_ c11
    clear c11
    obtain rfl := Option.some.inj H
    go_enter Try.func31, Try.ntmps31
    go_wp2_with (first | ((with_reducible refine gate_dst (N := 2) rfl ?_); refine box_event ?hg (N := 2) ?hd (cs := #[.int .i64 a0_0, .int .i64 a0_1, .int .i64 a0_2, .int .i64 a0_3]) (t := 45) ?hr ?_; (case hd => rfl); (case hg => rfl); (case hr => first | (go_simp; done) | (go_simp; rfl)); intro gb229 hg w21 hbox hb; have BK229 := sd_ hbox; have GW229 := gw_ HB e0_ hg; have GE229 := GW229; replace HB := hb_ HB e0_ hb; clear hb hbox hg) | ((with_reducible refine gate_dst (N := 3) rfl ?_); refine box_event ?hg (N := 3) ?hd (cs := #[.int .i64 a1_0, .int .i64 a1_1, .int .i64 a1_2, .int .i64 a1_3]) (t := 45) ?hr ?_; (case hd => rfl); (case hg => rfl); (case hr => first | (go_simp; done) | (go_simp; rfl)); intro gb230 hg w22 hbox hb; have BK230 := sd_ hbox; have GW230 := gw_ HB (e_ GE229 e0_) hg; have GE230 := GW230; have NB229_230 := nb_ BK229 hg; have NB230_229 := sy_ NB229_230; replace BK229 := kb_ BK229 hb; replace HB := hb_ HB (e_ GE229 e0_) hb; clear hb hbox hg; have hnb23 := NB229_230.out; have hnc23 := NB230_229.out; have hcz24_0 : w22.cell? ⟨gb229, 0, none⟩ = some (.int .i64 a0_0) := (kc_ BK229.out 0).trans rfl; have hcz24_1 : w22.cell? ⟨gb229, 1, none⟩ = some (.int .i64 a0_1) := (kc_ BK229.out 1).trans rfl; have hcz24_2 : w22.cell? ⟨gb229, 2, none⟩ = some (.int .i64 a0_2) := (kc_ BK229.out 2).trans rfl; have hcz24_3 : w22.cell? ⟨gb229, 3, none⟩ = some (.int .i64 a0_3) := (kc_ BK229.out 3).trans rfl; have hfz24_0 := kf_ BK229.out 0; have hfz24_1 := kf_ BK229.out 1; have hfz24_2 := kf_ BK229.out 2; have hfz24_3 := kf_ BK229.out 3) | ((with_reducible refine gate_callee (f := 39) rfl ?_); refine goesL_ (some 8) rfl rfl Try.func39 (by kernel_rfl) rfl #[.agg #[.int .i64 a0_0, .int .i64 a0_1, .int .i64 a0_2, .int .i64 a0_3]] rfl (by (try simp only [lm_, lq_, lx_]); first | done | rfl | (simp only [ld_, lt_]; rfl)) ?_; (with_reducible refine (neumeref03_Check.calls a0_0 a0_1 a0_2 a0_3 true _ A3.out).mono ?_); rintro e w25 ⟨rfl, hb⟩; refine ⟨_, rfl, ?_⟩; replace BK229 := kb_ BK229 hb; replace BK230 := kb_ BK230 hb; replace HB := hb_ HB (e_ GE229 (e_ GE230 e0_)) hb; (try clear hb); (try clear hb2); (try clear hk); (try clear hi); have hcz26_0 : w25.cell? ⟨gb230, 0, none⟩ = some (.int .i64 a1_0) := (kc_ BK230.out 0).trans rfl; have hcz26_1 : w25.cell? ⟨gb230, 1, none⟩ = some (.int .i64 a1_1) := (kc_ BK230.out 1).trans rfl; have hcz26_2 : w25.cell? ⟨gb230, 2, none⟩ = some (.int .i64 a1_2) := (kc_ BK230.out 2).trans rfl; have hcz26_3 : w25.cell? ⟨gb230, 3, none⟩ = some (.int .i64 a1_3) := (kc_ BK230.out 3).trans rfl; have hfz26_0 := kf_ BK230.out 0; have hfz26_1 := kf_ BK230.out 1; have hfz26_2 := kf_ BK230.out 2; have hfz26_3 := kf_ BK230.out 3) | (go_at_call 39; (with_reducible refine (neumeref03_Check.calls a1_0 a1_1 a1_2 a1_3 true _ A5.out).mono ?_); rintro e w27 ⟨rfl, hb⟩; replace BK229 := kb_ BK229 hb; replace BK230 := kb_ BK230 hb; replace HB := hb_ HB (e_ GE229 (e_ GE230 e0_)) hb; (try clear hb); (try clear hb2); (try clear hk); (try clear hi); have hcz28_0 : w27.cell? ⟨gb229, 0, none⟩ = some (.int .i64 a0_0) := (kc_ BK229.out 0).trans rfl; have hcz28_1 : w27.cell? ⟨gb229, 1, none⟩ = some (.int .i64 a0_1) := (kc_ BK229.out 1).trans rfl; have hcz28_2 : w27.cell? ⟨gb229, 2, none⟩ = some (.int .i64 a0_2) := (kc_ BK229.out 2).trans rfl; have hcz28_3 : w27.cell? ⟨gb229, 3, none⟩ = some (.int .i64 a0_3) := (kc_ BK229.out 3).trans rfl; have hfz28_0 := kf_ BK229.out 0; have hfz28_1 := kf_ BK229.out 1; have hfz28_2 := kf_ BK229.out 2; have hfz28_3 := kf_ BK229.out 3; have hcz29_0 : w27.cell? ⟨gb230, 0, none⟩ = some (.int .i64 a1_0) := (kc_ BK230.out 0).trans rfl; have hcz29_1 : w27.cell? ⟨gb230, 1, none⟩ = some (.int .i64 a1_1) := (kc_ BK230.out 1).trans rfl; have hcz29_2 : w27.cell? ⟨gb230, 2, none⟩ = some (.int .i64 a1_2) := (kc_ BK230.out 2).trans rfl; have hcz29_3 : w27.cell? ⟨gb230, 3, none⟩ = some (.int .i64 a1_3) := (kc_ BK230.out 3).trans rfl; have hfz29_0 := kf_ BK230.out 0; have hfz29_1 := kf_ BK230.out 1; have hfz29_2 := kf_ BK230.out 2; have hfz29_3 := kf_ BK230.out 3))
    go_ret
    exact ⟨by first | rfl | (simp [errW_none, errW_some] <;> rfl) | (simp only [← hji7, ← hji8, ← hji9, ← hji10]; first | rfl | (simp [errW_none, errW_some] <;> rfl)) | (simp [*, errW_none, errW_some] <;> rfl), by repeat (first | (with_reducible first | exact HB.out | apply ba_ | apply pd_ | apply d1_ | refine bs_ ?_ GE229.out | refine bs_ ?_ GE230.out) | exact HB.out)⟩
  ·replace c6 := bf_ c6
   subst c6
   have H1 : (some false) = some r := by rw [if_neg (show ¬ (false = true) by decide)] at H; exact H
   clear H; have H := H1; clear H1
   obtain rfl := Option.some.inj H
   go_enter Try.func31, Try.ntmps31
   go_wp2_with (first | ((with_reducible refine gate_dst (N := 2) rfl ?_); refine box_event ?hg (N := 2) ?hd (cs := #[.int .i64 a0_0, .int .i64 a0_1, .int .i64 a0_2, .int .i64 a0_3]) (t := 45) ?hr ?_; (case hd => rfl); (case hg => rfl); (case hr => first | (go_simp; done) | (go_simp; rfl)); intro gb229 hg w30 hbox hb; have BK229 := sd_ hbox; have GW229 := gw_ HB e0_ hg; have GE229 := GW229; replace HB := hb_ HB e0_ hb; clear hb hbox hg) | ((with_reducible refine gate_dst (N := 3) rfl ?_); refine box_event ?hg (N := 3) ?hd (cs := #[.int .i64 a1_0, .int .i64 a1_1, .int .i64 a1_2, .int .i64 a1_3]) (t := 45) ?hr ?_; (case hd => rfl); (case hg => rfl); (case hr => first | (go_simp; done) | (go_simp; rfl)); intro gb230 hg w31 hbox hb; have BK230 := sd_ hbox; have GW230 := gw_ HB (e_ GE229 e0_) hg; have GE230 := GW230; have NB229_230 := nb_ BK229 hg; have NB230_229 := sy_ NB229_230; replace BK229 := kb_ BK229 hb; replace HB := hb_ HB (e_ GE229 e0_) hb; clear hb hbox hg; have hnb32 := NB229_230.out; have hnc32 := NB230_229.out; have hcz33_0 : w31.cell? ⟨gb229, 0, none⟩ = some (.int .i64 a0_0) := (kc_ BK229.out 0).trans rfl; have hcz33_1 : w31.cell? ⟨gb229, 1, none⟩ = some (.int .i64 a0_1) := (kc_ BK229.out 1).trans rfl; have hcz33_2 : w31.cell? ⟨gb229, 2, none⟩ = some (.int .i64 a0_2) := (kc_ BK229.out 2).trans rfl; have hcz33_3 : w31.cell? ⟨gb229, 3, none⟩ = some (.int .i64 a0_3) := (kc_ BK229.out 3).trans rfl; have hfz33_0 := kf_ BK229.out 0; have hfz33_1 := kf_ BK229.out 1; have hfz33_2 := kf_ BK229.out 2; have hfz33_3 := kf_ BK229.out 3) | ((with_reducible refine gate_callee (f := 39) rfl ?_); refine goesL_ (some 8) rfl rfl Try.func39 (by kernel_rfl) rfl #[.agg #[.int .i64 a0_0, .int .i64 a0_1, .int .i64 a0_2, .int .i64 a0_3]] rfl (by (try simp only [lm_, lq_, lx_]); first | done | rfl | (simp only [ld_, lt_]; rfl)) ?_; (with_reducible refine (neumeref03_Check.calls a0_0 a0_1 a0_2 a0_3 true _ A3.out).mono ?_); rintro e w34 ⟨rfl, hb⟩; refine ⟨_, rfl, ?_⟩; replace BK229 := kb_ BK229 hb; replace BK230 := kb_ BK230 hb; replace HB := hb_ HB (e_ GE229 (e_ GE230 e0_)) hb; (try clear hb); (try clear hb2); (try clear hk); (try clear hi); have hcz35_0 : w34.cell? ⟨gb230, 0, none⟩ = some (.int .i64 a1_0) := (kc_ BK230.out 0).trans rfl; have hcz35_1 : w34.cell? ⟨gb230, 1, none⟩ = some (.int .i64 a1_1) := (kc_ BK230.out 1).trans rfl; have hcz35_2 : w34.cell? ⟨gb230, 2, none⟩ = some (.int .i64 a1_2) := (kc_ BK230.out 2).trans rfl; have hcz35_3 : w34.cell? ⟨gb230, 3, none⟩ = some (.int .i64 a1_3) := (kc_ BK230.out 3).trans rfl; have hfz35_0 := kf_ BK230.out 0; have hfz35_1 := kf_ BK230.out 1; have hfz35_2 := kf_ BK230.out 2; have hfz35_3 := kf_ BK230.out 3) | (go_at_call 39; (with_reducible refine (neumeref03_Check.calls a1_0 a1_1 a1_2 a1_3 false _ A5.out).mono ?_); rintro e w36 ⟨rfl, hb⟩; replace BK229 := kb_ BK229 hb; replace BK230 := kb_ BK230 hb; replace HB := hb_ HB (e_ GE229 (e_ GE230 e0_)) hb; (try clear hb); (try clear hb2); (try clear hk); (try clear hi)))
   go_ret
   exact ⟨by first | rfl | (simp [errW_none, errW_some] <;> rfl) | (simp [*, errW_none, errW_some] <;> rfl), by repeat (first | (with_reducible first | exact HB.out | apply ba_ | apply pd_ | apply d1_ | refine bs_ ?_ GE229.out | refine bs_ ?_ GE230.out) | exact HB.out)⟩
 ·replace c4 := bf_ c4
  subst c4
  have H1 : (some false) = some r := by rw [if_neg (show ¬ (false = true) by decide)] at H; exact H
  clear H; have H := H1; clear H1
  obtain rfl := Option.some.inj H
  go_enter Try.func31, Try.ntmps31
  go_wp2_with (first | ((with_reducible refine gate_dst (N := 2) rfl ?_); refine box_event ?hg (N := 2) ?hd (cs := #[.int .i64 a0_0, .int .i64 a0_1, .int .i64 a0_2, .int .i64 a0_3]) (t := 45) ?hr ?_; (case hd => rfl); (case hg => rfl); (case hr => first | (go_simp; done) | (go_simp; rfl)); intro gb229 hg w37 hbox hb; have BK229 := sd_ hbox; have GW229 := gw_ HB e0_ hg; have GE229 := GW229; replace HB := hb_ HB e0_ hb; clear hb hbox hg) | ((with_reducible refine gate_dst (N := 3) rfl ?_); refine box_event ?hg (N := 3) ?hd (cs := #[.int .i64 a1_0, .int .i64 a1_1, .int .i64 a1_2, .int .i64 a1_3]) (t := 45) ?hr ?_; (case hd => rfl); (case hg => rfl); (case hr => first | (go_simp; done) | (go_simp; rfl)); intro gb230 hg w38 hbox hb; have BK230 := sd_ hbox; have GW230 := gw_ HB (e_ GE229 e0_) hg; have GE230 := GW230; have NB229_230 := nb_ BK229 hg; have NB230_229 := sy_ NB229_230; replace BK229 := kb_ BK229 hb; replace HB := hb_ HB (e_ GE229 e0_) hb; clear hb hbox hg; have hnb39 := NB229_230.out; have hnc39 := NB230_229.out; have hcz40_0 : w38.cell? ⟨gb229, 0, none⟩ = some (.int .i64 a0_0) := (kc_ BK229.out 0).trans rfl; have hcz40_1 : w38.cell? ⟨gb229, 1, none⟩ = some (.int .i64 a0_1) := (kc_ BK229.out 1).trans rfl; have hcz40_2 : w38.cell? ⟨gb229, 2, none⟩ = some (.int .i64 a0_2) := (kc_ BK229.out 2).trans rfl; have hcz40_3 : w38.cell? ⟨gb229, 3, none⟩ = some (.int .i64 a0_3) := (kc_ BK229.out 3).trans rfl; have hfz40_0 := kf_ BK229.out 0; have hfz40_1 := kf_ BK229.out 1; have hfz40_2 := kf_ BK229.out 2; have hfz40_3 := kf_ BK229.out 3) | ((with_reducible refine gate_callee (f := 39) rfl ?_); refine goesL_ (some 8) rfl rfl Try.func39 (by kernel_rfl) rfl #[.agg #[.int .i64 a0_0, .int .i64 a0_1, .int .i64 a0_2, .int .i64 a0_3]] rfl (by (try simp only [lm_, lq_, lx_]); first | done | rfl | (simp only [ld_, lt_]; rfl)) ?_; (with_reducible refine (neumeref03_Check.calls a0_0 a0_1 a0_2 a0_3 false _ A3.out).mono ?_); rintro e w41 ⟨rfl, hb⟩; refine ⟨_, rfl, ?_⟩; replace BK229 := kb_ BK229 hb; replace BK230 := kb_ BK230 hb; replace HB := hb_ HB (e_ GE229 (e_ GE230 e0_)) hb; (try clear hb); (try clear hb2); (try clear hk); (try clear hi)))
  go_ret
  exact ⟨by first | rfl | (simp [errW_none, errW_some] <;> rfl) | (simp [*, errW_none, errW_some] <;> rfl), by repeat (first | (with_reducible first | exact HB.out | apply ba_ | apply pd_ | apply d1_ | refine bs_ ?_ GE229.out | refine bs_ ?_ GE230.out) | exact HB.out)⟩

end Go.Proofs.Ytchmcljinkemaaa.P
