-- Written by a program of this session (wip/tools/xprint.py, over the kit's print): Lean checks it.
import Derived.Test.YtipfgmflofdedaaPx0
import Derived.Test.YtipfgmflofdedaaPx1
import Derived.Test.YtipfgmflofdedaaPx2
import Derived.Test.YtipfgmflofdedaaPx3
import Derived.Test.YtipfgmflofdedaaPx4
namespace Go.Proofs.Ytipfgmflofdedaa.P
open Go.RowKit Go.Proofs.YtipfgmflofdedaaW.PrintWords Go.Proofs.YtipfgmflofdedaaW.PrintLast Go.Proofs.YtipfgmflofdedaaW.PrintMore
attribute [local go_sem] max2_int min2_int max_two min_two max_three min_three max_four min_four   -- for this text's walks alone
set_option linter.unusedVariables false
set_option linter.unusedSimpArgs false

/-! ### neumelaw29_SolveFits: function 3 -/
mutual
def neumelaw29_SolveFits.j0 : Nat → List Int → List (S36) → Int → Bool → List Int → Int → Int → Bool → Option (Bool)
 | 0, _, _, _, _, _, _, _, _ => none
 | k + 1, x0, x1, x2, x3, x9, x10, x12, x88 => if x88 = true then (some false) else (neumelaw29_SolveFits.l0 k x0 x1 x2 x3 x9 x10 x12 1)
def neumelaw29_SolveFits.l0 : Nat → List Int → List (S36) → Int → Bool → List Int → Int → Int → Int → Option (Bool)
 | 0, _, _, _, _, _, _, _, _ => none
 | k + 1, x0, x1, x2, x3, x9, x10, x12, x13 => if x13 < x12 then (if 0 ≤ x13 then (if x13 < (x9.length : Int) then (if 0 ≤ (wrap64 (x13 - 1)) then (if (wrap64 (x13 - 1)) < (x9.length : Int) then (if (rd x9 x13) ≤ (rd x9 (wrap64 (x13 - 1))) then (some false) else (neumelaw29_SolveFits.l0 k x0 x1 x2 x3 x9 x10 x12 (wrap64 (x13 + 1)))) else (none)) else (none)) else (none)) else (none)) else (if x3 = true then (neumelaw29_SolveFits.j2 k x0 x1 x2 x10 x12 0) else (neumelaw29_SolveFits.j2 k x0 x1 x2 x10 x12 8192))
def neumelaw29_SolveFits.j2 : Nat → List Int → List (S36) → Int → Int → Int → Int → Option (Bool)
 | 0, _, _, _, _, _, _ => none
 | k + 1, x0, x1, x2, x10, x12, x14 => if x10 > x14 then (neumelaw29_SolveFits.j3 k x0 x1 x2 x10 x12 x14 true) else (neumelaw29_SolveFits.j3 k x0 x1 x2 x10 x12 x14 (decide (x10 < (-1024))))
def neumelaw29_SolveFits.j3 : Nat → List Int → List (S36) → Int → Int → Int → Int → Bool → Option (Bool)
 | 0, _, _, _, _, _, _, _ => none
 | k + 1, x0, x1, x2, x10, x12, x14, x111 => if x111 = true then (some false) else ((solve_At.f k x0 x1 (mn (wrap64 (x10 + 1)) 8192)).bind fun bt196 => (if x10 = x14 then ((neumelaw29_heads.f k).bind fun t200 => (some t200)) else (if bt196.2 = 0 then (if (bt196.1.length : Int) = x12 then (if 0 ≤ (wrap64 (x12 - 1)) then (if (wrap64 (x12 - 1)) < (bt196.1.length : Int) then (if (rd bt196.1 (wrap64 (x12 - 1))) > x2 then ((neumelaw29_heads.f k).bind fun t202 => (some t202)) else (some false)) else (none)) else (none)) else (some false)) else (some false))))
end
def neumelaw29_SolveFits.f (k : Nat) (l0 : List Int) (l1 : List (S36)) (a2 : Int) (a3 : Bool) : Option (Bool) := (neumelaw29_few.f l0 l1).bind fun t180 => (if t180 = true then ((solve_Solve.f k l0 l1 a2 a3).bind fun bt182 => (if bt182.2.2 = 0 then (if (bt182.1.length : Int) = (wrap64 ((l0.length : Int) + 1)) then (if 0 < (bt182.1.length : Int) then (if (rd bt182.1 0) = 0 then (if 0 ≤ (wrap64 ((bt182.1.length : Int) - 1)) then (if (wrap64 ((bt182.1.length : Int) - 1)) < (bt182.1.length : Int) then (if (rd bt182.1 (wrap64 ((bt182.1.length : Int) - 1))) > a2 then (neumelaw29_SolveFits.j0 k l0 l1 a2 a3 bt182.1 bt182.2.1 (bt182.1.length : Int) true) else ((neumeref27_Holds.f k l1 bt182.1).bind fun t192 => (if t192 = true then ((solve_Slack.f k l0 l1 a2).bind fun t193 => (neumelaw29_SolveFits.j0 k l0 l1 a2 a3 bt182.1 bt182.2.1 (bt182.1.length : Int) (decide (t193 < 0)))) else (neumelaw29_SolveFits.j0 k l0 l1 a2 a3 bt182.1 bt182.2.1 (bt182.1.length : Int) true)))) else (none)) else (none)) else (neumelaw29_SolveFits.j0 k l0 l1 a2 a3 bt182.1 bt182.2.1 (bt182.1.length : Int) true)) else (none)) else (neumelaw29_SolveFits.j0 k l0 l1 a2 a3 bt182.1 bt182.2.1 (bt182.1.length : Int) true)) else (if (bt182.1.length : Int) = 0 then (if bt182.2.1 = 0 then (if bt182.2.2 = 30 then ((solve_Slack.f k l0 l1 a2).bind fun t187 => (if t187 < 0 then ((neumelaw29_heads.f k).bind fun t188 => (some t188)) else (some false))) else ((neumelaw29_heads.f k).bind fun t189 => (some t189))) else (some false)) else (some false)))) else ((neumelaw29_heads.f k).bind fun t181 => (some t181)))
theorem neumelaw29_SolveFits.mono_l : ∀ k, (∀ y0 y1 y2 y3 y4 y5 y6 y7, LeO (neumelaw29_SolveFits.j0 k y0 y1 y2 y3 y4 y5 y6 y7) (neumelaw29_SolveFits.j0 (k + 1) y0 y1 y2 y3 y4 y5 y6 y7)) ∧ (∀ y0 y1 y2 y3 y4 y5 y6 y7, LeO (neumelaw29_SolveFits.l0 k y0 y1 y2 y3 y4 y5 y6 y7) (neumelaw29_SolveFits.l0 (k + 1) y0 y1 y2 y3 y4 y5 y6 y7)) ∧ (∀ y0 y1 y2 y3 y4 y5, LeO (neumelaw29_SolveFits.j2 k y0 y1 y2 y3 y4 y5) (neumelaw29_SolveFits.j2 (k + 1) y0 y1 y2 y3 y4 y5)) ∧ (∀ y0 y1 y2 y3 y4 y5 y6, LeO (neumelaw29_SolveFits.j3 k y0 y1 y2 y3 y4 y5 y6) (neumelaw29_SolveFits.j3 (k + 1) y0 y1 y2 y3 y4 y5 y6))
 | 0 => ⟨fun _ _ _ _ _ _ _ _ r h => by simp [neumelaw29_SolveFits.j0] at h, fun _ _ _ _ _ _ _ _ r h => by simp [neumelaw29_SolveFits.l0] at h, fun _ _ _ _ _ _ r h => by simp [neumelaw29_SolveFits.j2] at h, fun _ _ _ _ _ _ _ r h => by simp [neumelaw29_SolveFits.j3] at h⟩
 | k + 1 => by
  obtain ⟨ih0, ih1, ih2, ih3⟩ := neumelaw29_SolveFits.mono_l k
  refine ⟨?_, ?_, ?_, ?_⟩
  ·intro y0 y1 y2 y3 y4 y5 y6 y7
   unfold neumelaw29_SolveFits.j0
   repeat' first
   | (with_reducible exact ih0 _ _ _ _ _ _ _ _)
   | (with_reducible exact ih1 _ _ _ _ _ _ _ _)
   | (with_reducible exact ih2 _ _ _ _ _ _)
   | (with_reducible exact ih3 _ _ _ _ _ _ _)
   | (with_reducible exact neumelaw29_heads.mono _)
   | (with_reducible exact neumeref27_Holds.mono _ _ _)
   | (with_reducible exact solve_At.mono _ _ _ _)
   | (with_reducible exact solve_Slack.mono _ _ _ _)
   | (with_reducible exact solve_Solve.mono _ _ _ _ _)
   | (with_reducible exact LeO.refl _)
   | (with_reducible exact LeO.none _)
   | (with_reducible refine LeO.ite ?_ ?_)
   | (with_reducible refine LeO.bind ?_ (fun _ => ?_))
   | exact ih0 _ _ _ _ _ _ _ _
   | exact ih1 _ _ _ _ _ _ _ _
   | exact ih2 _ _ _ _ _ _
   | exact ih3 _ _ _ _ _ _ _
   | exact neumelaw29_heads.mono _
   | exact neumeref27_Holds.mono _ _ _
   | exact solve_At.mono _ _ _ _
   | exact solve_Slack.mono _ _ _ _
   | exact solve_Solve.mono _ _ _ _ _
   | exact LeO.none _
   | refine LeO.ite ?_ ?_
   | refine LeO.bind ?_ (fun _ => ?_)
  ·intro y0 y1 y2 y3 y4 y5 y6 y7
   unfold neumelaw29_SolveFits.l0
   repeat' first
   | (with_reducible exact ih0 _ _ _ _ _ _ _ _)
   | (with_reducible exact ih1 _ _ _ _ _ _ _ _)
   | (with_reducible exact ih2 _ _ _ _ _ _)
   | (with_reducible exact ih3 _ _ _ _ _ _ _)
   | (with_reducible exact neumelaw29_heads.mono _)
   | (with_reducible exact neumeref27_Holds.mono _ _ _)
   | (with_reducible exact solve_At.mono _ _ _ _)
   | (with_reducible exact solve_Slack.mono _ _ _ _)
   | (with_reducible exact solve_Solve.mono _ _ _ _ _)
   | (with_reducible exact LeO.refl _)
   | (with_reducible exact LeO.none _)
   | (with_reducible refine LeO.ite ?_ ?_)
   | (with_reducible refine LeO.bind ?_ (fun _ => ?_))
   | exact ih0 _ _ _ _ _ _ _ _
   | exact ih1 _ _ _ _ _ _ _ _
   | exact ih2 _ _ _ _ _ _
   | exact ih3 _ _ _ _ _ _ _
   | exact neumelaw29_heads.mono _
   | exact neumeref27_Holds.mono _ _ _
   | exact solve_At.mono _ _ _ _
   | exact solve_Slack.mono _ _ _ _
   | exact solve_Solve.mono _ _ _ _ _
   | exact LeO.none _
   | refine LeO.ite ?_ ?_
   | refine LeO.bind ?_ (fun _ => ?_)
  ·intro y0 y1 y2 y3 y4 y5
   unfold neumelaw29_SolveFits.j2
   repeat' first
   | (with_reducible exact ih0 _ _ _ _ _ _ _ _)
   | (with_reducible exact ih1 _ _ _ _ _ _ _ _)
   | (with_reducible exact ih2 _ _ _ _ _ _)
   | (with_reducible exact ih3 _ _ _ _ _ _ _)
   | (with_reducible exact neumelaw29_heads.mono _)
   | (with_reducible exact neumeref27_Holds.mono _ _ _)
   | (with_reducible exact solve_At.mono _ _ _ _)
   | (with_reducible exact solve_Slack.mono _ _ _ _)
   | (with_reducible exact solve_Solve.mono _ _ _ _ _)
   | (with_reducible exact LeO.refl _)
   | (with_reducible exact LeO.none _)
   | (with_reducible refine LeO.ite ?_ ?_)
   | (with_reducible refine LeO.bind ?_ (fun _ => ?_))
   | exact ih0 _ _ _ _ _ _ _ _
   | exact ih1 _ _ _ _ _ _ _ _
   | exact ih2 _ _ _ _ _ _
   | exact ih3 _ _ _ _ _ _ _
   | exact neumelaw29_heads.mono _
   | exact neumeref27_Holds.mono _ _ _
   | exact solve_At.mono _ _ _ _
   | exact solve_Slack.mono _ _ _ _
   | exact solve_Solve.mono _ _ _ _ _
   | exact LeO.none _
   | refine LeO.ite ?_ ?_
   | refine LeO.bind ?_ (fun _ => ?_)
  ·intro y0 y1 y2 y3 y4 y5 y6
   unfold neumelaw29_SolveFits.j3
   repeat' first
   | (with_reducible exact ih0 _ _ _ _ _ _ _ _)
   | (with_reducible exact ih1 _ _ _ _ _ _ _ _)
   | (with_reducible exact ih2 _ _ _ _ _ _)
   | (with_reducible exact ih3 _ _ _ _ _ _ _)
   | (with_reducible exact neumelaw29_heads.mono _)
   | (with_reducible exact neumeref27_Holds.mono _ _ _)
   | (with_reducible exact solve_At.mono _ _ _ _)
   | (with_reducible exact solve_Slack.mono _ _ _ _)
   | (with_reducible exact solve_Solve.mono _ _ _ _ _)
   | (with_reducible exact LeO.refl _)
   | (with_reducible exact LeO.none _)
   | (with_reducible refine LeO.ite ?_ ?_)
   | (with_reducible refine LeO.bind ?_ (fun _ => ?_))
   | exact ih0 _ _ _ _ _ _ _ _
   | exact ih1 _ _ _ _ _ _ _ _
   | exact ih2 _ _ _ _ _ _
   | exact ih3 _ _ _ _ _ _ _
   | exact neumelaw29_heads.mono _
   | exact neumeref27_Holds.mono _ _ _
   | exact solve_At.mono _ _ _ _
   | exact solve_Slack.mono _ _ _ _
   | exact solve_Solve.mono _ _ _ _ _
   | exact LeO.none _
   | refine LeO.ite ?_ ?_
   | refine LeO.bind ?_ (fun _ => ?_)
theorem neumelaw29_SolveFits.mono : ∀ a0 a1 a2 a3 k, LeO (neumelaw29_SolveFits.f k a0 a1 a2 a3) (neumelaw29_SolveFits.f (k + 1) a0 a1 a2 a3) := by
 intro a0 a1 a2 a3 k
 obtain ⟨ih0, ih1, ih2, ih3⟩ := neumelaw29_SolveFits.mono_l k
 unfold neumelaw29_SolveFits.f
 repeat' first
   | (with_reducible exact ih0 _ _ _ _ _ _ _ _)
   | (with_reducible exact ih1 _ _ _ _ _ _ _ _)
   | (with_reducible exact ih2 _ _ _ _ _ _)
   | (with_reducible exact ih3 _ _ _ _ _ _ _)
   | (with_reducible exact neumelaw29_heads.mono _)
   | (with_reducible exact neumeref27_Holds.mono _ _ _)
   | (with_reducible exact solve_At.mono _ _ _ _)
   | (with_reducible exact solve_Slack.mono _ _ _ _)
   | (with_reducible exact solve_Solve.mono _ _ _ _ _)
   | (with_reducible exact LeO.refl _)
   | (with_reducible exact LeO.none _)
   | (with_reducible refine LeO.ite ?_ ?_)
   | (with_reducible refine LeO.bind ?_ (fun _ => ?_))
   | exact ih0 _ _ _ _ _ _ _ _
   | exact ih1 _ _ _ _ _ _ _ _
   | exact ih2 _ _ _ _ _ _
   | exact ih3 _ _ _ _ _ _ _
   | exact neumelaw29_heads.mono _
   | exact neumeref27_Holds.mono _ _ _
   | exact solve_At.mono _ _ _ _
   | exact solve_Slack.mono _ _ _ _
   | exact solve_Solve.mono _ _ _ _ _
   | exact LeO.none _
   | refine LeO.ite ?_ ?_
   | refine LeO.bind ?_ (fun _ => ?_)
set_option maxHeartbeats 8000000 in
set_option maxRecDepth 100000 in
theorem neumelaw29_SolveFits.calls (k : Nat) (A0 : Option Addr) (c0 : Nat) (l0 : List Int) (A1 : Option Addr) (c1 : Nat) (l1 : List (S36)) (a2 : Int) (a3 : Bool) (r : Bool) (w : World) (hr0 : Kd.C (Kd.int .i64) w A0 l0.length l0) (hc0 : l0.length ≤ c0) (hr1 : Kd.C k36 w A1 l1.length l1) (hc1 : l1.length ≤ c1) (hxt : Aside0 (r = true)) (h : neumelaw29_SolveFits.f k l0 l1 a2 a3 = some r) :
  Calls Try.prog 3 #[.slice A0 l0.length c0, .slice A1 l1.length c1, .int .i64 a2, .bool a3] w fun e w' => e = .returned (.bool r) ∧ Below w.heap.size w w' := by
 have HR0 := sd_ hr0
 have HC0 := sd_ hc0
 clear hr0 hc0
 have HR1 := sd_ hr1
 have HC1 := sd_ hc1
 clear hr1 hc1
 have HB := sd_ (Below.refl w.heap.size w)
 have H : ((neumelaw29_few.f l0 l1).bind fun t180 => (if t180 = true then ((solve_Solve.f k l0 l1 a2 a3).bind fun bt182 => (if bt182.2.2 = 0 then (if (bt182.1.length : Int) = (wrap64 ((l0.length : Int) + 1)) then (if 0 < (bt182.1.length : Int) then (if (rd bt182.1 0) = 0 then (if 0 ≤ (wrap64 ((bt182.1.length : Int) - 1)) then (if (wrap64 ((bt182.1.length : Int) - 1)) < (bt182.1.length : Int) then (if (rd bt182.1 (wrap64 ((bt182.1.length : Int) - 1))) > a2 then (neumelaw29_SolveFits.j0 k l0 l1 a2 a3 bt182.1 bt182.2.1 (bt182.1.length : Int) true) else ((neumeref27_Holds.f k l1 bt182.1).bind fun t192 => (if t192 = true then ((solve_Slack.f k l0 l1 a2).bind fun t193 => (neumelaw29_SolveFits.j0 k l0 l1 a2 a3 bt182.1 bt182.2.1 (bt182.1.length : Int) (decide (t193 < 0)))) else (neumelaw29_SolveFits.j0 k l0 l1 a2 a3 bt182.1 bt182.2.1 (bt182.1.length : Int) true)))) else (none)) else (none)) else (neumelaw29_SolveFits.j0 k l0 l1 a2 a3 bt182.1 bt182.2.1 (bt182.1.length : Int) true)) else (none)) else (neumelaw29_SolveFits.j0 k l0 l1 a2 a3 bt182.1 bt182.2.1 (bt182.1.length : Int) true)) else (if (bt182.1.length : Int) = 0 then (if bt182.2.1 = 0 then (if bt182.2.2 = 30 then ((solve_Slack.f k l0 l1 a2).bind fun t187 => (if t187 < 0 then ((neumelaw29_heads.f k).bind fun t188 => (some t188)) else (some false))) else ((neumelaw29_heads.f k).bind fun t189 => (some t189))) else (some false)) else (some false)))) else ((neumelaw29_heads.f k).bind fun t181 => (some t181)))) = some r := h
 clear h
 replace H := ob_ H
 obtain ⟨t180, A50, H⟩ := H
 replace H : (if t180 = true then ((solve_Solve.f k l0 l1 a2 a3).bind fun bt182 => (if bt182.2.2 = 0 then (if (bt182.1.length : Int) = (wrap64 ((l0.length : Int) + 1)) then (if 0 < (bt182.1.length : Int) then (if (rd bt182.1 0) = 0 then (if 0 ≤ (wrap64 ((bt182.1.length : Int) - 1)) then (if (wrap64 ((bt182.1.length : Int) - 1)) < (bt182.1.length : Int) then (if (rd bt182.1 (wrap64 ((bt182.1.length : Int) - 1))) > a2 then (neumelaw29_SolveFits.j0 k l0 l1 a2 a3 bt182.1 bt182.2.1 (bt182.1.length : Int) true) else ((neumeref27_Holds.f k l1 bt182.1).bind fun t192 => (if t192 = true then ((solve_Slack.f k l0 l1 a2).bind fun t193 => (neumelaw29_SolveFits.j0 k l0 l1 a2 a3 bt182.1 bt182.2.1 (bt182.1.length : Int) (decide (t193 < 0)))) else (neumelaw29_SolveFits.j0 k l0 l1 a2 a3 bt182.1 bt182.2.1 (bt182.1.length : Int) true)))) else (none)) else (none)) else (neumelaw29_SolveFits.j0 k l0 l1 a2 a3 bt182.1 bt182.2.1 (bt182.1.length : Int) true)) else (none)) else (neumelaw29_SolveFits.j0 k l0 l1 a2 a3 bt182.1 bt182.2.1 (bt182.1.length : Int) true)) else (if (bt182.1.length : Int) = 0 then (if bt182.2.1 = 0 then (if bt182.2.2 = 30 then ((solve_Slack.f k l0 l1 a2).bind fun t187 => (if t187 < 0 then ((neumelaw29_heads.f k).bind fun t188 => (some t188)) else (some false))) else ((neumelaw29_heads.f k).bind fun t189 => (some t189))) else (some false)) else (some false)))) else ((neumelaw29_heads.f k).bind fun t181 => (some t181))) = some r := H
 have A5 := sd_ A50
 clear A50
 by_cases c6 : t180 = true
 ·subst c6
  have H1 : ((solve_Solve.f k l0 l1 a2 a3).bind fun bt182 => (if bt182.2.2 = 0 then (if (bt182.1.length : Int) = (wrap64 ((l0.length : Int) + 1)) then (if 0 < (bt182.1.length : Int) then (if (rd bt182.1 0) = 0 then (if 0 ≤ (wrap64 ((bt182.1.length : Int) - 1)) then (if (wrap64 ((bt182.1.length : Int) - 1)) < (bt182.1.length : Int) then (if (rd bt182.1 (wrap64 ((bt182.1.length : Int) - 1))) > a2 then (neumelaw29_SolveFits.j0 k l0 l1 a2 a3 bt182.1 bt182.2.1 (bt182.1.length : Int) true) else ((neumeref27_Holds.f k l1 bt182.1).bind fun t192 => (if t192 = true then ((solve_Slack.f k l0 l1 a2).bind fun t193 => (neumelaw29_SolveFits.j0 k l0 l1 a2 a3 bt182.1 bt182.2.1 (bt182.1.length : Int) (decide (t193 < 0)))) else (neumelaw29_SolveFits.j0 k l0 l1 a2 a3 bt182.1 bt182.2.1 (bt182.1.length : Int) true)))) else (none)) else (none)) else (neumelaw29_SolveFits.j0 k l0 l1 a2 a3 bt182.1 bt182.2.1 (bt182.1.length : Int) true)) else (none)) else (neumelaw29_SolveFits.j0 k l0 l1 a2 a3 bt182.1 bt182.2.1 (bt182.1.length : Int) true)) else (if (bt182.1.length : Int) = 0 then (if bt182.2.1 = 0 then (if bt182.2.2 = 30 then ((solve_Slack.f k l0 l1 a2).bind fun t187 => (if t187 < 0 then ((neumelaw29_heads.f k).bind fun t188 => (some t188)) else (some false))) else ((neumelaw29_heads.f k).bind fun t189 => (some t189))) else (some false)) else (some false)))) = some r := by rw [if_pos rfl] at H; exact H
  clear H; have H := H1; clear H1
  replace H := ob_ H
  obtain ⟨⟨t182, t183, t184⟩, A70, H⟩ := H
  replace H : (if t184 = 0 then (if (t182.length : Int) = (wrap64 ((l0.length : Int) + 1)) then (if 0 < (t182.length : Int) then (if (rd t182 0) = 0 then (if 0 ≤ (wrap64 ((t182.length : Int) - 1)) then (if (wrap64 ((t182.length : Int) - 1)) < (t182.length : Int) then (if (rd t182 (wrap64 ((t182.length : Int) - 1))) > a2 then (neumelaw29_SolveFits.j0 k l0 l1 a2 a3 t182 t183 (t182.length : Int) true) else ((neumeref27_Holds.f k l1 t182).bind fun t192 => (if t192 = true then ((solve_Slack.f k l0 l1 a2).bind fun t193 => (neumelaw29_SolveFits.j0 k l0 l1 a2 a3 t182 t183 (t182.length : Int) (decide (t193 < 0)))) else (neumelaw29_SolveFits.j0 k l0 l1 a2 a3 t182 t183 (t182.length : Int) true)))) else (none)) else (none)) else (neumelaw29_SolveFits.j0 k l0 l1 a2 a3 t182 t183 (t182.length : Int) true)) else (none)) else (neumelaw29_SolveFits.j0 k l0 l1 a2 a3 t182 t183 (t182.length : Int) true)) else (if (t182.length : Int) = 0 then (if t183 = 0 then (if t184 = 30 then ((solve_Slack.f k l0 l1 a2).bind fun t187 => (if t187 < 0 then ((neumelaw29_heads.f k).bind fun t188 => (some t188)) else (some false))) else ((neumelaw29_heads.f k).bind fun t189 => (some t189))) else (some false)) else (some false))) = some r := H
  have A7 := sd_ A70
  clear A70
  by_cases c8 : t184 = 0
  ·rw [if_pos c8] at H
   have c8b0 : (t184 == 0) = true := beq_iff_eq.mpr c8
   have c8b1 : (t184 != 0) = false := bne_eq_false_iff_eq.mpr c8
   clear c8
   have HC9 := sd_ H
   clear H
   go_enter Try.func3, Try.ntmps3
   go_upto_region 7 with (first | (go_at_call 5; (with_reducible refine (neumelaw29_few.calls _ _ l0 _ _ l1 true _ ?side1 ?side2 ?side3 ?side4 A5.out).mono ?_); (case side1 => repeat (first | exact HR0.out | (with_reducible refine Kd.C_alloc ?_ _) | (with_reducible refine Kd.C_drewN ?_ _) | (with_reducible refine Kd.C_drew ?_))); (case side2 => exact HC0.out); (case side3 => repeat (first | exact HR1.out | (with_reducible refine Kd.C_alloc ?_ _) | (with_reducible refine Kd.C_drewN ?_ _) | (with_reducible refine Kd.C_drew ?_))); (case side4 => exact HC1.out); rintro e w' ⟨rfl, ⟨nd, rfl⟩⟩; (try first | exact ⟨rfl, _, World.drewN_drewN _ _ _⟩ | exact ⟨rfl, _, Eq.trans (World.drewN_drewN _ _ _) (congrArg (World.drewN _) (Nat.add_assoc _ _ _))⟩)) | (go_at_call 7; (with_reducible refine (solve_Solve.calls k _ _ l0 _ _ l1 a2 a3 t182 t183 t184 _ ?side1 ?side2 ?side3 ?side4 A7.out).mono ?_); (case side1 => repeat (first | exact HR0.out | (with_reducible refine Kd.C_alloc ?_ _) | (with_reducible refine Kd.C_drewN ?_ _) | (with_reducible refine Kd.C_drew ?_))); (case side2 => exact HC0.out); (case side3 => repeat (first | exact HR1.out | (with_reducible refine Kd.C_alloc ?_ _) | (with_reducible refine Kd.C_drewN ?_ _) | (with_reducible refine Kd.C_drew ?_))); (case side4 => exact HC1.out); rintro e w10 ⟨v185, rfl, ho0, hb⟩; have n0_ := sd_ (Kd.R_lower ho0 (bz_ (by repeat first | exact HB.out | apply ba_ | apply pd_ | apply d1_))); have n1_ := sd_ (bt_ (by repeat first | exact HB.out | apply ba_ | apply pd_ | apply d1_) hb); clear HB; have HO186 := n0_; have HB := n1_; clear n0_ n1_; (try clear hb); (try clear hb2); (try clear hk); (try clear hi); (try clear ho0); obtain ⟨Ao11, co11, eo11⟩ := Kd.R_slice HO186.out; subst eo11))
   repeat (go_quiet (first | (go_at_call 5; (with_reducible refine (neumelaw29_few.calls _ _ l0 _ _ l1 true _ ?side1 ?side2 ?side3 ?side4 A5.out).mono ?_); (case side1 => repeat (first | exact HR0.out | (with_reducible refine Kd.C_alloc ?_ _) | (with_reducible refine Kd.C_drewN ?_ _) | (with_reducible refine Kd.C_drew ?_))); (case side2 => exact HC0.out); (case side3 => repeat (first | exact HR1.out | (with_reducible refine Kd.C_alloc ?_ _) | (with_reducible refine Kd.C_drewN ?_ _) | (with_reducible refine Kd.C_drew ?_))); (case side4 => exact HC1.out); rintro e w' ⟨rfl, ⟨nd, rfl⟩⟩; (try first | exact ⟨rfl, _, World.drewN_drewN _ _ _⟩ | exact ⟨rfl, _, Eq.trans (World.drewN_drewN _ _ _) (congrArg (World.drewN _) (Nat.add_assoc _ _ _))⟩)) | (go_at_call 7; (with_reducible refine (solve_Solve.calls k _ _ l0 _ _ l1 a2 a3 t182 t183 t184 _ ?side1 ?side2 ?side3 ?side4 A7.out).mono ?_); (case side1 => repeat (first | exact HR0.out | (with_reducible refine Kd.C_alloc ?_ _) | (with_reducible refine Kd.C_drewN ?_ _) | (with_reducible refine Kd.C_drew ?_))); (case side2 => exact HC0.out); (case side3 => repeat (first | exact HR1.out | (with_reducible refine Kd.C_alloc ?_ _) | (with_reducible refine Kd.C_drewN ?_ _) | (with_reducible refine Kd.C_drew ?_))); (case side4 => exact HC1.out); rintro e w10 ⟨v185, rfl, ho0, hb⟩; have n0_ := sd_ (Kd.R_lower ho0 (bz_ (by repeat first | exact HB.out | apply ba_ | apply pd_ | apply d1_))); have n1_ := sd_ (bt_ (by repeat first | exact HB.out | apply ba_ | apply pd_ | apply d1_) hb); clear HB; have HO186 := n0_; have HB := n1_; clear n0_ n1_; (try clear hb); (try clear hb2); (try clear hk); (try clear hi); (try clear ho0); obtain ⟨Ao11, co11, eo11⟩ := Kd.R_slice HO186.out; subst eo11)); go_upto_region 7 with (first | (go_at_call 5; (with_reducible refine (neumelaw29_few.calls _ _ l0 _ _ l1 true _ ?side1 ?side2 ?side3 ?side4 A5.out).mono ?_); (case side1 => repeat (first | exact HR0.out | (with_reducible refine Kd.C_alloc ?_ _) | (with_reducible refine Kd.C_drewN ?_ _) | (with_reducible refine Kd.C_drew ?_))); (case side2 => exact HC0.out); (case side3 => repeat (first | exact HR1.out | (with_reducible refine Kd.C_alloc ?_ _) | (with_reducible refine Kd.C_drewN ?_ _) | (with_reducible refine Kd.C_drew ?_))); (case side4 => exact HC1.out); rintro e w' ⟨rfl, ⟨nd, rfl⟩⟩; (try first | exact ⟨rfl, _, World.drewN_drewN _ _ _⟩ | exact ⟨rfl, _, Eq.trans (World.drewN_drewN _ _ _) (congrArg (World.drewN _) (Nat.add_assoc _ _ _))⟩)) | (go_at_call 7; (with_reducible refine (solve_Solve.calls k _ _ l0 _ _ l1 a2 a3 t182 t183 t184 _ ?side1 ?side2 ?side3 ?side4 A7.out).mono ?_); (case side1 => repeat (first | exact HR0.out | (with_reducible refine Kd.C_alloc ?_ _) | (with_reducible refine Kd.C_drewN ?_ _) | (with_reducible refine Kd.C_drew ?_))); (case side2 => exact HC0.out); (case side3 => repeat (first | exact HR1.out | (with_reducible refine Kd.C_alloc ?_ _) | (with_reducible refine Kd.C_drewN ?_ _) | (with_reducible refine Kd.C_drew ?_))); (case side4 => exact HC1.out); rintro e w10 ⟨v185, rfl, ho0, hb⟩; have n0_ := sd_ (Kd.R_lower ho0 (bz_ (by repeat first | exact HB.out | apply ba_ | apply pd_ | apply d1_))); have n1_ := sd_ (bt_ (by repeat first | exact HB.out | apply ba_ | apply pd_ | apply d1_) hb); clear HB; have HO186 := n0_; have HB := n1_; clear n0_ n1_; (try clear hb); (try clear hb2); (try clear hk); (try clear hi); (try clear ho0); obtain ⟨Ao11, co11, eo11⟩ := Kd.R_slice HO186.out; subst eo11)))
   (try simp only [Act.put, ls_, lz_, lc_])
   go_cut [88] (fun v88 wc => ∃ (kq : Nat) (x88_8 : Bool), v88 = .bool x88_8 ∧ Aside0 (neumelaw29_SolveFits.j0 kq l0 l1 a2 a3 t182 t183 (t182.length : Int) x88_8 = some r) ∧ Aside0 (kq ≤ k) ∧ Aside0 (Kd.R (Kd.int .i64) 3 wc w.heap.size (fun _ => True) (.slice Ao11 t182.length co11) t182) ∧ Aside0 (Below w.heap.size w wc))
   case first =>
    have H := HC9.out
    clear HC9
    by_cases c12 : (t182.length : Int) = (wrap64 ((l0.length : Int) + 1))
    ·rw [if_pos c12] at H
     have c12b0 : ((t182.length : Int) == (wrap64 ((l0.length : Int) + 1))) = true := beq_iff_eq.mpr c12
     have c12b1 : ((t182.length : Int) != (wrap64 ((l0.length : Int) + 1))) = false := bne_eq_false_iff_eq.mpr c12
     clear c12
     (first | rw [c12b0] | (simp only [i64_w, i32_w]; rw [c12b0]) | skip)
     by_cases c13 : 0 < (t182.length : Int)
     ·rw [if_pos c13] at H
      have c13b0 : decide (0 < (t182.length : Int)) = true := dt_ c13
      have c13b1 : decide (0 < t182.length) = true := dt_ (by omega)
      clear c13
      by_cases c14 : (rd t182 0) = 0
      ·rw [if_pos c14] at H
       have c14b0 : ((rd t182 0) == 0) = true := beq_iff_eq.mpr c14
       have c14b1 : ((rd t182 0) != 0) = false := bne_eq_false_iff_eq.mpr c14
       clear c14
       obtain ⟨ji15, hji15⟩ : ∃ j_ : Int, (wrap64 ((t182.length : Int) - 1)) = j_ := ⟨_, rfl⟩
       replace H : (if 0 ≤ (ji15) then (if (ji15) < (t182.length : Int) then (if (rd t182 (ji15)) > a2 then (neumelaw29_SolveFits.j0 k l0 l1 a2 a3 t182 t183 (t182.length : Int) true) else ((neumeref27_Holds.f k l1 t182).bind fun t192 => (if t192 = true then ((solve_Slack.f k l0 l1 a2).bind fun t193 => (neumelaw29_SolveFits.j0 k l0 l1 a2 a3 t182 t183 (t182.length : Int) (decide (t193 < 0)))) else (neumelaw29_SolveFits.j0 k l0 l1 a2 a3 t182 t183 (t182.length : Int) true)))) else (none)) else (none)) = some r := by first | (rw [hji15] at H; exact H) | (simp only [hji15] at H ⊢; exact H)
       have hji15w : (IntKind.i64.wrap ((t182.length : Int) - 1)) = ji15 := (i64_w _).trans hji15
       by_cases c16 : 0 ≤ (ji15)
       ·rw [if_pos c16] at H
        have c16b0 : decide (0 ≤ (ji15)) = true := dt_ c16
        clear c16
        by_cases c17 : (ji15) < (t182.length : Int)
        ·rw [if_pos c17] at H
         have c17b0 : decide ((ji15) < (t182.length : Int)) = true := dt_ c17
         clear c17
         by_cases c18 : (rd t182 (ji15)) > a2
         ·rw [if_pos c18] at H
          have c18b0 : decide (a2 < (rd t182 (ji15))) = true := dt_ c18
          clear c18
          have H' := sd_ H
          clear H
          have p190 : 0 ≤ (0 : Int) := (by omega)
          have q190 : 0 < (t182.length : Int) := od_ (by first | (with_reducible assumption) | assumption)
          obtain ⟨ad190, e190, hx190_0⟩ := Kd.at_int (Kd.R_reads' HO186.out).2.2 0 p190 q190
          cases e190
          have qi190 : (0 < t182.length) = True := eq_true (by omega)
          (try rw [show ((0 : Int)).toNat = 0 from rfl] at hx190_0)
          (try rw [Addr.add_zero'] at hx190_0)
          replace p190 := eq_true p190
          replace q190 := eq_true q190
          have p191 : 0 ≤ ((ji15) : Int) := od_ (by first | (with_reducible assumption) | assumption)
          have q191 : (ji15) < (t182.length : Int) := od_ (by first | (with_reducible assumption) | assumption)
          obtain ⟨ad191, e191, hx191_0⟩ := Kd.at_int (Kd.R_reads' HO186.out).2.2 (ji15) p191 q191
          obtain rfl : ad190 = ad191 := (by injection e191)
          replace p191 := eq_true p191
          replace q191 := eq_true q191
          go_wp2
          repeat (go_quiet (fail); try go_wp2)
          go_meet
          case rel => exact ⟨_, (true), (by first | rfl | (simp; done) | (simp [*]; done)), H', ⟨by first | omega | exact Nat.le_refl _⟩, ⟨by (with_reducible repeat (first | apply Kd.R_alloc | apply Kd.R_drewN | apply Kd.R_drew)); exact HO186.out⟩, ⟨by repeat first | exact HB.out | apply ba_ | apply pd_ | apply d1_⟩⟩
         ·rw [if_neg c18] at H
          have c18b0 : decide (a2 < (rd t182 (ji15))) = false := df_ c18
          clear c18
          replace H := ob_ H
          obtain ⟨t192, A190, H⟩ := H
          replace H : (if t192 = true then ((solve_Slack.f k l0 l1 a2).bind fun t193 => (neumelaw29_SolveFits.j0 k l0 l1 a2 a3 t182 t183 (t182.length : Int) (decide (t193 < 0)))) else (neumelaw29_SolveFits.j0 k l0 l1 a2 a3 t182 t183 (t182.length : Int) true)) = some r := H
          have A19 := sd_ A190
          clear A190
          by_cases c20 : t192 = true
          ·subst c20
           have H1 : ((solve_Slack.f k l0 l1 a2).bind fun t193 => (neumelaw29_SolveFits.j0 k l0 l1 a2 a3 t182 t183 (t182.length : Int) (decide (t193 < 0)))) = some r := by rw [if_pos rfl] at H; exact H
           clear H; have H := H1; clear H1
           replace H := ob_ H
           obtain ⟨t193, A210, H⟩ := H
           replace H : (neumelaw29_SolveFits.j0 k l0 l1 a2 a3 t182 t183 (t182.length : Int) (decide (t193 < 0))) = some r := H
           have A21 := sd_ A210
           clear A210
           have H' := sd_ H
           clear H
           have p190 : 0 ≤ (0 : Int) := (by omega)
           have q190 : 0 < (t182.length : Int) := od_ (by first | (with_reducible assumption) | assumption)
           obtain ⟨ad190, e190, hx190_0⟩ := Kd.at_int (Kd.R_reads' HO186.out).2.2 0 p190 q190
           cases e190
           have qi190 : (0 < t182.length) = True := eq_true (by omega)
           (try rw [show ((0 : Int)).toNat = 0 from rfl] at hx190_0)
           (try rw [Addr.add_zero'] at hx190_0)
           replace p190 := eq_true p190
           replace q190 := eq_true q190
           have p191 : 0 ≤ ((ji15) : Int) := od_ (by first | (with_reducible assumption) | assumption)
           have q191 : (ji15) < (t182.length : Int) := od_ (by first | (with_reducible assumption) | assumption)
           obtain ⟨ad191, e191, hx191_0⟩ := Kd.at_int (Kd.R_reads' HO186.out).2.2 (ji15) p191 q191
           obtain rfl : ad190 = ad191 := (by injection e191)
           replace p191 := eq_true p191
           replace q191 := eq_true q191
           go_wp2_with (first | (go_at_call 9; (with_reducible refine (neumeref27_Holds.calls k _ _ l1 _ _ t182 true _ ?side1 ?side2 ?side3 ?side4 A19.out).mono ?_); (case side1 => repeat (first | exact (Kd.C_below HR1.out HB.out) | (with_reducible refine Kd.C_alloc ?_ _) | (with_reducible refine Kd.C_drewN ?_ _) | (with_reducible refine Kd.C_drew ?_))); (case side2 => exact HC1.out); (case side3 => repeat (first | exact (Kd.R_reads' HO186.out).2.2 | (with_reducible refine Kd.C_alloc ?_ _) | (with_reducible refine Kd.C_drewN ?_ _) | (with_reducible refine Kd.C_drew ?_))); (case side4 => exact (Kd.R_reads' HO186.out).2.1); rintro e w22 ⟨rfl, hb⟩; have n0_ := sd_ (Kd.R_below (by (with_reducible repeat (first | apply Kd.R_alloc | apply Kd.R_drewN | apply Kd.R_drew)); exact HO186.out) hb); have n1_ := sd_ (bt_ (by repeat first | exact HB.out | apply ba_ | apply pd_ | apply d1_) hb); clear HO186; clear HB; have HO186 := n0_; have HB := n1_; clear n0_ n1_; (try clear hb); (try clear hb2); (try clear hk); (try clear hi)) | (go_at_call 8; (with_reducible refine (solve_Slack.calls k _ _ l0 _ _ l1 a2 t193 _ ?side1 ?side2 ?side3 ?side4 A21.out).mono ?_); (case side1 => repeat (first | exact (Kd.C_below HR0.out HB.out) | (with_reducible refine Kd.C_alloc ?_ _) | (with_reducible refine Kd.C_drewN ?_ _) | (with_reducible refine Kd.C_drew ?_))); (case side2 => exact HC0.out); (case side3 => repeat (first | exact (Kd.C_below HR1.out HB.out) | (with_reducible refine Kd.C_alloc ?_ _) | (with_reducible refine Kd.C_drewN ?_ _) | (with_reducible refine Kd.C_drew ?_))); (case side4 => exact HC1.out); rintro e w23 ⟨rfl, hb⟩; have n0_ := sd_ (Kd.R_below (by (with_reducible repeat (first | apply Kd.R_alloc | apply Kd.R_drewN | apply Kd.R_drew)); exact HO186.out) hb); have n1_ := sd_ (bt_ (by repeat first | exact HB.out | apply ba_ | apply pd_ | apply d1_) hb); clear HO186; clear HB; have HO186 := n0_; have HB := n1_; clear n0_ n1_; (try clear hb); (try clear hb2); (try clear hk); (try clear hi)))
           repeat (go_quiet (first | (go_at_call 9; (with_reducible refine (neumeref27_Holds.calls k _ _ l1 _ _ t182 true _ ?side1 ?side2 ?side3 ?side4 A19.out).mono ?_); (case side1 => repeat (first | exact (Kd.C_below HR1.out HB.out) | (with_reducible refine Kd.C_alloc ?_ _) | (with_reducible refine Kd.C_drewN ?_ _) | (with_reducible refine Kd.C_drew ?_))); (case side2 => exact HC1.out); (case side3 => repeat (first | exact (Kd.R_reads' HO186.out).2.2 | (with_reducible refine Kd.C_alloc ?_ _) | (with_reducible refine Kd.C_drewN ?_ _) | (with_reducible refine Kd.C_drew ?_))); (case side4 => exact (Kd.R_reads' HO186.out).2.1); rintro e w22 ⟨rfl, hb⟩; have n0_ := sd_ (Kd.R_below (by (with_reducible repeat (first | apply Kd.R_alloc | apply Kd.R_drewN | apply Kd.R_drew)); exact HO186.out) hb); have n1_ := sd_ (bt_ (by repeat first | exact HB.out | apply ba_ | apply pd_ | apply d1_) hb); clear HO186; clear HB; have HO186 := n0_; have HB := n1_; clear n0_ n1_; (try clear hb); (try clear hb2); (try clear hk); (try clear hi)) | (go_at_call 8; (with_reducible refine (solve_Slack.calls k _ _ l0 _ _ l1 a2 t193 _ ?side1 ?side2 ?side3 ?side4 A21.out).mono ?_); (case side1 => repeat (first | exact (Kd.C_below HR0.out HB.out) | (with_reducible refine Kd.C_alloc ?_ _) | (with_reducible refine Kd.C_drewN ?_ _) | (with_reducible refine Kd.C_drew ?_))); (case side2 => exact HC0.out); (case side3 => repeat (first | exact (Kd.C_below HR1.out HB.out) | (with_reducible refine Kd.C_alloc ?_ _) | (with_reducible refine Kd.C_drewN ?_ _) | (with_reducible refine Kd.C_drew ?_))); (case side4 => exact HC1.out); rintro e w23 ⟨rfl, hb⟩; have n0_ := sd_ (Kd.R_below (by (with_reducible repeat (first | apply Kd.R_alloc | apply Kd.R_drewN | apply Kd.R_drew)); exact HO186.out) hb); have n1_ := sd_ (bt_ (by repeat first | exact HB.out | apply ba_ | apply pd_ | apply d1_) hb); clear HO186; clear HB; have HO186 := n0_; have HB := n1_; clear n0_ n1_; (try clear hb); (try clear hb2); (try clear hk); (try clear hi))); try go_wp2_with (first | (go_at_call 9; (with_reducible refine (neumeref27_Holds.calls k _ _ l1 _ _ t182 true _ ?side1 ?side2 ?side3 ?side4 A19.out).mono ?_); (case side1 => repeat (first | exact (Kd.C_below HR1.out HB.out) | (with_reducible refine Kd.C_alloc ?_ _) | (with_reducible refine Kd.C_drewN ?_ _) | (with_reducible refine Kd.C_drew ?_))); (case side2 => exact HC1.out); (case side3 => repeat (first | exact (Kd.R_reads' HO186.out).2.2 | (with_reducible refine Kd.C_alloc ?_ _) | (with_reducible refine Kd.C_drewN ?_ _) | (with_reducible refine Kd.C_drew ?_))); (case side4 => exact (Kd.R_reads' HO186.out).2.1); rintro e w22 ⟨rfl, hb⟩; have n0_ := sd_ (Kd.R_below (by (with_reducible repeat (first | apply Kd.R_alloc | apply Kd.R_drewN | apply Kd.R_drew)); exact HO186.out) hb); have n1_ := sd_ (bt_ (by repeat first | exact HB.out | apply ba_ | apply pd_ | apply d1_) hb); clear HO186; clear HB; have HO186 := n0_; have HB := n1_; clear n0_ n1_; (try clear hb); (try clear hb2); (try clear hk); (try clear hi)) | (go_at_call 8; (with_reducible refine (solve_Slack.calls k _ _ l0 _ _ l1 a2 t193 _ ?side1 ?side2 ?side3 ?side4 A21.out).mono ?_); (case side1 => repeat (first | exact (Kd.C_below HR0.out HB.out) | (with_reducible refine Kd.C_alloc ?_ _) | (with_reducible refine Kd.C_drewN ?_ _) | (with_reducible refine Kd.C_drew ?_))); (case side2 => exact HC0.out); (case side3 => repeat (first | exact (Kd.C_below HR1.out HB.out) | (with_reducible refine Kd.C_alloc ?_ _) | (with_reducible refine Kd.C_drewN ?_ _) | (with_reducible refine Kd.C_drew ?_))); (case side4 => exact HC1.out); rintro e w23 ⟨rfl, hb⟩; have n0_ := sd_ (Kd.R_below (by (with_reducible repeat (first | apply Kd.R_alloc | apply Kd.R_drewN | apply Kd.R_drew)); exact HO186.out) hb); have n1_ := sd_ (bt_ (by repeat first | exact HB.out | apply ba_ | apply pd_ | apply d1_) hb); clear HO186; clear HB; have HO186 := n0_; have HB := n1_; clear n0_ n1_; (try clear hb); (try clear hb2); (try clear hk); (try clear hi))))
           go_meet
           case rel => exact ⟨_, (decide (t193 < 0)), (by first | rfl | (simp; done) | (simp [*]; done)), H', ⟨by first | omega | exact Nat.le_refl _⟩, ⟨by (with_reducible repeat (first | apply Kd.R_alloc | apply Kd.R_drewN | apply Kd.R_drew)); exact HO186.out⟩, ⟨by repeat first | exact HB.out | apply ba_ | apply pd_ | apply d1_⟩⟩
          ·replace c20 := bf_ c20
           subst c20
           have H1 : (neumelaw29_SolveFits.j0 k l0 l1 a2 a3 t182 t183 (t182.length : Int) true) = some r := by rw [if_neg (show ¬ (false = true) by decide)] at H; exact H
           clear H; have H := H1; clear H1
           have H' := sd_ H
           clear H
           have p190 : 0 ≤ (0 : Int) := (by omega)
           have q190 : 0 < (t182.length : Int) := od_ (by first | (with_reducible assumption) | assumption)
           obtain ⟨ad190, e190, hx190_0⟩ := Kd.at_int (Kd.R_reads' HO186.out).2.2 0 p190 q190
           cases e190
           have qi190 : (0 < t182.length) = True := eq_true (by omega)
           (try rw [show ((0 : Int)).toNat = 0 from rfl] at hx190_0)
           (try rw [Addr.add_zero'] at hx190_0)
           replace p190 := eq_true p190
           replace q190 := eq_true q190
           have p191 : 0 ≤ ((ji15) : Int) := od_ (by first | (with_reducible assumption) | assumption)
           have q191 : (ji15) < (t182.length : Int) := od_ (by first | (with_reducible assumption) | assumption)
           obtain ⟨ad191, e191, hx191_0⟩ := Kd.at_int (Kd.R_reads' HO186.out).2.2 (ji15) p191 q191
           obtain rfl : ad190 = ad191 := (by injection e191)
           replace p191 := eq_true p191
           replace q191 := eq_true q191
           go_wp2_with (first | (go_at_call 9; (with_reducible refine (neumeref27_Holds.calls k _ _ l1 _ _ t182 false _ ?side1 ?side2 ?side3 ?side4 A19.out).mono ?_); (case side1 => repeat (first | exact (Kd.C_below HR1.out HB.out) | (with_reducible refine Kd.C_alloc ?_ _) | (with_reducible refine Kd.C_drewN ?_ _) | (with_reducible refine Kd.C_drew ?_))); (case side2 => exact HC1.out); (case side3 => repeat (first | exact (Kd.R_reads' HO186.out).2.2 | (with_reducible refine Kd.C_alloc ?_ _) | (with_reducible refine Kd.C_drewN ?_ _) | (with_reducible refine Kd.C_drew ?_))); (case side4 => exact (Kd.R_reads' HO186.out).2.1); rintro e w24 ⟨rfl, hb⟩; have n0_ := sd_ (Kd.R_below (by (with_reducible repeat (first | apply Kd.R_alloc | apply Kd.R_drewN | apply Kd.R_drew)); exact HO186.out) hb); have n1_ := sd_ (bt_ (by repeat first | exact HB.out | apply ba_ | apply pd_ | apply d1_) hb); clear HO186; clear HB; have HO186 := n0_; have HB := n1_; clear n0_ n1_; (try clear hb); (try clear hb2); (try clear hk); (try clear hi)))
           repeat (go_quiet (first | (go_at_call 9; (with_reducible refine (neumeref27_Holds.calls k _ _ l1 _ _ t182 false _ ?side1 ?side2 ?side3 ?side4 A19.out).mono ?_); (case side1 => repeat (first | exact (Kd.C_below HR1.out HB.out) | (with_reducible refine Kd.C_alloc ?_ _) | (with_reducible refine Kd.C_drewN ?_ _) | (with_reducible refine Kd.C_drew ?_))); (case side2 => exact HC1.out); (case side3 => repeat (first | exact (Kd.R_reads' HO186.out).2.2 | (with_reducible refine Kd.C_alloc ?_ _) | (with_reducible refine Kd.C_drewN ?_ _) | (with_reducible refine Kd.C_drew ?_))); (case side4 => exact (Kd.R_reads' HO186.out).2.1); rintro e w24 ⟨rfl, hb⟩; have n0_ := sd_ (Kd.R_below (by (with_reducible repeat (first | apply Kd.R_alloc | apply Kd.R_drewN | apply Kd.R_drew)); exact HO186.out) hb); have n1_ := sd_ (bt_ (by repeat first | exact HB.out | apply ba_ | apply pd_ | apply d1_) hb); clear HO186; clear HB; have HO186 := n0_; have HB := n1_; clear n0_ n1_; (try clear hb); (try clear hb2); (try clear hk); (try clear hi))); try go_wp2_with (first | (go_at_call 9; (with_reducible refine (neumeref27_Holds.calls k _ _ l1 _ _ t182 false _ ?side1 ?side2 ?side3 ?side4 A19.out).mono ?_); (case side1 => repeat (first | exact (Kd.C_below HR1.out HB.out) | (with_reducible refine Kd.C_alloc ?_ _) | (with_reducible refine Kd.C_drewN ?_ _) | (with_reducible refine Kd.C_drew ?_))); (case side2 => exact HC1.out); (case side3 => repeat (first | exact (Kd.R_reads' HO186.out).2.2 | (with_reducible refine Kd.C_alloc ?_ _) | (with_reducible refine Kd.C_drewN ?_ _) | (with_reducible refine Kd.C_drew ?_))); (case side4 => exact (Kd.R_reads' HO186.out).2.1); rintro e w24 ⟨rfl, hb⟩; have n0_ := sd_ (Kd.R_below (by (with_reducible repeat (first | apply Kd.R_alloc | apply Kd.R_drewN | apply Kd.R_drew)); exact HO186.out) hb); have n1_ := sd_ (bt_ (by repeat first | exact HB.out | apply ba_ | apply pd_ | apply d1_) hb); clear HO186; clear HB; have HO186 := n0_; have HB := n1_; clear n0_ n1_; (try clear hb); (try clear hb2); (try clear hk); (try clear hi))))
           go_meet
           case rel => exact ⟨_, (true), (by first | rfl | (simp; done) | (simp [*]; done)), H', ⟨by first | omega | exact Nat.le_refl _⟩, ⟨by (with_reducible repeat (first | apply Kd.R_alloc | apply Kd.R_drewN | apply Kd.R_drew)); exact HO186.out⟩, ⟨by repeat first | exact HB.out | apply ba_ | apply pd_ | apply d1_⟩⟩
        ·rw [if_neg c17] at H
         exact absurd H (by simp)
       ·rw [if_neg c16] at H
        exact absurd H (by simp)
      ·rw [if_neg c14] at H
       have c14b0 : ((rd t182 0) == 0) = false := beq_eq_false_iff_ne.mpr c14
       have c14b1 : ((rd t182 0) != 0) = true := bne_iff_ne.mpr c14
       have H' := sd_ H
       clear H
       have p190 : 0 ≤ (0 : Int) := (by omega)
       have q190 : 0 < (t182.length : Int) := od_ (by first | (with_reducible assumption) | assumption)
       obtain ⟨ad190, e190, hx190_0⟩ := Kd.at_int (Kd.R_reads' HO186.out).2.2 0 p190 q190
       cases e190
       have qi190 : (0 < t182.length) = True := eq_true (by omega)
       (try rw [show ((0 : Int)).toNat = 0 from rfl] at hx190_0)
       (try rw [Addr.add_zero'] at hx190_0)
       replace p190 := eq_true p190
       replace q190 := eq_true q190
       go_wp2
       repeat (go_quiet (fail); try go_wp2)
       go_meet
       case rel => exact ⟨_, (true), (by first | rfl | (simp; done) | (simp [*]; done)), H', ⟨by first | omega | exact Nat.le_refl _⟩, ⟨by (with_reducible repeat (first | apply Kd.R_alloc | apply Kd.R_drewN | apply Kd.R_drew)); exact HO186.out⟩, ⟨by repeat first | exact HB.out | apply ba_ | apply pd_ | apply d1_⟩⟩
     ·rw [if_neg c13] at H
      exact absurd H (by simp)
    ·rw [if_neg c12] at H
     have c12b0 : ((t182.length : Int) == (wrap64 ((l0.length : Int) + 1))) = false := beq_eq_false_iff_ne.mpr c12
     have c12b1 : ((t182.length : Int) != (wrap64 ((l0.length : Int) + 1))) = true := bne_iff_ne.mpr c12
     (first | rw [c12b0] | (simp only [i64_w, i32_w]; rw [c12b0]) | skip)
     have H' := sd_ H
     clear H
     go_wp2
     repeat (go_quiet (fail); try go_wp2)
     go_meet
     case rel => exact ⟨_, (true), (by first | rfl | (simp; done) | (simp [*]; done)), H', ⟨by first | omega | exact Nat.le_refl _⟩, ⟨by (with_reducible repeat (first | apply Kd.R_alloc | apply Kd.R_drewN | apply Kd.R_drew)); exact HO186.out⟩, ⟨by repeat first | exact HB.out | apply ba_ | apply pd_ | apply d1_⟩⟩
   case rest =>
    clear HC9
    try clear c1; try clear p1; try clear q1; try clear hx1; try clear qi1; try clear c2; try clear p2; try clear c3; try clear c6; try clear p6; try clear c8; try clear c8b0; try clear c8b1; try clear c12; try clear c12b0; try clear c12b1; try clear c13; try clear c13b0; try clear c13b1; try clear c14; try clear c14b0; try clear c14b1; try clear c16; try clear c16b0; try clear c17; try clear c17b0; try clear c18; try clear c18b0; try clear p19; try clear q19; try clear hx19; try clear qi19; try clear c20; try clear hx190_0; try clear hx191_0; try clear p190; try clear p191; try clear q190; try clear q191
    obtain ⟨kq, x88_8, rfl, HA, HJ8, HO_9, HB⟩ := hcut
    cases kq with
    | zero => exact absurd HA.out (by simp [neumelaw29_SolveFits.j0])
    | succ kj8 =>
     have H := HA.out
     clear HA
     simp only [neumelaw29_SolveFits.j0] at H
     by_cases c25 : x88_8 = true
     ·subst c25
      have H1 : (some false) = some r := by rw [if_pos rfl] at H; exact H
      clear H; have H := H1; clear H1
      exact absurd ((Option.some.inj H).trans hxt.out) (by decide)
     ·replace c25 := bf_ c25
      subst c25
      have H1 : (neumelaw29_SolveFits.l0 kj8 l0 l1 a2 a3 t182 t183 (t182.length : Int) 1) = some r := by rw [if_neg (show ¬ (false = true) by decide)] at H; exact H
      clear H; have H := H1; clear H1
      have H' := sd_ H
      clear H
      go_wp2
      repeat (go_quiet (fail); try go_wp2)
      go_loopg [13] kj8 (fun kq v13 w' => ∃ (x13_2 : Int), v13 = .int .i64 x13_2 ∧ Aside0 (neumelaw29_SolveFits.l0 kq l0 l1 a2 a3 t182 t183 (t182.length : Int) x13_2 = some r) ∧ Aside0 (kq ≤ kj8) ∧ Aside0 (Kd.R (Kd.int .i64) 3 w' w.heap.size (fun _ => True) (.slice Ao11 t182.length co11) t182) ∧ Aside0 (Below w.heap.size w w'))
      case atStart => exact ⟨(1), (by first | rfl | (simp; done) | (simp [*]; done)), H', ⟨Nat.le_refl _⟩, ⟨by (with_reducible repeat (first | apply Kd.R_alloc | apply Kd.R_drewN | apply Kd.R_drew)); exact HO_9.out⟩, ⟨by repeat first | exact HB.out | apply ba_ | apply pd_ | apply d1_⟩⟩
      case round =>
       clear H'
       try clear c1; try clear p1; try clear q1; try clear hx1; try clear qi1; try clear c2; try clear p2; try clear c3; try clear c6; try clear p6; try clear c8; try clear c8b0; try clear c8b1; try clear c12; try clear c12b0; try clear c12b1; try clear c13; try clear c13b0; try clear c13b1; try clear c14; try clear c14b0; try clear c14b1; try clear c16; try clear c16b0; try clear c17; try clear c17b0; try clear c18; try clear c18b0; try clear p19; try clear q19; try clear hx19; try clear qi19; try clear c20; try clear c25; try clear hx190_0; try clear hx191_0; try clear p1; try clear p19; try clear p190; try clear p191; try clear p2; try clear p6; try clear q1; try clear q19; try clear q190; try clear q191
       obtain ⟨x13_2, rfl, HA, HK2, HO_9, HB⟩ := hrel
       cases gk with
       | zero => exact absurd HA.out (by simp [neumelaw29_SolveFits.l0])
       | succ k2 =>
        have H := HA.out
        clear HA
        simp only [neumelaw29_SolveFits.l0] at H
        by_cases c26 : x13_2 < (t182.length : Int)
        ·rw [if_pos c26] at H
         have c26b0 : decide (x13_2 < (t182.length : Int)) = true := dt_ c26
         clear c26
         by_cases c27 : 0 ≤ x13_2
         ·rw [if_pos c27] at H
          have c27b0 : decide (0 ≤ x13_2) = true := dt_ c27
          clear c27
          by_cases c28 : x13_2 < (t182.length : Int)
          ·rw [if_pos c28] at H
           have c28b0 : decide (x13_2 < (t182.length : Int)) = true := dt_ c28
           clear c28
           obtain ⟨ji29, hji29⟩ : ∃ j_ : Int, (wrap64 (x13_2 - 1)) = j_ := ⟨_, rfl⟩
           replace H : (if 0 ≤ (ji29) then (if (ji29) < (t182.length : Int) then (if (rd t182 x13_2) ≤ (rd t182 (ji29)) then (some false) else (neumelaw29_SolveFits.l0 k2 l0 l1 a2 a3 t182 t183 (t182.length : Int) (wrap64 (x13_2 + 1)))) else (none)) else (none)) = some r := by first | (rw [hji29] at H; exact H) | (simp only [hji29] at H ⊢; exact H)
           have hji29w : (IntKind.i64.wrap (x13_2 - 1)) = ji29 := (i64_w _).trans hji29
           by_cases c30 : 0 ≤ (ji29)
           ·rw [if_pos c30] at H
            have c30b0 : decide (0 ≤ (ji29)) = true := dt_ c30
            clear c30
            by_cases c31 : (ji29) < (t182.length : Int)
            ·rw [if_pos c31] at H
             have c31b0 : decide ((ji29) < (t182.length : Int)) = true := dt_ c31
             clear c31
             by_cases c32 : (rd t182 x13_2) ≤ (rd t182 (ji29))
             ·rw [if_pos c32] at H
              have c32b0 : decide ((rd t182 x13_2) ≤ (rd t182 (ji29))) = true := dt_ c32
              clear c32
              exact absurd ((Option.some.inj H).trans hxt.out) (by decide)
             ·rw [if_neg c32] at H
              have c32b0 : decide ((rd t182 x13_2) ≤ (rd t182 (ji29))) = false := df_ c32
              clear c32
              have H' := sd_ H
              clear H
              have p194 : 0 ≤ (x13_2 : Int) := od_ (by first | (with_reducible assumption) | assumption)
              have q194 : x13_2 < (t182.length : Int) := od_ (by first | (with_reducible assumption) | assumption)
              obtain ⟨ad194, e194, hx194_0⟩ := Kd.at_int (Kd.R_reads' HO_9.out).2.2 x13_2 p194 q194
              cases e194
              replace p194 := eq_true p194
              replace q194 := eq_true q194
              have p195 : 0 ≤ ((ji29) : Int) := od_ (by first | (with_reducible assumption) | assumption)
              have q195 : (ji29) < (t182.length : Int) := od_ (by first | (with_reducible assumption) | assumption)
              obtain ⟨ad195, e195, hx195_0⟩ := Kd.at_int (Kd.R_reads' HO_9.out).2.2 (ji29) p195 q195
              obtain rfl : ad194 = ad195 := (by injection e195)
              replace p195 := eq_true p195
              replace q195 := eq_true q195
              go_wp2
              repeat (go_quiet (fail); try go_wp2)
              go_roundg k2
              case measure => have := HJ8.out; have := HK2.out; omega
              case rel => exact ⟨(wrap64 (x13_2 + 1)), (by first | rfl | (simp; done) | (simp [*]; done)), H', ⟨by have := HJ8.out; have := HK2.out; omega⟩, ⟨by (with_reducible repeat (first | apply Kd.R_alloc | apply Kd.R_drewN | apply Kd.R_drew)); exact HO_9.out⟩, ⟨by repeat first | exact HB.out | apply ba_ | apply pd_ | apply d1_⟩⟩
            ·rw [if_neg c31] at H
             exact absurd H (by simp)
           ·rw [if_neg c30] at H
            exact absurd H (by simp)
          ·rw [if_neg c28] at H
           exact absurd H (by simp)
         ·rw [if_neg c27] at H
          exact absurd H (by simp)
        ·rw [if_neg c26] at H
         have c26b0 : decide (x13_2 < (t182.length : Int)) = false := df_ c26
         clear c26
         have HC33 := sd_ H
         clear H
         go_upto_if 104 with (fail)
         repeat (go_quiet (fail); go_upto_if 104 with (fail))
         go_cut [14] (fun v14 wc => ∃ (kq : Nat) (x14_32 : Int), v14 = .int .i64 x14_32 ∧ Aside0 (neumelaw29_SolveFits.j2 kq l0 l1 a2 t183 (t182.length : Int) x14_32 = some r) ∧ Aside0 (kq ≤ k2) ∧ Aside0 (Below w.heap.size w wc))
         case first =>
          have H := HC33.out
          clear HC33
          by_cases c34 : a3 = true
          ·subst c34
           have H1 : (neumelaw29_SolveFits.j2 k2 l0 l1 a2 t183 (t182.length : Int) 0) = some r := by rw [if_pos rfl] at H; exact H
           clear H; have H := H1; clear H1
           have H' := sd_ H
           clear H
           go_wp2
           repeat (go_quiet (fail); try go_wp2)
           go_meet
           case rel => exact ⟨_, (0), (by first | rfl | (simp; done) | (simp [*]; done)), H', ⟨by have := HJ8.out; have := HK2.out; first | omega | exact Nat.le_refl _⟩, ⟨by repeat first | exact HB.out | apply ba_ | apply pd_ | apply d1_⟩⟩
          ·replace c34 := bf_ c34
           subst c34
           have H1 : (neumelaw29_SolveFits.j2 k2 l0 l1 a2 t183 (t182.length : Int) 8192) = some r := by rw [if_neg (show ¬ (false = true) by decide)] at H; exact H
           clear H; have H := H1; clear H1
           have H' := sd_ H
           clear H
           go_wp2
           repeat (go_quiet (fail); try go_wp2)
           go_meet
           case rel => exact ⟨_, (8192), (by first | rfl | (simp; done) | (simp [*]; done)), H', ⟨by have := HJ8.out; have := HK2.out; first | omega | exact Nat.le_refl _⟩, ⟨by repeat first | exact HB.out | apply ba_ | apply pd_ | apply d1_⟩⟩
         case rest =>
          clear HC33
          try clear c1; try clear p1; try clear q1; try clear hx1; try clear qi1; try clear c2; try clear p2; try clear c3; try clear c6; try clear p6; try clear c8; try clear c8b0; try clear c8b1; try clear c12; try clear c12b0; try clear c12b1; try clear c13; try clear c13b0; try clear c13b1; try clear c14; try clear c14b0; try clear c14b1; try clear c16; try clear c16b0; try clear c17; try clear c17b0; try clear c18; try clear c18b0; try clear p19; try clear q19; try clear hx19; try clear qi19; try clear c20; try clear c25; try clear c26; try clear c26b0; try clear c27; try clear c27b0; try clear c28; try clear c28b0; try clear c30; try clear c30b0; try clear c31; try clear c31b0; try clear c32; try clear c32b0; try clear c34; try clear hx190_0; try clear hx191_0; try clear hx194_0; try clear hx195_0; try clear p1; try clear p19; try clear p190; try clear p191; try clear p194; try clear p195; try clear p2; try clear p6; try clear q1; try clear q19; try clear q190; try clear q191; try clear q194; try clear q195
          obtain ⟨kq, x14_32, rfl, HA, HJ32, HB⟩ := hcut
          cases kq with
          | zero => exact absurd HA.out (by simp [neumelaw29_SolveFits.j2])
          | succ kj32 =>
           have H := HA.out
           clear HA
           simp only [neumelaw29_SolveFits.j2] at H
           have HC35 := sd_ H
           clear H
           go_upto_region 17 with (fail)
           repeat (go_quiet (fail); go_upto_region 17 with (fail))
           go_cut [111] (fun v111 wc => ∃ (kq : Nat) (x111_34 : Bool), v111 = .bool x111_34 ∧ Aside0 (neumelaw29_SolveFits.j3 kq l0 l1 a2 t183 (t182.length : Int) x14_32 x111_34 = some r) ∧ Aside0 (kq ≤ kj32) ∧ Aside0 (Below w.heap.size w wc))
           case first =>
            have H := HC35.out
            clear HC35
            by_cases c36 : t183 > x14_32
            ·rw [if_pos c36] at H
             have c36b0 : decide (x14_32 < t183) = true := dt_ c36
             clear c36
             (first | rw [c36b0] | (simp only [i64_w, i32_w]; rw [c36b0]) | skip)
             have H' := sd_ H
             clear H
             go_wp2
             repeat (go_quiet (fail); try go_wp2)
             go_meet
             case rel => exact ⟨_, (true), (by first | rfl | (simp; done) | (simp [*]; done)), H', ⟨by have := HJ8.out; have := HK2.out; have := HJ32.out; first | omega | exact Nat.le_refl _⟩, ⟨by repeat first | exact HB.out | apply ba_ | apply pd_ | apply d1_⟩⟩
            ·rw [if_neg c36] at H
             have c36b0 : decide (x14_32 < t183) = false := df_ c36
             clear c36
             (first | rw [c36b0] | (simp only [i64_w, i32_w]; rw [c36b0]) | skip)
             have H' := sd_ H
             clear H
             go_wp2
             repeat (go_quiet (fail); try go_wp2)
             go_meet
             case rel => exact ⟨_, (decide (t183 < (-1024))), (by first | rfl | (simp; done) | (simp [*]; done)), H', ⟨by have := HJ8.out; have := HK2.out; have := HJ32.out; first | omega | exact Nat.le_refl _⟩, ⟨by repeat first | exact HB.out | apply ba_ | apply pd_ | apply d1_⟩⟩
           case rest =>
            clear HC35
            try clear c1; try clear p1; try clear q1; try clear hx1; try clear qi1; try clear c2; try clear p2; try clear c3; try clear c6; try clear p6; try clear c8; try clear c8b0; try clear c8b1; try clear c12; try clear c12b0; try clear c12b1; try clear c13; try clear c13b0; try clear c13b1; try clear c14; try clear c14b0; try clear c14b1; try clear c16; try clear c16b0; try clear c17; try clear c17b0; try clear c18; try clear c18b0; try clear p19; try clear q19; try clear hx19; try clear qi19; try clear c20; try clear c25; try clear c26; try clear c26b0; try clear c27; try clear c27b0; try clear c28; try clear c28b0; try clear c30; try clear c30b0; try clear c31; try clear c31b0; try clear c32; try clear c32b0; try clear c34; try clear c36; try clear c36b0; try clear hx190_0; try clear hx191_0; try clear hx194_0; try clear hx195_0; try clear p1; try clear p19; try clear p190; try clear p191; try clear p194; try clear p195; try clear p2; try clear p6; try clear q1; try clear q19; try clear q190; try clear q191; try clear q194; try clear q195
            obtain ⟨kq, x111_34, rfl, HA, HJ34, HB⟩ := hcut
            cases kq with
            | zero => exact absurd HA.out (by simp [neumelaw29_SolveFits.j3])
            | succ kj34 =>
             have H := HA.out
             clear HA
             simp only [neumelaw29_SolveFits.j3] at H
             by_cases c37 : x111_34 = true
             ·subst c37
              have H1 : (some false) = some r := by rw [if_pos rfl] at H; exact H
              clear H; have H := H1; clear H1
              exact absurd ((Option.some.inj H).trans hxt.out) (by decide)
             ·replace c37 := bf_ c37
              subst c37
              have H1 : ((solve_At.f kj34 l0 l1 (mn (wrap64 (t183 + 1)) 8192)).bind fun bt196 => (if t183 = x14_32 then ((neumelaw29_heads.f kj34).bind fun t200 => (some t200)) else (if bt196.2 = 0 then (if (bt196.1.length : Int) = (t182.length : Int) then (if 0 ≤ (wrap64 ((t182.length : Int) - 1)) then (if (wrap64 ((t182.length : Int) - 1)) < (bt196.1.length : Int) then (if (rd bt196.1 (wrap64 ((t182.length : Int) - 1))) > a2 then ((neumelaw29_heads.f kj34).bind fun t202 => (some t202)) else (some false)) else (none)) else (none)) else (some false)) else (some false)))) = some r := by rw [if_neg (show ¬ (false = true) by decide)] at H; exact H
              clear H; have H := H1; clear H1
              obtain ⟨ji38, hji38⟩ : ∃ j_ : Int, (mn (wrap64 (t183 + 1)) 8192) = j_ := ⟨_, rfl⟩
              replace H : ((solve_At.f kj34 l0 l1 (ji38)).bind fun bt196 => (if t183 = x14_32 then ((neumelaw29_heads.f kj34).bind fun t200 => (some t200)) else (if bt196.2 = 0 then (if (bt196.1.length : Int) = (t182.length : Int) then (if 0 ≤ (wrap64 ((t182.length : Int) - 1)) then (if (wrap64 ((t182.length : Int) - 1)) < (bt196.1.length : Int) then (if (rd bt196.1 (wrap64 ((t182.length : Int) - 1))) > a2 then ((neumelaw29_heads.f kj34).bind fun t202 => (some t202)) else (some false)) else (none)) else (none)) else (some false)) else (some false)))) = some r := by first | (rw [hji38] at H; exact H) | (simp only [hji38] at H ⊢; exact H)
              have hji38_ : (if 8192 < (wrap64 (t183 + 1)) then 8192 else (wrap64 (t183 + 1))) = ji38 := hji38
              replace H := ob_ H
              obtain ⟨⟨t196, t197⟩, A390, H⟩ := H
              replace H : (if t183 = x14_32 then ((neumelaw29_heads.f kj34).bind fun t200 => (some t200)) else (if t197 = 0 then (if (t196.length : Int) = (t182.length : Int) then (if 0 ≤ (wrap64 ((t182.length : Int) - 1)) then (if (wrap64 ((t182.length : Int) - 1)) < (t196.length : Int) then (if (rd t196 (wrap64 ((t182.length : Int) - 1))) > a2 then ((neumelaw29_heads.f kj34).bind fun t202 => (some t202)) else (some false)) else (none)) else (none)) else (some false)) else (some false))) = some r := H
              have A39 := sd_ A390
              clear A390
              by_cases c40 : t183 = x14_32
              ·rw [if_pos c40] at H
               have c40b0 : (t183 == x14_32) = true := beq_iff_eq.mpr c40
               have c40b1 : (t183 != x14_32) = false := bne_eq_false_iff_eq.mpr c40
               clear c40
               replace H := ob_ H
               obtain ⟨t200, A410, H⟩ := H
               replace H : (some t200) = some r := H
               have A41 := sd_ A410
               clear A410
               obtain rfl := Option.some.inj H
               go_wp2_with (first | (go_at_call 10; (with_reducible refine (solve_At.calls kj34 _ _ l0 _ _ l1 ji38 t196 t197 _ ?side1 ?side2 ?side3 ?side4 A39.out).mono ?_); (case side1 => repeat (first | exact (Kd.C_below HR0.out HB.out) | (with_reducible refine Kd.C_alloc ?_ _) | (with_reducible refine Kd.C_drewN ?_ _) | (with_reducible refine Kd.C_drew ?_))); (case side2 => exact HC0.out); (case side3 => repeat (first | exact (Kd.C_below HR1.out HB.out) | (with_reducible refine Kd.C_alloc ?_ _) | (with_reducible refine Kd.C_drewN ?_ _) | (with_reducible refine Kd.C_drew ?_))); (case side4 => exact HC1.out); rintro e w42 ⟨v198, rfl, ho0, hb⟩; have n0_ := sd_ (Kd.R_lower ho0 (bz_ (by repeat first | exact HB.out | apply ba_ | apply pd_ | apply d1_))); have n1_ := sd_ (bt_ (by repeat first | exact HB.out | apply ba_ | apply pd_ | apply d1_) hb); clear HB; have HO199 := n0_; have HB := n1_; clear n0_ n1_; (try clear hb); (try clear hb2); (try clear hk); (try clear hi); (try clear ho0)) | (go_at_call 6; (with_reducible refine (neumelaw29_heads.calls kj34  t200 _ A41.out).mono ?_); rintro e w43 ⟨rfl, hb⟩; have n0_ := sd_ (Kd.R_below (by (with_reducible repeat (first | apply Kd.R_alloc | apply Kd.R_drewN | apply Kd.R_drew)); exact HO199.out) hb); have n1_ := sd_ (bt_ (by repeat first | exact HB.out | apply ba_ | apply pd_ | apply d1_) hb); clear HO199; clear HB; have HO199 := n0_; have HB := n1_; clear n0_ n1_; (try clear hb); (try clear hb2); (try clear hk); (try clear hi)))
               repeat (go_quiet (first | (go_at_call 10; (with_reducible refine (solve_At.calls kj34 _ _ l0 _ _ l1 ji38 t196 t197 _ ?side1 ?side2 ?side3 ?side4 A39.out).mono ?_); (case side1 => repeat (first | exact (Kd.C_below HR0.out HB.out) | (with_reducible refine Kd.C_alloc ?_ _) | (with_reducible refine Kd.C_drewN ?_ _) | (with_reducible refine Kd.C_drew ?_))); (case side2 => exact HC0.out); (case side3 => repeat (first | exact (Kd.C_below HR1.out HB.out) | (with_reducible refine Kd.C_alloc ?_ _) | (with_reducible refine Kd.C_drewN ?_ _) | (with_reducible refine Kd.C_drew ?_))); (case side4 => exact HC1.out); rintro e w42 ⟨v198, rfl, ho0, hb⟩; have n0_ := sd_ (Kd.R_lower ho0 (bz_ (by repeat first | exact HB.out | apply ba_ | apply pd_ | apply d1_))); have n1_ := sd_ (bt_ (by repeat first | exact HB.out | apply ba_ | apply pd_ | apply d1_) hb); clear HB; have HO199 := n0_; have HB := n1_; clear n0_ n1_; (try clear hb); (try clear hb2); (try clear hk); (try clear hi); (try clear ho0)) | (go_at_call 6; (with_reducible refine (neumelaw29_heads.calls kj34  t200 _ A41.out).mono ?_); rintro e w43 ⟨rfl, hb⟩; have n0_ := sd_ (Kd.R_below (by (with_reducible repeat (first | apply Kd.R_alloc | apply Kd.R_drewN | apply Kd.R_drew)); exact HO199.out) hb); have n1_ := sd_ (bt_ (by repeat first | exact HB.out | apply ba_ | apply pd_ | apply d1_) hb); clear HO199; clear HB; have HO199 := n0_; have HB := n1_; clear n0_ n1_; (try clear hb); (try clear hb2); (try clear hk); (try clear hi))); try go_wp2_with (first | (go_at_call 10; (with_reducible refine (solve_At.calls kj34 _ _ l0 _ _ l1 ji38 t196 t197 _ ?side1 ?side2 ?side3 ?side4 A39.out).mono ?_); (case side1 => repeat (first | exact (Kd.C_below HR0.out HB.out) | (with_reducible refine Kd.C_alloc ?_ _) | (with_reducible refine Kd.C_drewN ?_ _) | (with_reducible refine Kd.C_drew ?_))); (case side2 => exact HC0.out); (case side3 => repeat (first | exact (Kd.C_below HR1.out HB.out) | (with_reducible refine Kd.C_alloc ?_ _) | (with_reducible refine Kd.C_drewN ?_ _) | (with_reducible refine Kd.C_drew ?_))); (case side4 => exact HC1.out); rintro e w42 ⟨v198, rfl, ho0, hb⟩; have n0_ := sd_ (Kd.R_lower ho0 (bz_ (by repeat first | exact HB.out | apply ba_ | apply pd_ | apply d1_))); have n1_ := sd_ (bt_ (by repeat first | exact HB.out | apply ba_ | apply pd_ | apply d1_) hb); clear HB; have HO199 := n0_; have HB := n1_; clear n0_ n1_; (try clear hb); (try clear hb2); (try clear hk); (try clear hi); (try clear ho0)) | (go_at_call 6; (with_reducible refine (neumelaw29_heads.calls kj34  t200 _ A41.out).mono ?_); rintro e w43 ⟨rfl, hb⟩; have n0_ := sd_ (Kd.R_below (by (with_reducible repeat (first | apply Kd.R_alloc | apply Kd.R_drewN | apply Kd.R_drew)); exact HO199.out) hb); have n1_ := sd_ (bt_ (by repeat first | exact HB.out | apply ba_ | apply pd_ | apply d1_) hb); clear HO199; clear HB; have HO199 := n0_; have HB := n1_; clear n0_ n1_; (try clear hb); (try clear hb2); (try clear hk); (try clear hi))))
               go_ret
               exact ⟨by first | rfl | (simp [errW_none, errW_some] <;> rfl) | (simp only [← hji38]; first | rfl | (simp [errW_none, errW_some] <;> rfl)) | (simp [*, errW_none, errW_some] <;> rfl), by repeat first | exact HB.out | apply ba_ | apply pd_ | apply d1_⟩
              ·rw [if_neg c40] at H
               have c40b0 : (t183 == x14_32) = false := beq_eq_false_iff_ne.mpr c40
               have c40b1 : (t183 != x14_32) = true := bne_iff_ne.mpr c40
               by_cases c44 : t197 = 0
               ·rw [if_pos c44] at H
                have c44b0 : (t197 == 0) = true := beq_iff_eq.mpr c44
                have c44b1 : (t197 != 0) = false := bne_eq_false_iff_eq.mpr c44
                clear c44
                by_cases c45 : (t196.length : Int) = (t182.length : Int)
                ·rw [if_pos c45] at H
                 have c45b0 : ((t196.length : Int) == (t182.length : Int)) = true := beq_iff_eq.mpr c45
                 have c45b1 : ((t196.length : Int) != (t182.length : Int)) = false := bne_eq_false_iff_eq.mpr c45
                 have c45b2 : (t196.length == t182.length) = true := by first | simpa using c45 | (simp at c45 ⊢; omega)
                 clear c45
                 obtain ⟨ji46, hji46⟩ : ∃ j_ : Int, (wrap64 ((t182.length : Int) - 1)) = j_ := ⟨_, rfl⟩
                 replace H : (if 0 ≤ (ji46) then (if (ji46) < (t196.length : Int) then (if (rd t196 (ji46)) > a2 then ((neumelaw29_heads.f kj34).bind fun t202 => (some t202)) else (some false)) else (none)) else (none)) = some r := by first | (rw [hji46] at H; exact H) | (simp only [hji46] at H ⊢; exact H)
                 (try rw [hji46] at A39)
                 have hji46w : (IntKind.i64.wrap ((t182.length : Int) - 1)) = ji46 := (i64_w _).trans hji46
                 by_cases c47 : 0 ≤ (ji46)
                 ·rw [if_pos c47] at H
                  have c47b0 : decide (0 ≤ (ji46)) = true := dt_ c47
                  clear c47
                  by_cases c48 : (ji46) < (t196.length : Int)
                  ·rw [if_pos c48] at H
                   have c48b0 : decide ((ji46) < (t196.length : Int)) = true := dt_ c48
                   clear c48
                   by_cases c49 : (rd t196 (ji46)) > a2
                   ·rw [if_pos c49] at H
                    have c49b0 : decide (a2 < (rd t196 (ji46))) = true := dt_ c49
                    clear c49
                    replace H := ob_ H
                    obtain ⟨t202, A500, H⟩ := H
                    replace H : (some t202) = some r := H
                    have A50 := sd_ A500
                    clear A500
                    obtain rfl := Option.some.inj H
                    go_wp2_with (first | (go_at_call 10; (with_reducible refine (solve_At.calls kj34 _ _ l0 _ _ l1 ji38 t196 t197 _ ?side1 ?side2 ?side3 ?side4 A39.out).mono ?_); (case side1 => repeat (first | exact (Kd.C_below HR0.out HB.out) | (with_reducible refine Kd.C_alloc ?_ _) | (with_reducible refine Kd.C_drewN ?_ _) | (with_reducible refine Kd.C_drew ?_))); (case side2 => exact HC0.out); (case side3 => repeat (first | exact (Kd.C_below HR1.out HB.out) | (with_reducible refine Kd.C_alloc ?_ _) | (with_reducible refine Kd.C_drewN ?_ _) | (with_reducible refine Kd.C_drew ?_))); (case side4 => exact HC1.out); rintro e w51 ⟨v198, rfl, ho0, hb⟩; have n0_ := sd_ (Kd.R_lower ho0 (bz_ (by repeat first | exact HB.out | apply ba_ | apply pd_ | apply d1_))); have n1_ := sd_ (bt_ (by repeat first | exact HB.out | apply ba_ | apply pd_ | apply d1_) hb); clear HB; have HO199 := n0_; have HB := n1_; clear n0_ n1_; (try clear hb); (try clear hb2); (try clear hk); (try clear hi); (try clear ho0); obtain ⟨Ao52, co52, eo52⟩ := Kd.R_slice HO199.out; subst eo52; have p201 : 0 ≤ ((ji46) : Int) := od_ (by first | (with_reducible assumption) | assumption); have q201 : (ji46) < (t196.length : Int) := od_ (by first | (with_reducible assumption) | assumption); obtain ⟨ad201, e201, hx201_0⟩ := Kd.at_int (Kd.R_reads' HO199.out).2.2 (ji46) p201 q201; cases e201; replace p201 := eq_true p201; replace q201 := eq_true q201) | (go_at_call 6; (with_reducible refine (neumelaw29_heads.calls kj34  t202 _ A50.out).mono ?_); rintro e w53 ⟨rfl, hb⟩; have n0_ := sd_ (Kd.R_below (by (with_reducible repeat (first | apply Kd.R_alloc | apply Kd.R_drewN | apply Kd.R_drew)); exact HO199.out) hb); have n1_ := sd_ (bt_ (by repeat first | exact HB.out | apply ba_ | apply pd_ | apply d1_) hb); clear HO199; clear HB; have HO199 := n0_; have HB := n1_; clear n0_ n1_; (try clear hb); (try clear hb2); (try clear hk); (try clear hi)))
                    repeat (go_quiet (first | (go_at_call 10; (with_reducible refine (solve_At.calls kj34 _ _ l0 _ _ l1 ji38 t196 t197 _ ?side1 ?side2 ?side3 ?side4 A39.out).mono ?_); (case side1 => repeat (first | exact (Kd.C_below HR0.out HB.out) | (with_reducible refine Kd.C_alloc ?_ _) | (with_reducible refine Kd.C_drewN ?_ _) | (with_reducible refine Kd.C_drew ?_))); (case side2 => exact HC0.out); (case side3 => repeat (first | exact (Kd.C_below HR1.out HB.out) | (with_reducible refine Kd.C_alloc ?_ _) | (with_reducible refine Kd.C_drewN ?_ _) | (with_reducible refine Kd.C_drew ?_))); (case side4 => exact HC1.out); rintro e w51 ⟨v198, rfl, ho0, hb⟩; have n0_ := sd_ (Kd.R_lower ho0 (bz_ (by repeat first | exact HB.out | apply ba_ | apply pd_ | apply d1_))); have n1_ := sd_ (bt_ (by repeat first | exact HB.out | apply ba_ | apply pd_ | apply d1_) hb); clear HB; have HO199 := n0_; have HB := n1_; clear n0_ n1_; (try clear hb); (try clear hb2); (try clear hk); (try clear hi); (try clear ho0); obtain ⟨Ao52, co52, eo52⟩ := Kd.R_slice HO199.out; subst eo52; have p201 : 0 ≤ ((ji46) : Int) := od_ (by first | (with_reducible assumption) | assumption); have q201 : (ji46) < (t196.length : Int) := od_ (by first | (with_reducible assumption) | assumption); obtain ⟨ad201, e201, hx201_0⟩ := Kd.at_int (Kd.R_reads' HO199.out).2.2 (ji46) p201 q201; cases e201; replace p201 := eq_true p201; replace q201 := eq_true q201) | (go_at_call 6; (with_reducible refine (neumelaw29_heads.calls kj34  t202 _ A50.out).mono ?_); rintro e w53 ⟨rfl, hb⟩; have n0_ := sd_ (Kd.R_below (by (with_reducible repeat (first | apply Kd.R_alloc | apply Kd.R_drewN | apply Kd.R_drew)); exact HO199.out) hb); have n1_ := sd_ (bt_ (by repeat first | exact HB.out | apply ba_ | apply pd_ | apply d1_) hb); clear HO199; clear HB; have HO199 := n0_; have HB := n1_; clear n0_ n1_; (try clear hb); (try clear hb2); (try clear hk); (try clear hi))); try go_wp2_with (first | (go_at_call 10; (with_reducible refine (solve_At.calls kj34 _ _ l0 _ _ l1 ji38 t196 t197 _ ?side1 ?side2 ?side3 ?side4 A39.out).mono ?_); (case side1 => repeat (first | exact (Kd.C_below HR0.out HB.out) | (with_reducible refine Kd.C_alloc ?_ _) | (with_reducible refine Kd.C_drewN ?_ _) | (with_reducible refine Kd.C_drew ?_))); (case side2 => exact HC0.out); (case side3 => repeat (first | exact (Kd.C_below HR1.out HB.out) | (with_reducible refine Kd.C_alloc ?_ _) | (with_reducible refine Kd.C_drewN ?_ _) | (with_reducible refine Kd.C_drew ?_))); (case side4 => exact HC1.out); rintro e w51 ⟨v198, rfl, ho0, hb⟩; have n0_ := sd_ (Kd.R_lower ho0 (bz_ (by repeat first | exact HB.out | apply ba_ | apply pd_ | apply d1_))); have n1_ := sd_ (bt_ (by repeat first | exact HB.out | apply ba_ | apply pd_ | apply d1_) hb); clear HB; have HO199 := n0_; have HB := n1_; clear n0_ n1_; (try clear hb); (try clear hb2); (try clear hk); (try clear hi); (try clear ho0); obtain ⟨Ao52, co52, eo52⟩ := Kd.R_slice HO199.out; subst eo52; have p201 : 0 ≤ ((ji46) : Int) := od_ (by first | (with_reducible assumption) | assumption); have q201 : (ji46) < (t196.length : Int) := od_ (by first | (with_reducible assumption) | assumption); obtain ⟨ad201, e201, hx201_0⟩ := Kd.at_int (Kd.R_reads' HO199.out).2.2 (ji46) p201 q201; cases e201; replace p201 := eq_true p201; replace q201 := eq_true q201) | (go_at_call 6; (with_reducible refine (neumelaw29_heads.calls kj34  t202 _ A50.out).mono ?_); rintro e w53 ⟨rfl, hb⟩; have n0_ := sd_ (Kd.R_below (by (with_reducible repeat (first | apply Kd.R_alloc | apply Kd.R_drewN | apply Kd.R_drew)); exact HO199.out) hb); have n1_ := sd_ (bt_ (by repeat first | exact HB.out | apply ba_ | apply pd_ | apply d1_) hb); clear HO199; clear HB; have HO199 := n0_; have HB := n1_; clear n0_ n1_; (try clear hb); (try clear hb2); (try clear hk); (try clear hi))))
                    go_ret
                    exact ⟨by first | rfl | (simp [errW_none, errW_some] <;> rfl) | (simp only [← hji38, ← hji46]; first | rfl | (simp [errW_none, errW_some] <;> rfl)) | (simp [*, errW_none, errW_some] <;> rfl), by repeat first | exact HB.out | apply ba_ | apply pd_ | apply d1_⟩
                   ·rw [if_neg c49] at H
                    have c49b0 : decide (a2 < (rd t196 (ji46))) = false := df_ c49
                    clear c49
                    exact absurd ((Option.some.inj H).trans hxt.out) (by decide)
                  ·rw [if_neg c48] at H
                   exact absurd H (by simp)
                 ·rw [if_neg c47] at H
                  exact absurd H (by simp)
                ·rw [if_neg c45] at H
                 have c45b0 : ((t196.length : Int) == (t182.length : Int)) = false := beq_eq_false_iff_ne.mpr c45
                 have c45b1 : ((t196.length : Int) != (t182.length : Int)) = true := bne_iff_ne.mpr c45
                 have c45b2 : (t196.length == t182.length) = false := by first | simpa using c45 | (simp at c45 ⊢; omega)
                 exact absurd ((Option.some.inj H).trans hxt.out) (by decide)
               ·rw [if_neg c44] at H
                have c44b0 : (t197 == 0) = false := beq_eq_false_iff_ne.mpr c44
                have c44b1 : (t197 != 0) = true := bne_iff_ne.mpr c44
                exact absurd ((Option.some.inj H).trans hxt.out) (by decide)
  ·rw [if_neg c8] at H
   have c8b0 : (t184 == 0) = false := beq_eq_false_iff_ne.mpr c8
   have c8b1 : (t184 != 0) = true := bne_iff_ne.mpr c8
   by_cases c54 : (t182.length : Int) = 0
   ·rw [if_pos c54] at H
    have c54b0 : ((t182.length : Int) == 0) = true := beq_iff_eq.mpr c54
    have c54b1 : ((t182.length : Int) != 0) = false := bne_eq_false_iff_eq.mpr c54
    clear c54
    by_cases c55 : t183 = 0
    ·rw [if_pos c55] at H
     have c55b0 : (t183 == 0) = true := beq_iff_eq.mpr c55
     have c55b1 : (t183 != 0) = false := bne_eq_false_iff_eq.mpr c55
     clear c55
     by_cases c56 : t184 = 30
     ·rw [if_pos c56] at H
      have c56b0 : (t184 == 30) = true := beq_iff_eq.mpr c56
      have c56b1 : (t184 != 30) = false := bne_eq_false_iff_eq.mpr c56
      clear c56
      replace H := ob_ H
      obtain ⟨t187, A570, H⟩ := H
      replace H : (if t187 < 0 then ((neumelaw29_heads.f k).bind fun t188 => (some t188)) else (some false)) = some r := H
      have A57 := sd_ A570
      clear A570
      by_cases c58 : t187 < 0
      ·rw [if_pos c58] at H
       have c58b0 : decide (t187 < 0) = true := dt_ c58
       clear c58
       replace H := ob_ H
       obtain ⟨t188, A590, H⟩ := H
       replace H : (some t188) = some r := H
       have A59 := sd_ A590
       clear A590
       obtain rfl := Option.some.inj H
       go_enter Try.func3, Try.ntmps3
       go_wp2_with (first | (go_at_call 5; (with_reducible refine (neumelaw29_few.calls _ _ l0 _ _ l1 true _ ?side1 ?side2 ?side3 ?side4 A5.out).mono ?_); (case side1 => repeat (first | exact HR0.out | (with_reducible refine Kd.C_alloc ?_ _) | (with_reducible refine Kd.C_drewN ?_ _) | (with_reducible refine Kd.C_drew ?_))); (case side2 => exact HC0.out); (case side3 => repeat (first | exact HR1.out | (with_reducible refine Kd.C_alloc ?_ _) | (with_reducible refine Kd.C_drewN ?_ _) | (with_reducible refine Kd.C_drew ?_))); (case side4 => exact HC1.out); rintro e w' ⟨rfl, ⟨nd, rfl⟩⟩; (try first | exact ⟨rfl, _, World.drewN_drewN _ _ _⟩ | exact ⟨rfl, _, Eq.trans (World.drewN_drewN _ _ _) (congrArg (World.drewN _) (Nat.add_assoc _ _ _))⟩)) | (go_at_call 7; (with_reducible refine (solve_Solve.calls k _ _ l0 _ _ l1 a2 a3 t182 t183 t184 _ ?side1 ?side2 ?side3 ?side4 A7.out).mono ?_); (case side1 => repeat (first | exact HR0.out | (with_reducible refine Kd.C_alloc ?_ _) | (with_reducible refine Kd.C_drewN ?_ _) | (with_reducible refine Kd.C_drew ?_))); (case side2 => exact HC0.out); (case side3 => repeat (first | exact HR1.out | (with_reducible refine Kd.C_alloc ?_ _) | (with_reducible refine Kd.C_drewN ?_ _) | (with_reducible refine Kd.C_drew ?_))); (case side4 => exact HC1.out); rintro e w60 ⟨v185, rfl, ho0, hb⟩; have n0_ := sd_ (Kd.R_lower ho0 (bz_ (by repeat first | exact HB.out | apply ba_ | apply pd_ | apply d1_))); have n1_ := sd_ (bt_ (by repeat first | exact HB.out | apply ba_ | apply pd_ | apply d1_) hb); clear HB; have HO186 := n0_; have HB := n1_; clear n0_ n1_; (try clear hb); (try clear hb2); (try clear hk); (try clear hi); (try clear ho0); obtain ⟨Ao61, co61, eo61⟩ := Kd.R_slice HO186.out; subst eo61) | (go_at_call 8; (with_reducible refine (solve_Slack.calls k _ _ l0 _ _ l1 a2 t187 _ ?side1 ?side2 ?side3 ?side4 A57.out).mono ?_); (case side1 => repeat (first | exact (Kd.C_below HR0.out HB.out) | (with_reducible refine Kd.C_alloc ?_ _) | (with_reducible refine Kd.C_drewN ?_ _) | (with_reducible refine Kd.C_drew ?_))); (case side2 => exact HC0.out); (case side3 => repeat (first | exact (Kd.C_below HR1.out HB.out) | (with_reducible refine Kd.C_alloc ?_ _) | (with_reducible refine Kd.C_drewN ?_ _) | (with_reducible refine Kd.C_drew ?_))); (case side4 => exact HC1.out); rintro e w62 ⟨rfl, hb⟩; have n0_ := sd_ (Kd.R_below (by (with_reducible repeat (first | apply Kd.R_alloc | apply Kd.R_drewN | apply Kd.R_drew)); exact HO186.out) hb); have n1_ := sd_ (bt_ (by repeat first | exact HB.out | apply ba_ | apply pd_ | apply d1_) hb); clear HO186; clear HB; have HO186 := n0_; have HB := n1_; clear n0_ n1_; (try clear hb); (try clear hb2); (try clear hk); (try clear hi)) | (go_at_call 6; (with_reducible refine (neumelaw29_heads.calls k  t188 _ A59.out).mono ?_); rintro e w63 ⟨rfl, hb⟩; have n0_ := sd_ (Kd.R_below (by (with_reducible repeat (first | apply Kd.R_alloc | apply Kd.R_drewN | apply Kd.R_drew)); exact HO186.out) hb); have n1_ := sd_ (bt_ (by repeat first | exact HB.out | apply ba_ | apply pd_ | apply d1_) hb); clear HO186; clear HB; have HO186 := n0_; have HB := n1_; clear n0_ n1_; (try clear hb); (try clear hb2); (try clear hk); (try clear hi)))
       repeat (go_quiet (first | (go_at_call 5; (with_reducible refine (neumelaw29_few.calls _ _ l0 _ _ l1 true _ ?side1 ?side2 ?side3 ?side4 A5.out).mono ?_); (case side1 => repeat (first | exact HR0.out | (with_reducible refine Kd.C_alloc ?_ _) | (with_reducible refine Kd.C_drewN ?_ _) | (with_reducible refine Kd.C_drew ?_))); (case side2 => exact HC0.out); (case side3 => repeat (first | exact HR1.out | (with_reducible refine Kd.C_alloc ?_ _) | (with_reducible refine Kd.C_drewN ?_ _) | (with_reducible refine Kd.C_drew ?_))); (case side4 => exact HC1.out); rintro e w' ⟨rfl, ⟨nd, rfl⟩⟩; (try first | exact ⟨rfl, _, World.drewN_drewN _ _ _⟩ | exact ⟨rfl, _, Eq.trans (World.drewN_drewN _ _ _) (congrArg (World.drewN _) (Nat.add_assoc _ _ _))⟩)) | (go_at_call 7; (with_reducible refine (solve_Solve.calls k _ _ l0 _ _ l1 a2 a3 t182 t183 t184 _ ?side1 ?side2 ?side3 ?side4 A7.out).mono ?_); (case side1 => repeat (first | exact HR0.out | (with_reducible refine Kd.C_alloc ?_ _) | (with_reducible refine Kd.C_drewN ?_ _) | (with_reducible refine Kd.C_drew ?_))); (case side2 => exact HC0.out); (case side3 => repeat (first | exact HR1.out | (with_reducible refine Kd.C_alloc ?_ _) | (with_reducible refine Kd.C_drewN ?_ _) | (with_reducible refine Kd.C_drew ?_))); (case side4 => exact HC1.out); rintro e w60 ⟨v185, rfl, ho0, hb⟩; have n0_ := sd_ (Kd.R_lower ho0 (bz_ (by repeat first | exact HB.out | apply ba_ | apply pd_ | apply d1_))); have n1_ := sd_ (bt_ (by repeat first | exact HB.out | apply ba_ | apply pd_ | apply d1_) hb); clear HB; have HO186 := n0_; have HB := n1_; clear n0_ n1_; (try clear hb); (try clear hb2); (try clear hk); (try clear hi); (try clear ho0); obtain ⟨Ao61, co61, eo61⟩ := Kd.R_slice HO186.out; subst eo61) | (go_at_call 8; (with_reducible refine (solve_Slack.calls k _ _ l0 _ _ l1 a2 t187 _ ?side1 ?side2 ?side3 ?side4 A57.out).mono ?_); (case side1 => repeat (first | exact (Kd.C_below HR0.out HB.out) | (with_reducible refine Kd.C_alloc ?_ _) | (with_reducible refine Kd.C_drewN ?_ _) | (with_reducible refine Kd.C_drew ?_))); (case side2 => exact HC0.out); (case side3 => repeat (first | exact (Kd.C_below HR1.out HB.out) | (with_reducible refine Kd.C_alloc ?_ _) | (with_reducible refine Kd.C_drewN ?_ _) | (with_reducible refine Kd.C_drew ?_))); (case side4 => exact HC1.out); rintro e w62 ⟨rfl, hb⟩; have n0_ := sd_ (Kd.R_below (by (with_reducible repeat (first | apply Kd.R_alloc | apply Kd.R_drewN | apply Kd.R_drew)); exact HO186.out) hb); have n1_ := sd_ (bt_ (by repeat first | exact HB.out | apply ba_ | apply pd_ | apply d1_) hb); clear HO186; clear HB; have HO186 := n0_; have HB := n1_; clear n0_ n1_; (try clear hb); (try clear hb2); (try clear hk); (try clear hi)) | (go_at_call 6; (with_reducible refine (neumelaw29_heads.calls k  t188 _ A59.out).mono ?_); rintro e w63 ⟨rfl, hb⟩; have n0_ := sd_ (Kd.R_below (by (with_reducible repeat (first | apply Kd.R_alloc | apply Kd.R_drewN | apply Kd.R_drew)); exact HO186.out) hb); have n1_ := sd_ (bt_ (by repeat first | exact HB.out | apply ba_ | apply pd_ | apply d1_) hb); clear HO186; clear HB; have HO186 := n0_; have HB := n1_; clear n0_ n1_; (try clear hb); (try clear hb2); (try clear hk); (try clear hi))); try go_wp2_with (first | (go_at_call 5; (with_reducible refine (neumelaw29_few.calls _ _ l0 _ _ l1 true _ ?side1 ?side2 ?side3 ?side4 A5.out).mono ?_); (case side1 => repeat (first | exact HR0.out | (with_reducible refine Kd.C_alloc ?_ _) | (with_reducible refine Kd.C_drewN ?_ _) | (with_reducible refine Kd.C_drew ?_))); (case side2 => exact HC0.out); (case side3 => repeat (first | exact HR1.out | (with_reducible refine Kd.C_alloc ?_ _) | (with_reducible refine Kd.C_drewN ?_ _) | (with_reducible refine Kd.C_drew ?_))); (case side4 => exact HC1.out); rintro e w' ⟨rfl, ⟨nd, rfl⟩⟩; (try first | exact ⟨rfl, _, World.drewN_drewN _ _ _⟩ | exact ⟨rfl, _, Eq.trans (World.drewN_drewN _ _ _) (congrArg (World.drewN _) (Nat.add_assoc _ _ _))⟩)) | (go_at_call 7; (with_reducible refine (solve_Solve.calls k _ _ l0 _ _ l1 a2 a3 t182 t183 t184 _ ?side1 ?side2 ?side3 ?side4 A7.out).mono ?_); (case side1 => repeat (first | exact HR0.out | (with_reducible refine Kd.C_alloc ?_ _) | (with_reducible refine Kd.C_drewN ?_ _) | (with_reducible refine Kd.C_drew ?_))); (case side2 => exact HC0.out); (case side3 => repeat (first | exact HR1.out | (with_reducible refine Kd.C_alloc ?_ _) | (with_reducible refine Kd.C_drewN ?_ _) | (with_reducible refine Kd.C_drew ?_))); (case side4 => exact HC1.out); rintro e w60 ⟨v185, rfl, ho0, hb⟩; have n0_ := sd_ (Kd.R_lower ho0 (bz_ (by repeat first | exact HB.out | apply ba_ | apply pd_ | apply d1_))); have n1_ := sd_ (bt_ (by repeat first | exact HB.out | apply ba_ | apply pd_ | apply d1_) hb); clear HB; have HO186 := n0_; have HB := n1_; clear n0_ n1_; (try clear hb); (try clear hb2); (try clear hk); (try clear hi); (try clear ho0); obtain ⟨Ao61, co61, eo61⟩ := Kd.R_slice HO186.out; subst eo61) | (go_at_call 8; (with_reducible refine (solve_Slack.calls k _ _ l0 _ _ l1 a2 t187 _ ?side1 ?side2 ?side3 ?side4 A57.out).mono ?_); (case side1 => repeat (first | exact (Kd.C_below HR0.out HB.out) | (with_reducible refine Kd.C_alloc ?_ _) | (with_reducible refine Kd.C_drewN ?_ _) | (with_reducible refine Kd.C_drew ?_))); (case side2 => exact HC0.out); (case side3 => repeat (first | exact (Kd.C_below HR1.out HB.out) | (with_reducible refine Kd.C_alloc ?_ _) | (with_reducible refine Kd.C_drewN ?_ _) | (with_reducible refine Kd.C_drew ?_))); (case side4 => exact HC1.out); rintro e w62 ⟨rfl, hb⟩; have n0_ := sd_ (Kd.R_below (by (with_reducible repeat (first | apply Kd.R_alloc | apply Kd.R_drewN | apply Kd.R_drew)); exact HO186.out) hb); have n1_ := sd_ (bt_ (by repeat first | exact HB.out | apply ba_ | apply pd_ | apply d1_) hb); clear HO186; clear HB; have HO186 := n0_; have HB := n1_; clear n0_ n1_; (try clear hb); (try clear hb2); (try clear hk); (try clear hi)) | (go_at_call 6; (with_reducible refine (neumelaw29_heads.calls k  t188 _ A59.out).mono ?_); rintro e w63 ⟨rfl, hb⟩; have n0_ := sd_ (Kd.R_below (by (with_reducible repeat (first | apply Kd.R_alloc | apply Kd.R_drewN | apply Kd.R_drew)); exact HO186.out) hb); have n1_ := sd_ (bt_ (by repeat first | exact HB.out | apply ba_ | apply pd_ | apply d1_) hb); clear HO186; clear HB; have HO186 := n0_; have HB := n1_; clear n0_ n1_; (try clear hb); (try clear hb2); (try clear hk); (try clear hi))))
       go_ret
       exact ⟨by first | rfl | (simp [errW_none, errW_some] <;> rfl) | (simp [*, errW_none, errW_some] <;> rfl), by repeat first | exact HB.out | apply ba_ | apply pd_ | apply d1_⟩
      ·rw [if_neg c58] at H
       have c58b0 : decide (t187 < 0) = false := df_ c58
       clear c58
       exact absurd ((Option.some.inj H).trans hxt.out) (by decide)
     ·rw [if_neg c56] at H
      have c56b0 : (t184 == 30) = false := beq_eq_false_iff_ne.mpr c56
      have c56b1 : (t184 != 30) = true := bne_iff_ne.mpr c56
      replace H := ob_ H
      obtain ⟨t189, A640, H⟩ := H
      replace H : (some t189) = some r := H
      have A64 := sd_ A640
      clear A640
      obtain rfl := Option.some.inj H
      go_enter Try.func3, Try.ntmps3
      go_wp2_with (first | (go_at_call 5; (with_reducible refine (neumelaw29_few.calls _ _ l0 _ _ l1 true _ ?side1 ?side2 ?side3 ?side4 A5.out).mono ?_); (case side1 => repeat (first | exact HR0.out | (with_reducible refine Kd.C_alloc ?_ _) | (with_reducible refine Kd.C_drewN ?_ _) | (with_reducible refine Kd.C_drew ?_))); (case side2 => exact HC0.out); (case side3 => repeat (first | exact HR1.out | (with_reducible refine Kd.C_alloc ?_ _) | (with_reducible refine Kd.C_drewN ?_ _) | (with_reducible refine Kd.C_drew ?_))); (case side4 => exact HC1.out); rintro e w' ⟨rfl, ⟨nd, rfl⟩⟩; (try first | exact ⟨rfl, _, World.drewN_drewN _ _ _⟩ | exact ⟨rfl, _, Eq.trans (World.drewN_drewN _ _ _) (congrArg (World.drewN _) (Nat.add_assoc _ _ _))⟩)) | (go_at_call 7; (with_reducible refine (solve_Solve.calls k _ _ l0 _ _ l1 a2 a3 t182 t183 t184 _ ?side1 ?side2 ?side3 ?side4 A7.out).mono ?_); (case side1 => repeat (first | exact HR0.out | (with_reducible refine Kd.C_alloc ?_ _) | (with_reducible refine Kd.C_drewN ?_ _) | (with_reducible refine Kd.C_drew ?_))); (case side2 => exact HC0.out); (case side3 => repeat (first | exact HR1.out | (with_reducible refine Kd.C_alloc ?_ _) | (with_reducible refine Kd.C_drewN ?_ _) | (with_reducible refine Kd.C_drew ?_))); (case side4 => exact HC1.out); rintro e w65 ⟨v185, rfl, ho0, hb⟩; have n0_ := sd_ (Kd.R_lower ho0 (bz_ (by repeat first | exact HB.out | apply ba_ | apply pd_ | apply d1_))); have n1_ := sd_ (bt_ (by repeat first | exact HB.out | apply ba_ | apply pd_ | apply d1_) hb); clear HB; have HO186 := n0_; have HB := n1_; clear n0_ n1_; (try clear hb); (try clear hb2); (try clear hk); (try clear hi); (try clear ho0); obtain ⟨Ao66, co66, eo66⟩ := Kd.R_slice HO186.out; subst eo66) | (go_at_call 6; (with_reducible refine (neumelaw29_heads.calls k  t189 _ A64.out).mono ?_); rintro e w67 ⟨rfl, hb⟩; have n0_ := sd_ (Kd.R_below (by (with_reducible repeat (first | apply Kd.R_alloc | apply Kd.R_drewN | apply Kd.R_drew)); exact HO186.out) hb); have n1_ := sd_ (bt_ (by repeat first | exact HB.out | apply ba_ | apply pd_ | apply d1_) hb); clear HO186; clear HB; have HO186 := n0_; have HB := n1_; clear n0_ n1_; (try clear hb); (try clear hb2); (try clear hk); (try clear hi)))
      repeat (go_quiet (first | (go_at_call 5; (with_reducible refine (neumelaw29_few.calls _ _ l0 _ _ l1 true _ ?side1 ?side2 ?side3 ?side4 A5.out).mono ?_); (case side1 => repeat (first | exact HR0.out | (with_reducible refine Kd.C_alloc ?_ _) | (with_reducible refine Kd.C_drewN ?_ _) | (with_reducible refine Kd.C_drew ?_))); (case side2 => exact HC0.out); (case side3 => repeat (first | exact HR1.out | (with_reducible refine Kd.C_alloc ?_ _) | (with_reducible refine Kd.C_drewN ?_ _) | (with_reducible refine Kd.C_drew ?_))); (case side4 => exact HC1.out); rintro e w' ⟨rfl, ⟨nd, rfl⟩⟩; (try first | exact ⟨rfl, _, World.drewN_drewN _ _ _⟩ | exact ⟨rfl, _, Eq.trans (World.drewN_drewN _ _ _) (congrArg (World.drewN _) (Nat.add_assoc _ _ _))⟩)) | (go_at_call 7; (with_reducible refine (solve_Solve.calls k _ _ l0 _ _ l1 a2 a3 t182 t183 t184 _ ?side1 ?side2 ?side3 ?side4 A7.out).mono ?_); (case side1 => repeat (first | exact HR0.out | (with_reducible refine Kd.C_alloc ?_ _) | (with_reducible refine Kd.C_drewN ?_ _) | (with_reducible refine Kd.C_drew ?_))); (case side2 => exact HC0.out); (case side3 => repeat (first | exact HR1.out | (with_reducible refine Kd.C_alloc ?_ _) | (with_reducible refine Kd.C_drewN ?_ _) | (with_reducible refine Kd.C_drew ?_))); (case side4 => exact HC1.out); rintro e w65 ⟨v185, rfl, ho0, hb⟩; have n0_ := sd_ (Kd.R_lower ho0 (bz_ (by repeat first | exact HB.out | apply ba_ | apply pd_ | apply d1_))); have n1_ := sd_ (bt_ (by repeat first | exact HB.out | apply ba_ | apply pd_ | apply d1_) hb); clear HB; have HO186 := n0_; have HB := n1_; clear n0_ n1_; (try clear hb); (try clear hb2); (try clear hk); (try clear hi); (try clear ho0); obtain ⟨Ao66, co66, eo66⟩ := Kd.R_slice HO186.out; subst eo66) | (go_at_call 6; (with_reducible refine (neumelaw29_heads.calls k  t189 _ A64.out).mono ?_); rintro e w67 ⟨rfl, hb⟩; have n0_ := sd_ (Kd.R_below (by (with_reducible repeat (first | apply Kd.R_alloc | apply Kd.R_drewN | apply Kd.R_drew)); exact HO186.out) hb); have n1_ := sd_ (bt_ (by repeat first | exact HB.out | apply ba_ | apply pd_ | apply d1_) hb); clear HO186; clear HB; have HO186 := n0_; have HB := n1_; clear n0_ n1_; (try clear hb); (try clear hb2); (try clear hk); (try clear hi))); try go_wp2_with (first | (go_at_call 5; (with_reducible refine (neumelaw29_few.calls _ _ l0 _ _ l1 true _ ?side1 ?side2 ?side3 ?side4 A5.out).mono ?_); (case side1 => repeat (first | exact HR0.out | (with_reducible refine Kd.C_alloc ?_ _) | (with_reducible refine Kd.C_drewN ?_ _) | (with_reducible refine Kd.C_drew ?_))); (case side2 => exact HC0.out); (case side3 => repeat (first | exact HR1.out | (with_reducible refine Kd.C_alloc ?_ _) | (with_reducible refine Kd.C_drewN ?_ _) | (with_reducible refine Kd.C_drew ?_))); (case side4 => exact HC1.out); rintro e w' ⟨rfl, ⟨nd, rfl⟩⟩; (try first | exact ⟨rfl, _, World.drewN_drewN _ _ _⟩ | exact ⟨rfl, _, Eq.trans (World.drewN_drewN _ _ _) (congrArg (World.drewN _) (Nat.add_assoc _ _ _))⟩)) | (go_at_call 7; (with_reducible refine (solve_Solve.calls k _ _ l0 _ _ l1 a2 a3 t182 t183 t184 _ ?side1 ?side2 ?side3 ?side4 A7.out).mono ?_); (case side1 => repeat (first | exact HR0.out | (with_reducible refine Kd.C_alloc ?_ _) | (with_reducible refine Kd.C_drewN ?_ _) | (with_reducible refine Kd.C_drew ?_))); (case side2 => exact HC0.out); (case side3 => repeat (first | exact HR1.out | (with_reducible refine Kd.C_alloc ?_ _) | (with_reducible refine Kd.C_drewN ?_ _) | (with_reducible refine Kd.C_drew ?_))); (case side4 => exact HC1.out); rintro e w65 ⟨v185, rfl, ho0, hb⟩; have n0_ := sd_ (Kd.R_lower ho0 (bz_ (by repeat first | exact HB.out | apply ba_ | apply pd_ | apply d1_))); have n1_ := sd_ (bt_ (by repeat first | exact HB.out | apply ba_ | apply pd_ | apply d1_) hb); clear HB; have HO186 := n0_; have HB := n1_; clear n0_ n1_; (try clear hb); (try clear hb2); (try clear hk); (try clear hi); (try clear ho0); obtain ⟨Ao66, co66, eo66⟩ := Kd.R_slice HO186.out; subst eo66) | (go_at_call 6; (with_reducible refine (neumelaw29_heads.calls k  t189 _ A64.out).mono ?_); rintro e w67 ⟨rfl, hb⟩; have n0_ := sd_ (Kd.R_below (by (with_reducible repeat (first | apply Kd.R_alloc | apply Kd.R_drewN | apply Kd.R_drew)); exact HO186.out) hb); have n1_ := sd_ (bt_ (by repeat first | exact HB.out | apply ba_ | apply pd_ | apply d1_) hb); clear HO186; clear HB; have HO186 := n0_; have HB := n1_; clear n0_ n1_; (try clear hb); (try clear hb2); (try clear hk); (try clear hi))))
      go_ret
      exact ⟨by first | rfl | (simp [errW_none, errW_some] <;> rfl) | (simp [*, errW_none, errW_some] <;> rfl), by repeat first | exact HB.out | apply ba_ | apply pd_ | apply d1_⟩
    ·rw [if_neg c55] at H
     have c55b0 : (t183 == 0) = false := beq_eq_false_iff_ne.mpr c55
     have c55b1 : (t183 != 0) = true := bne_iff_ne.mpr c55
     exact absurd ((Option.some.inj H).trans hxt.out) (by decide)
   ·rw [if_neg c54] at H
    have c54b0 : ((t182.length : Int) == 0) = false := beq_eq_false_iff_ne.mpr c54
    have c54b1 : ((t182.length : Int) != 0) = true := bne_iff_ne.mpr c54
    have c54b2 : ¬ (t182 = []) := fun h_ => c54 (by rw [h_]; rfl)
    exact absurd ((Option.some.inj H).trans hxt.out) (by decide)
 ·replace c6 := bf_ c6
  subst c6
  have H1 : ((neumelaw29_heads.f k).bind fun t181 => (some t181)) = some r := by rw [if_neg (show ¬ (false = true) by decide)] at H; exact H
  clear H; have H := H1; clear H1
  replace H := ob_ H
  obtain ⟨t181, A680, H⟩ := H
  replace H : (some t181) = some r := H
  have A68 := sd_ A680
  clear A680
  obtain rfl := Option.some.inj H
  go_enter Try.func3, Try.ntmps3
  go_wp2_with (first | (go_at_call 5; (with_reducible refine (neumelaw29_few.calls _ _ l0 _ _ l1 false _ ?side1 ?side2 ?side3 ?side4 A5.out).mono ?_); (case side1 => repeat (first | exact HR0.out | (with_reducible refine Kd.C_alloc ?_ _) | (with_reducible refine Kd.C_drewN ?_ _) | (with_reducible refine Kd.C_drew ?_))); (case side2 => exact HC0.out); (case side3 => repeat (first | exact HR1.out | (with_reducible refine Kd.C_alloc ?_ _) | (with_reducible refine Kd.C_drewN ?_ _) | (with_reducible refine Kd.C_drew ?_))); (case side4 => exact HC1.out); rintro e w' ⟨rfl, ⟨nd, rfl⟩⟩; (try first | exact ⟨rfl, _, World.drewN_drewN _ _ _⟩ | exact ⟨rfl, _, Eq.trans (World.drewN_drewN _ _ _) (congrArg (World.drewN _) (Nat.add_assoc _ _ _))⟩)) | (go_at_call 6; (with_reducible refine (neumelaw29_heads.calls k  t181 _ A68.out).mono ?_); rintro e w69 ⟨rfl, hb⟩; have n0_ := sd_ (bt_ (by repeat first | exact HB.out | apply ba_ | apply pd_ | apply d1_) hb); clear HB; have HB := n0_; clear n0_; (try clear hb); (try clear hb2); (try clear hk); (try clear hi)))
  repeat (go_quiet (first | (go_at_call 5; (with_reducible refine (neumelaw29_few.calls _ _ l0 _ _ l1 false _ ?side1 ?side2 ?side3 ?side4 A5.out).mono ?_); (case side1 => repeat (first | exact HR0.out | (with_reducible refine Kd.C_alloc ?_ _) | (with_reducible refine Kd.C_drewN ?_ _) | (with_reducible refine Kd.C_drew ?_))); (case side2 => exact HC0.out); (case side3 => repeat (first | exact HR1.out | (with_reducible refine Kd.C_alloc ?_ _) | (with_reducible refine Kd.C_drewN ?_ _) | (with_reducible refine Kd.C_drew ?_))); (case side4 => exact HC1.out); rintro e w' ⟨rfl, ⟨nd, rfl⟩⟩; (try first | exact ⟨rfl, _, World.drewN_drewN _ _ _⟩ | exact ⟨rfl, _, Eq.trans (World.drewN_drewN _ _ _) (congrArg (World.drewN _) (Nat.add_assoc _ _ _))⟩)) | (go_at_call 6; (with_reducible refine (neumelaw29_heads.calls k  t181 _ A68.out).mono ?_); rintro e w69 ⟨rfl, hb⟩; have n0_ := sd_ (bt_ (by repeat first | exact HB.out | apply ba_ | apply pd_ | apply d1_) hb); clear HB; have HB := n0_; clear n0_; (try clear hb); (try clear hb2); (try clear hk); (try clear hi))); try go_wp2_with (first | (go_at_call 5; (with_reducible refine (neumelaw29_few.calls _ _ l0 _ _ l1 false _ ?side1 ?side2 ?side3 ?side4 A5.out).mono ?_); (case side1 => repeat (first | exact HR0.out | (with_reducible refine Kd.C_alloc ?_ _) | (with_reducible refine Kd.C_drewN ?_ _) | (with_reducible refine Kd.C_drew ?_))); (case side2 => exact HC0.out); (case side3 => repeat (first | exact HR1.out | (with_reducible refine Kd.C_alloc ?_ _) | (with_reducible refine Kd.C_drewN ?_ _) | (with_reducible refine Kd.C_drew ?_))); (case side4 => exact HC1.out); rintro e w' ⟨rfl, ⟨nd, rfl⟩⟩; (try first | exact ⟨rfl, _, World.drewN_drewN _ _ _⟩ | exact ⟨rfl, _, Eq.trans (World.drewN_drewN _ _ _) (congrArg (World.drewN _) (Nat.add_assoc _ _ _))⟩)) | (go_at_call 6; (with_reducible refine (neumelaw29_heads.calls k  t181 _ A68.out).mono ?_); rintro e w69 ⟨rfl, hb⟩; have n0_ := sd_ (bt_ (by repeat first | exact HB.out | apply ba_ | apply pd_ | apply d1_) hb); clear HB; have HB := n0_; clear n0_; (try clear hb); (try clear hb2); (try clear hk); (try clear hi))))
  go_ret
  exact ⟨by first | rfl | (simp [errW_none, errW_some] <;> rfl) | (simp [*, errW_none, errW_some] <;> rfl), by repeat first | exact HB.out | apply ba_ | apply pd_ | apply d1_⟩

end Go.Proofs.Ytipfgmflofdedaa.P
