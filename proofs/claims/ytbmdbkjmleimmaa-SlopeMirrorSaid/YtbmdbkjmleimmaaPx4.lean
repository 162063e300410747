-- Written by a program of this session (wip/tools/xprint.py, over the kit's print): Lean checks it.
import Derived.Test.YtbmdbkjmleimmaaPx0
import Derived.Test.YtbmdbkjmleimmaaPx2
import Derived.Test.YtbmdbkjmleimmaaPx3
namespace Go.Proofs.Ytbmdbkjmleimmaa.P
open Go.RowKit Go.Proofs.YtbmdbkjmleimmaaW.PrintWords Go.Proofs.YtbmdbkjmleimmaaW.PrintLast Go.Proofs.YtbmdbkjmleimmaaW.PrintMore
attribute [local go_sem] max2_int min2_int max_two min_two max_three min_three max_four min_four   -- for this text's walks alone
set_option linter.unusedVariables false
set_option linter.unusedSimpArgs false

/-! ### neumelaw19_SlopeShort: function 3 -/
mutual
def neumelaw19_SlopeShort.j0 : Nat → List Int → List Int → Bool → Bool → Option (Bool)
 | 0, _, _, _, _ => none
 | k + 1, x0, x1, x2, x21 => if x21 = true then ((neumelaw19_heads.f k).bind fun t166 => (some t166)) else ((slope_Fit.f k x0 x1 x2).bind fun bt167 => (if bt167.2 = 0 then (if (bt167.1.length : Int) = (x1.length : Int) then (if (bt167.1.length : Int) = (x0.length : Int) then (neumelaw19_SlopeShort.j1 k x0 x1 x2 bt167.1 (bt167.1.length : Int) (decide ((bt167.1.length : Int) < 2))) else (neumelaw19_SlopeShort.j1 k x0 x1 x2 bt167.1 (bt167.1.length : Int) true)) else (neumelaw19_SlopeShort.j1 k x0 x1 x2 bt167.1 (bt167.1.length : Int) true)) else (if (bt167.1.length : Int) = 0 then ((neumelaw19_heads.f k).bind fun t171 => (some t171)) else (some false))))
def neumelaw19_SlopeShort.j1 : Nat → List Int → List Int → Bool → List Int → Int → Bool → Option (Bool)
 | 0, _, _, _, _, _, _ => none
 | k + 1, x0, x1, x2, x7, x9, x53 => if x53 = true then (some false) else (neumelaw19_SlopeShort.l0 k x0 x1 x2 x7 x9 0)
def neumelaw19_SlopeShort.l0 : Nat → List Int → List Int → Bool → List Int → Int → Int → Option (Bool)
 | 0, _, _, _, _, _, _ => none
 | k + 1, x0, x1, x2, x7, x9, x10 => if x10 < x9 then (if 0 ≤ x10 then (if x10 < (x7.length : Int) then (if x10 < (x1.length : Int) then (if x2 = true then (neumelaw19_SlopeShort.j3 k x0 x1 x2 x7 x9 x10 (wrap64 ((rd x7 x10) - (rd x1 x10)))) else (neumelaw19_SlopeShort.j3 k x0 x1 x2 x7 x9 x10 (wrap64 (-(wrap64 ((rd x7 x10) - (rd x1 x10))))))) else (none)) else (none)) else (none)) else (if 0 ≤ (wrap64 (x9 - 1)) then (if (wrap64 (x9 - 1)) < (x7.length : Int) then (if 0 < (x7.length : Int) then (if (wrap64 ((rd x7 (wrap64 (x9 - 1))) - (rd x7 0))) ≤ 1024 then (if (wrap64 ((rd x7 (wrap64 (x9 - 1))) - (rd x7 0))) ≥ (-1024) then (if (Int.tmod (wrap64 ((rd x7 (wrap64 (x9 - 1))) - (rd x7 0))) 256) = 0 then (if (Int.tmod (rd x7 0) 256) = 0 then ((neumelaw19_heads.f k).bind fun t175 => (some t175)) else (some false)) else (some false)) else (some false)) else (some false)) else (none)) else (none)) else (none))
def neumelaw19_SlopeShort.j3 : Nat → List Int → List Int → Bool → List Int → Int → Int → Int → Option (Bool)
 | 0, _, _, _, _, _, _, _ => none
 | k + 1, x0, x1, x2, x7, x9, x10, x11 => if x11 < (-1024) then (neumelaw19_SlopeShort.j4 k x0 x1 x2 x7 x9 x10 true) else (if x10 = 0 then (neumelaw19_SlopeShort.j4 k x0 x1 x2 x7 x9 x10 (decide (x11 < (-512)))) else (neumelaw19_SlopeShort.j4 k x0 x1 x2 x7 x9 x10 false))
def neumelaw19_SlopeShort.j4 : Nat → List Int → List Int → Bool → List Int → Int → Int → Bool → Option (Bool)
 | 0, _, _, _, _, _, _, _ => none
 | k + 1, x0, x1, x2, x7, x9, x10, x81 => if x81 = true then (some false) else (if 0 ≤ x10 then (if x10 < (x7.length : Int) then (if 0 < (x7.length : Int) then (if 0 ≤ (wrap64 (x9 - 1)) then (if (wrap64 (x9 - 1)) < (x0.length : Int) then (if 0 < (x0.length : Int) then (if (wrap64 (x9 - 1)) < (x7.length : Int) then (if x10 < (x0.length : Int) then (if (wrap64 ((wrap64 ((wrap64 ((rd x7 x10) - (rd x7 0))) * (wrap64 ((rd x0 (wrap64 (x9 - 1))) - (rd x0 0))))) - (wrap64 ((wrap64 ((rd x7 (wrap64 (x9 - 1))) - (rd x7 0))) * (wrap64 ((rd x0 x10) - (rd x0 0))))))) > (wrap64 ((rd x0 (wrap64 (x9 - 1))) - (rd x0 0))) then (some false) else (if (wrap64 ((wrap64 ((wrap64 ((rd x7 x10) - (rd x7 0))) * (wrap64 ((rd x0 (wrap64 (x9 - 1))) - (rd x0 0))))) - (wrap64 ((wrap64 ((rd x7 (wrap64 (x9 - 1))) - (rd x7 0))) * (wrap64 ((rd x0 x10) - (rd x0 0))))))) < (wrap64 ((rd x0 0) - (rd x0 (wrap64 (x9 - 1))))) then (some false) else (neumelaw19_SlopeShort.l0 k x0 x1 x2 x7 x9 (wrap64 (x10 + 1))))) else (none)) else (none)) else (none)) else (none)) else (none)) else (none)) else (none)) else (none))
end
def neumelaw19_SlopeShort.f (k : Nat) (l0 : List Int) (l1 : List Int) (a2 : Bool) : Option (Bool) := if (l0.length : Int) > 400 then (neumelaw19_SlopeShort.j0 k l0 l1 a2 true) else (neumelaw19_SlopeShort.j0 k l0 l1 a2 (decide ((l1.length : Int) > 400)))
theorem neumelaw19_SlopeShort.mono_l : ∀ k, (∀ y0 y1 y2 y3, LeO (neumelaw19_SlopeShort.j0 k y0 y1 y2 y3) (neumelaw19_SlopeShort.j0 (k + 1) y0 y1 y2 y3)) ∧ (∀ y0 y1 y2 y3 y4 y5, LeO (neumelaw19_SlopeShort.j1 k y0 y1 y2 y3 y4 y5) (neumelaw19_SlopeShort.j1 (k + 1) y0 y1 y2 y3 y4 y5)) ∧ (∀ y0 y1 y2 y3 y4 y5, LeO (neumelaw19_SlopeShort.l0 k y0 y1 y2 y3 y4 y5) (neumelaw19_SlopeShort.l0 (k + 1) y0 y1 y2 y3 y4 y5)) ∧ (∀ y0 y1 y2 y3 y4 y5 y6, LeO (neumelaw19_SlopeShort.j3 k y0 y1 y2 y3 y4 y5 y6) (neumelaw19_SlopeShort.j3 (k + 1) y0 y1 y2 y3 y4 y5 y6)) ∧ (∀ y0 y1 y2 y3 y4 y5 y6, LeO (neumelaw19_SlopeShort.j4 k y0 y1 y2 y3 y4 y5 y6) (neumelaw19_SlopeShort.j4 (k + 1) y0 y1 y2 y3 y4 y5 y6))
 | 0 => ⟨fun _ _ _ _ r h => by simp [neumelaw19_SlopeShort.j0] at h, fun _ _ _ _ _ _ r h => by simp [neumelaw19_SlopeShort.j1] at h, fun _ _ _ _ _ _ r h => by simp [neumelaw19_SlopeShort.l0] at h, fun _ _ _ _ _ _ _ r h => by simp [neumelaw19_SlopeShort.j3] at h, fun _ _ _ _ _ _ _ r h => by simp [neumelaw19_SlopeShort.j4] at h⟩
 | k + 1 => by
  obtain ⟨ih0, ih1, ih2, ih3, ih4⟩ := neumelaw19_SlopeShort.mono_l k
  refine ⟨?_, ?_, ?_, ?_, ?_⟩
  ·intro y0 y1 y2 y3
   unfold neumelaw19_SlopeShort.j0
   repeat' first
   | (with_reducible exact ih0 _ _ _ _)
   | (with_reducible exact ih1 _ _ _ _ _ _)
   | (with_reducible exact ih2 _ _ _ _ _ _)
   | (with_reducible exact ih3 _ _ _ _ _ _ _)
   | (with_reducible exact ih4 _ _ _ _ _ _ _)
   | (with_reducible exact neumelaw19_heads.mono _)
   | (with_reducible exact slope_Fit.mono _ _ _ _)
   | (with_reducible exact LeO.refl _)
   | (with_reducible exact LeO.none _)
   | (with_reducible refine LeO.ite ?_ ?_)
   | (with_reducible refine LeO.bind ?_ (fun _ => ?_))
   | exact ih0 _ _ _ _
   | exact ih1 _ _ _ _ _ _
   | exact ih2 _ _ _ _ _ _
   | exact ih3 _ _ _ _ _ _ _
   | exact ih4 _ _ _ _ _ _ _
   | exact neumelaw19_heads.mono _
   | exact slope_Fit.mono _ _ _ _
   | exact LeO.none _
   | refine LeO.ite ?_ ?_
   | refine LeO.bind ?_ (fun _ => ?_)
  ·intro y0 y1 y2 y3 y4 y5
   unfold neumelaw19_SlopeShort.j1
   repeat' first
   | (with_reducible exact ih0 _ _ _ _)
   | (with_reducible exact ih1 _ _ _ _ _ _)
   | (with_reducible exact ih2 _ _ _ _ _ _)
   | (with_reducible exact ih3 _ _ _ _ _ _ _)
   | (with_reducible exact ih4 _ _ _ _ _ _ _)
   | (with_reducible exact neumelaw19_heads.mono _)
   | (with_reducible exact slope_Fit.mono _ _ _ _)
   | (with_reducible exact LeO.refl _)
   | (with_reducible exact LeO.none _)
   | (with_reducible refine LeO.ite ?_ ?_)
   | (with_reducible refine LeO.bind ?_ (fun _ => ?_))
   | exact ih0 _ _ _ _
   | exact ih1 _ _ _ _ _ _
   | exact ih2 _ _ _ _ _ _
   | exact ih3 _ _ _ _ _ _ _
   | exact ih4 _ _ _ _ _ _ _
   | exact neumelaw19_heads.mono _
   | exact slope_Fit.mono _ _ _ _
   | exact LeO.none _
   | refine LeO.ite ?_ ?_
   | refine LeO.bind ?_ (fun _ => ?_)
  ·intro y0 y1 y2 y3 y4 y5
   unfold neumelaw19_SlopeShort.l0
   repeat' first
   | (with_reducible exact ih0 _ _ _ _)
   | (with_reducible exact ih1 _ _ _ _ _ _)
   | (with_reducible exact ih2 _ _ _ _ _ _)
   | (with_reducible exact ih3 _ _ _ _ _ _ _)
   | (with_reducible exact ih4 _ _ _ _ _ _ _)
   | (with_reducible exact neumelaw19_heads.mono _)
   | (with_reducible exact slope_Fit.mono _ _ _ _)
   | (with_reducible exact LeO.refl _)
   | (with_reducible exact LeO.none _)
   | (with_reducible refine LeO.ite ?_ ?_)
   | (with_reducible refine LeO.bind ?_ (fun _ => ?_))
   | exact ih0 _ _ _ _
   | exact ih1 _ _ _ _ _ _
   | exact ih2 _ _ _ _ _ _
   | exact ih3 _ _ _ _ _ _ _
   | exact ih4 _ _ _ _ _ _ _
   | exact neumelaw19_heads.mono _
   | exact slope_Fit.mono _ _ _ _
   | exact LeO.none _
   | refine LeO.ite ?_ ?_
   | refine LeO.bind ?_ (fun _ => ?_)
  ·intro y0 y1 y2 y3 y4 y5 y6
   unfold neumelaw19_SlopeShort.j3
   repeat' first
   | (with_reducible exact ih0 _ _ _ _)
   | (with_reducible exact ih1 _ _ _ _ _ _)
   | (with_reducible exact ih2 _ _ _ _ _ _)
   | (with_reducible exact ih3 _ _ _ _ _ _ _)
   | (with_reducible exact ih4 _ _ _ _ _ _ _)
   | (with_reducible exact neumelaw19_heads.mono _)
   | (with_reducible exact slope_Fit.mono _ _ _ _)
   | (with_reducible exact LeO.refl _)
   | (with_reducible exact LeO.none _)
   | (with_reducible refine LeO.ite ?_ ?_)
   | (with_reducible refine LeO.bind ?_ (fun _ => ?_))
   | exact ih0 _ _ _ _
   | exact ih1 _ _ _ _ _ _
   | exact ih2 _ _ _ _ _ _
   | exact ih3 _ _ _ _ _ _ _
   | exact ih4 _ _ _ _ _ _ _
   | exact neumelaw19_heads.mono _
   | exact slope_Fit.mono _ _ _ _
   | exact LeO.none _
   | refine LeO.ite ?_ ?_
   | refine LeO.bind ?_ (fun _ => ?_)
  ·intro y0 y1 y2 y3 y4 y5 y6
   unfold neumelaw19_SlopeShort.j4
   repeat' first
   | (with_reducible exact ih0 _ _ _ _)
   | (with_reducible exact ih1 _ _ _ _ _ _)
   | (with_reducible exact ih2 _ _ _ _ _ _)
   | (with_reducible exact ih3 _ _ _ _ _ _ _)
   | (with_reducible exact ih4 _ _ _ _ _ _ _)
   | (with_reducible exact neumelaw19_heads.mono _)
   | (with_reducible exact slope_Fit.mono _ _ _ _)
   | (with_reducible exact LeO.refl _)
   | (with_reducible exact LeO.none _)
   | (with_reducible refine LeO.ite ?_ ?_)
   | (with_reducible refine LeO.bind ?_ (fun _ => ?_))
   | exact ih0 _ _ _ _
   | exact ih1 _ _ _ _ _ _
   | exact ih2 _ _ _ _ _ _
   | exact ih3 _ _ _ _ _ _ _
   | exact ih4 _ _ _ _ _ _ _
   | exact neumelaw19_heads.mono _
   | exact slope_Fit.mono _ _ _ _
   | exact LeO.none _
   | refine LeO.ite ?_ ?_
   | refine LeO.bind ?_ (fun _ => ?_)
theorem neumelaw19_SlopeShort.mono : ∀ a0 a1 a2 k, LeO (neumelaw19_SlopeShort.f k a0 a1 a2) (neumelaw19_SlopeShort.f (k + 1) a0 a1 a2) := by
 intro a0 a1 a2 k
 obtain ⟨ih0, ih1, ih2, ih3, ih4⟩ := neumelaw19_SlopeShort.mono_l k
 unfold neumelaw19_SlopeShort.f
 repeat' first
   | (with_reducible exact ih0 _ _ _ _)
   | (with_reducible exact ih1 _ _ _ _ _ _)
   | (with_reducible exact ih2 _ _ _ _ _ _)
   | (with_reducible exact ih3 _ _ _ _ _ _ _)
   | (with_reducible exact ih4 _ _ _ _ _ _ _)
   | (with_reducible exact neumelaw19_heads.mono _)
   | (with_reducible exact slope_Fit.mono _ _ _ _)
   | (with_reducible exact LeO.refl _)
   | (with_reducible exact LeO.none _)
   | (with_reducible refine LeO.ite ?_ ?_)
   | (with_reducible refine LeO.bind ?_ (fun _ => ?_))
   | exact ih0 _ _ _ _
   | exact ih1 _ _ _ _ _ _
   | exact ih2 _ _ _ _ _ _
   | exact ih3 _ _ _ _ _ _ _
   | exact ih4 _ _ _ _ _ _ _
   | exact neumelaw19_heads.mono _
   | exact slope_Fit.mono _ _ _ _
   | exact LeO.none _
   | refine LeO.ite ?_ ?_
   | refine LeO.bind ?_ (fun _ => ?_)
set_option maxHeartbeats 8000000 in
set_option maxRecDepth 100000 in
theorem neumelaw19_SlopeShort.calls (k : Nat) (A0 : Option Addr) (c0 : Nat) (l0 : List Int) (A1 : Option Addr) (c1 : Nat) (l1 : List Int) (a2 : Bool) (r : Bool) (w : World) (hr0 : Kd.C (Kd.int .i64) w A0 l0.length l0) (hc0 : l0.length ≤ c0) (hr1 : Kd.C (Kd.int .i64) w A1 l1.length l1) (hc1 : l1.length ≤ c1) (h : neumelaw19_SlopeShort.f k l0 l1 a2 = some r) :
  Calls Try.prog 3 #[.slice A0 l0.length c0, .slice A1 l1.length c1, .bool a2] w fun e w' => e = .returned (.bool r) ∧ Below w.heap.size w w' := by
 have HR0 := sd_ hr0
 have HC0 := sd_ hc0
 clear hr0 hc0
 have HR1 := sd_ hr1
 have HC1 := sd_ hc1
 clear hr1 hc1
 have HB := sd_ (Below.refl w.heap.size w)
 have H : (if (l0.length : Int) > 400 then (neumelaw19_SlopeShort.j0 k l0 l1 a2 true) else (neumelaw19_SlopeShort.j0 k l0 l1 a2 (decide ((l1.length : Int) > 400)))) = some r := h
 clear h
 have HC4 := sd_ H
 clear H
 go_enter Try.func3, Try.ntmps3
 go_upto_region 1 with (fail)
 repeat (go_quiet (fail); go_upto_region 1 with (fail))
 go_cut [21] (fun v21 wc => ∃ (kq : Nat) (x21_3 : Bool), v21 = .bool x21_3 ∧ Aside0 (neumelaw19_SlopeShort.j0 kq l0 l1 a2 x21_3 = some r) ∧ Aside0 (kq ≤ k) ∧ Aside0 (Below w.heap.size w wc))
 case first =>
  have H := HC4.out
  clear HC4
  by_cases c5 : (l0.length : Int) > 400
  ·rw [if_pos c5] at H
   have c5b0 : decide (400 < (l0.length : Int)) = true := dt_ c5
   have c5b1 : decide (400 < l0.length) = true := dt_ (by omega)
   clear c5
   (first | rw [c5b0] | (simp only [i64_w, i32_w]; rw [c5b0]) | skip)
   have H' := sd_ H
   clear H
   go_wp2
   repeat (go_quiet (fail); try go_wp2)
   go_meet
   case rel => exact ⟨_, (true), (by first | rfl | (simp; done) | (simp [*]; done)), H', ⟨by first | omega | exact Nat.le_refl _⟩, ⟨by repeat first | exact HB.out | apply ba_ | apply pd_ | apply d1_⟩⟩
  ·rw [if_neg c5] at H
   have c5b0 : decide (400 < (l0.length : Int)) = false := df_ c5
   have c5b1 : decide (400 < l0.length) = false := df_ (by omega)
   clear c5
   (first | rw [c5b0] | (simp only [i64_w, i32_w]; rw [c5b0]) | skip)
   have H' := sd_ H
   clear H
   go_wp2
   repeat (go_quiet (fail); try go_wp2)
   go_meet
   case rel => exact ⟨_, (decide ((l1.length : Int) > 400)), (by first | rfl | (simp; done) | (simp [*]; done)), H', ⟨by first | omega | exact Nat.le_refl _⟩, ⟨by repeat first | exact HB.out | apply ba_ | apply pd_ | apply d1_⟩⟩
 case rest =>
  clear HC4
  try clear c1; try clear p2; try clear c3; try clear c5; try clear c5b0; try clear c5b1
  obtain ⟨kq, x21_3, rfl, HA, HJ3, HB⟩ := hcut
  cases kq with
  | zero => exact absurd HA.out (by simp [neumelaw19_SlopeShort.j0])
  | succ kj3 =>
   have H := HA.out
   clear HA
   simp only [neumelaw19_SlopeShort.j0] at H
   by_cases c6 : x21_3 = true
   ·subst c6
    have H1 : ((neumelaw19_heads.f kj3).bind fun t166 => (some t166)) = some r := by rw [if_pos rfl] at H; exact H
    clear H; have H := H1; clear H1
    replace H := ob_ H
    obtain ⟨t166, A70, H⟩ := H
    replace H : (some t166) = some r := H
    have A7 := sd_ A70
    clear A70
    obtain rfl := Option.some.inj H
    go_wp2_with (first | (go_at_call 6; (with_reducible refine (neumelaw19_heads.calls kj3  t166 _ A7.out).mono ?_); rintro e w8 ⟨rfl, hb⟩; have n0_ := sd_ (bt_ (by repeat first | exact HB.out | apply ba_ | apply pd_ | apply d1_) hb); clear HB; have HB := n0_; clear n0_; (try clear hb); (try clear hb2); (try clear hk); (try clear hi)))
    repeat (go_quiet (first | (go_at_call 6; (with_reducible refine (neumelaw19_heads.calls kj3  t166 _ A7.out).mono ?_); rintro e w8 ⟨rfl, hb⟩; have n0_ := sd_ (bt_ (by repeat first | exact HB.out | apply ba_ | apply pd_ | apply d1_) hb); clear HB; have HB := n0_; clear n0_; (try clear hb); (try clear hb2); (try clear hk); (try clear hi))); try go_wp2_with (first | (go_at_call 6; (with_reducible refine (neumelaw19_heads.calls kj3  t166 _ A7.out).mono ?_); rintro e w8 ⟨rfl, hb⟩; have n0_ := sd_ (bt_ (by repeat first | exact HB.out | apply ba_ | apply pd_ | apply d1_) hb); clear HB; have HB := n0_; clear n0_; (try clear hb); (try clear hb2); (try clear hk); (try clear hi))))
    go_ret
    exact ⟨by first | rfl | (simp [errW_none, errW_some] <;> rfl) | (simp [*, errW_none, errW_some] <;> rfl), by repeat first | exact HB.out | apply ba_ | apply pd_ | apply d1_⟩
   ·replace c6 := bf_ c6
    subst c6
    have H1 : ((slope_Fit.f kj3 l0 l1 a2).bind fun bt167 => (if bt167.2 = 0 then (if (bt167.1.length : Int) = (l1.length : Int) then (if (bt167.1.length : Int) = (l0.length : Int) then (neumelaw19_SlopeShort.j1 kj3 l0 l1 a2 bt167.1 (bt167.1.length : Int) (decide ((bt167.1.length : Int) < 2))) else (neumelaw19_SlopeShort.j1 kj3 l0 l1 a2 bt167.1 (bt167.1.length : Int) true)) else (neumelaw19_SlopeShort.j1 kj3 l0 l1 a2 bt167.1 (bt167.1.length : Int) true)) else (if (bt167.1.length : Int) = 0 then ((neumelaw19_heads.f kj3).bind fun t171 => (some t171)) else (some false)))) = some r := by rw [if_neg (show ¬ (false = true) by decide)] at H; exact H
    clear H; have H := H1; clear H1
    replace H := ob_ H
    obtain ⟨⟨t167, t168⟩, A90, H⟩ := H
    replace H : (if t168 = 0 then (if (t167.length : Int) = (l1.length : Int) then (if (t167.length : Int) = (l0.length : Int) then (neumelaw19_SlopeShort.j1 kj3 l0 l1 a2 t167 (t167.length : Int) (decide ((t167.length : Int) < 2))) else (neumelaw19_SlopeShort.j1 kj3 l0 l1 a2 t167 (t167.length : Int) true)) else (neumelaw19_SlopeShort.j1 kj3 l0 l1 a2 t167 (t167.length : Int) true)) else (if (t167.length : Int) = 0 then ((neumelaw19_heads.f kj3).bind fun t171 => (some t171)) else (some false))) = some r := H
    have A9 := sd_ A90
    clear A90
    by_cases c10 : t168 = 0
    ·rw [if_pos c10] at H
     have c10b0 : (t168 == 0) = true := beq_iff_eq.mpr c10
     have c10b1 : (t168 != 0) = false := bne_eq_false_iff_eq.mpr c10
     clear c10
     have HC11 := sd_ H
     clear H
     go_upto_region 7 with (first | (go_at_call 7; (with_reducible refine (slope_Fit.calls kj3 _ _ l0 _ _ l1 a2 t167 t168 _ ?side1 ?side2 ?side3 ?side4 A9.out).mono ?_); (case side1 => repeat (first | exact (Kd.C_below HR0.out HB.out) | (with_reducible refine Kd.C_alloc ?_ _) | (with_reducible refine Kd.C_drewN ?_ _) | (with_reducible refine Kd.C_drew ?_))); (case side2 => exact HC0.out); (case side3 => repeat (first | exact (Kd.C_below HR1.out HB.out) | (with_reducible refine Kd.C_alloc ?_ _) | (with_reducible refine Kd.C_drewN ?_ _) | (with_reducible refine Kd.C_drew ?_))); (case side4 => exact HC1.out); rintro e w12 ⟨v169, rfl, ho0, hb⟩; have n0_ := sd_ (Kd.R_lower ho0 (bz_ (by repeat first | exact HB.out | apply ba_ | apply pd_ | apply d1_))); have n1_ := sd_ (bt_ (by repeat first | exact HB.out | apply ba_ | apply pd_ | apply d1_) hb); clear HB; have HO170 := n0_; have HB := n1_; clear n0_ n1_; (try clear hb); (try clear hb2); (try clear hk); (try clear hi); (try clear ho0); obtain ⟨Ao13, co13, eo13⟩ := Kd.R_slice HO170.out; subst eo13))
     repeat (go_quiet (first | (go_at_call 7; (with_reducible refine (slope_Fit.calls kj3 _ _ l0 _ _ l1 a2 t167 t168 _ ?side1 ?side2 ?side3 ?side4 A9.out).mono ?_); (case side1 => repeat (first | exact (Kd.C_below HR0.out HB.out) | (with_reducible refine Kd.C_alloc ?_ _) | (with_reducible refine Kd.C_drewN ?_ _) | (with_reducible refine Kd.C_drew ?_))); (case side2 => exact HC0.out); (case side3 => repeat (first | exact (Kd.C_below HR1.out HB.out) | (with_reducible refine Kd.C_alloc ?_ _) | (with_reducible refine Kd.C_drewN ?_ _) | (with_reducible refine Kd.C_drew ?_))); (case side4 => exact HC1.out); rintro e w12 ⟨v169, rfl, ho0, hb⟩; have n0_ := sd_ (Kd.R_lower ho0 (bz_ (by repeat first | exact HB.out | apply ba_ | apply pd_ | apply d1_))); have n1_ := sd_ (bt_ (by repeat first | exact HB.out | apply ba_ | apply pd_ | apply d1_) hb); clear HB; have HO170 := n0_; have HB := n1_; clear n0_ n1_; (try clear hb); (try clear hb2); (try clear hk); (try clear hi); (try clear ho0); obtain ⟨Ao13, co13, eo13⟩ := Kd.R_slice HO170.out; subst eo13)); go_upto_region 7 with (first | (go_at_call 7; (with_reducible refine (slope_Fit.calls kj3 _ _ l0 _ _ l1 a2 t167 t168 _ ?side1 ?side2 ?side3 ?side4 A9.out).mono ?_); (case side1 => repeat (first | exact (Kd.C_below HR0.out HB.out) | (with_reducible refine Kd.C_alloc ?_ _) | (with_reducible refine Kd.C_drewN ?_ _) | (with_reducible refine Kd.C_drew ?_))); (case side2 => exact HC0.out); (case side3 => repeat (first | exact (Kd.C_below HR1.out HB.out) | (with_reducible refine Kd.C_alloc ?_ _) | (with_reducible refine Kd.C_drewN ?_ _) | (with_reducible refine Kd.C_drew ?_))); (case side4 => exact HC1.out); rintro e w12 ⟨v169, rfl, ho0, hb⟩; have n0_ := sd_ (Kd.R_lower ho0 (bz_ (by repeat first | exact HB.out | apply ba_ | apply pd_ | apply d1_))); have n1_ := sd_ (bt_ (by repeat first | exact HB.out | apply ba_ | apply pd_ | apply d1_) hb); clear HB; have HO170 := n0_; have HB := n1_; clear n0_ n1_; (try clear hb); (try clear hb2); (try clear hk); (try clear hi); (try clear ho0); obtain ⟨Ao13, co13, eo13⟩ := Kd.R_slice HO170.out; subst eo13)))
     (try simp only [Act.put, List.setIfInBounds_toArray, lz_, List.set_cons_succ])
     go_cut [53] (fun v53 wc => ∃ (kq : Nat) (x53_10 : Bool), v53 = .bool x53_10 ∧ Aside0 (neumelaw19_SlopeShort.j1 kq l0 l1 a2 t167 (t167.length : Int) x53_10 = some r) ∧ Aside0 (kq ≤ kj3) ∧ Aside0 (Kd.R (Kd.int .i64) 3 wc w.heap.size (fun _ => True) (.slice Ao13 t167.length co13) t167) ∧ Aside0 (Below w.heap.size w wc))
     case first =>
      have H := HC11.out
      clear HC11
      by_cases c14 : (t167.length : Int) = (l1.length : Int)
      ·rw [if_pos c14] at H
       have c14b0 : ((t167.length : Int) == (l1.length : Int)) = true := beq_iff_eq.mpr c14
       have c14b1 : ((t167.length : Int) != (l1.length : Int)) = false := bne_eq_false_iff_eq.mpr c14
       have c14b2 : (t167.length == l1.length) = true := by first | simpa using c14 | (simp at c14 ⊢; omega)
       clear c14
       (first | rw [c14b0] | (simp only [i64_w, i32_w]; rw [c14b0]) | skip)
       by_cases c15 : (t167.length : Int) = (l0.length : Int)
       ·rw [if_pos c15] at H
        have c15b0 : ((t167.length : Int) == (l0.length : Int)) = true := beq_iff_eq.mpr c15
        have c15b1 : ((t167.length : Int) != (l0.length : Int)) = false := bne_eq_false_iff_eq.mpr c15
        have c15b2 : (t167.length == l0.length) = true := by first | simpa using c15 | (simp at c15 ⊢; omega)
        clear c15
        have H' := sd_ H
        clear H
        go_wp2
        repeat (go_quiet (fail); try go_wp2)
        go_meet
        case rel => exact ⟨_, (decide ((t167.length : Int) < 2)), (by first | rfl | (simp; done) | (simp [*]; done)), H', ⟨by have := HJ3.out; first | omega | exact Nat.le_refl _⟩, ⟨by (with_reducible repeat (first | apply Kd.R_alloc | apply Kd.R_drewN | apply Kd.R_drew)); exact HO170.out⟩, ⟨by repeat first | exact HB.out | apply ba_ | apply pd_ | apply d1_⟩⟩
       ·rw [if_neg c15] at H
        have c15b0 : ((t167.length : Int) == (l0.length : Int)) = false := beq_eq_false_iff_ne.mpr c15
        have c15b1 : ((t167.length : Int) != (l0.length : Int)) = true := bne_iff_ne.mpr c15
        have c15b2 : (t167.length == l0.length) = false := by first | simpa using c15 | (simp at c15 ⊢; omega)
        have H' := sd_ H
        clear H
        go_wp2
        repeat (go_quiet (fail); try go_wp2)
        go_meet
        case rel => exact ⟨_, (true), (by first | rfl | (simp; done) | (simp [*]; done)), H', ⟨by have := HJ3.out; first | omega | exact Nat.le_refl _⟩, ⟨by (with_reducible repeat (first | apply Kd.R_alloc | apply Kd.R_drewN | apply Kd.R_drew)); exact HO170.out⟩, ⟨by repeat first | exact HB.out | apply ba_ | apply pd_ | apply d1_⟩⟩
      ·rw [if_neg c14] at H
       have c14b0 : ((t167.length : Int) == (l1.length : Int)) = false := beq_eq_false_iff_ne.mpr c14
       have c14b1 : ((t167.length : Int) != (l1.length : Int)) = true := bne_iff_ne.mpr c14
       have c14b2 : (t167.length == l1.length) = false := by first | simpa using c14 | (simp at c14 ⊢; omega)
       (first | rw [c14b0] | (simp only [i64_w, i32_w]; rw [c14b0]) | skip)
       have H' := sd_ H
       clear H
       go_wp2
       repeat (go_quiet (fail); try go_wp2)
       go_meet
       case rel => exact ⟨_, (true), (by first | rfl | (simp; done) | (simp [*]; done)), H', ⟨by have := HJ3.out; first | omega | exact Nat.le_refl _⟩, ⟨by (with_reducible repeat (first | apply Kd.R_alloc | apply Kd.R_drewN | apply Kd.R_drew)); exact HO170.out⟩, ⟨by repeat first | exact HB.out | apply ba_ | apply pd_ | apply d1_⟩⟩
     case rest =>
      clear HC11
      try clear c1; try clear p2; try clear c3; try clear c5; try clear c5b0; try clear c5b1; try clear c6; try clear c10; try clear c10b0; try clear c10b1; try clear c14; try clear c14b0; try clear c14b1; try clear c14b2; try clear c15; try clear c15b0; try clear c15b1; try clear c15b2; try clear p2
      obtain ⟨kq, x53_10, rfl, HA, HJ10, HO_7, HB⟩ := hcut
      cases kq with
      | zero => exact absurd HA.out (by simp [neumelaw19_SlopeShort.j1])
      | succ kj10 =>
       have H := HA.out
       clear HA
       simp only [neumelaw19_SlopeShort.j1] at H
       by_cases c16 : x53_10 = true
       ·subst c16
        have H1 : (some false) = some r := by rw [if_pos rfl] at H; exact H
        clear H; have H := H1; clear H1
        obtain rfl := Option.some.inj H
        go_wp2
        repeat (go_quiet (fail); try go_wp2)
        go_ret
        exact ⟨by first | rfl | (simp [errW_none, errW_some] <;> rfl) | (simp [*, errW_none, errW_some] <;> rfl), by repeat first | exact HB.out | apply ba_ | apply pd_ | apply d1_⟩
       ·replace c16 := bf_ c16
        subst c16
        have H1 : (neumelaw19_SlopeShort.l0 kj10 l0 l1 a2 t167 (t167.length : Int) 0) = some r := by rw [if_neg (show ¬ (false = true) by decide)] at H; exact H
        clear H; have H := H1; clear H1
        have H' := sd_ H
        clear H
        go_wp2
        repeat (go_quiet (fail); try go_wp2)
        go_loopg [10] kj10 (fun kq v10 w' => ∃ (x10_3 : Int), v10 = .int .i64 x10_3 ∧ Aside0 (neumelaw19_SlopeShort.l0 kq l0 l1 a2 t167 (t167.length : Int) x10_3 = some r) ∧ Aside0 (kq ≤ kj10) ∧ Aside0 (Kd.R (Kd.int .i64) 3 w' w.heap.size (fun _ => True) (.slice Ao13 t167.length co13) t167) ∧ Aside0 (Below w.heap.size w w'))
        case atStart => exact ⟨(0), (by first | rfl | (simp; done) | (simp [*]; done)), H', ⟨Nat.le_refl _⟩, ⟨by (with_reducible repeat (first | apply Kd.R_alloc | apply Kd.R_drewN | apply Kd.R_drew)); exact HO_7.out⟩, ⟨by repeat first | exact HB.out | apply ba_ | apply pd_ | apply d1_⟩⟩
        case round =>
         clear H'
         try clear c1; try clear p2; try clear c3; try clear c5; try clear c5b0; try clear c5b1; try clear c6; try clear c10; try clear c10b0; try clear c10b1; try clear c14; try clear c14b0; try clear c14b1; try clear c14b2; try clear c15; try clear c15b0; try clear c15b1; try clear c15b2; try clear c16; try clear p2
         obtain ⟨x10_3, rfl, HA, HK3, HO_7, HB⟩ := hrel
         cases gk with
         | zero => exact absurd HA.out (by simp [neumelaw19_SlopeShort.l0])
         | succ k3 =>
          have H := HA.out
          clear HA
          simp only [neumelaw19_SlopeShort.l0] at H
          by_cases c17 : x10_3 < (t167.length : Int)
          ·rw [if_pos c17] at H
           have c17b0 : decide (x10_3 < (t167.length : Int)) = true := dt_ c17
           clear c17
           by_cases c18 : 0 ≤ x10_3
           ·rw [if_pos c18] at H
            have c18b0 : decide (0 ≤ x10_3) = true := dt_ c18
            clear c18
            by_cases c19 : x10_3 < (t167.length : Int)
            ·rw [if_pos c19] at H
             have c19b0 : decide (x10_3 < (t167.length : Int)) = true := dt_ c19
             clear c19
             by_cases c20 : x10_3 < (l1.length : Int)
             ·rw [if_pos c20] at H
              have c20b0 : decide (x10_3 < (l1.length : Int)) = true := dt_ c20
              clear c20
              have HC21 := sd_ H
              clear H
              have p176 : 0 ≤ (x10_3 : Int) := od_ (by first | (with_reducible assumption) | assumption)
              have q176 : x10_3 < (t167.length : Int) := od_ (by first | (with_reducible assumption) | assumption)
              obtain ⟨ad176, e176, hx176_0⟩ := Kd.at_int (Kd.R_reads' HO_7.out).2.2 x10_3 p176 q176
              cases e176
              replace p176 := eq_true p176
              replace q176 := eq_true q176
              have p177 : 0 ≤ (x10_3 : Int) := od_ (by first | (with_reducible assumption) | assumption)
              have q177 : x10_3 < (l1.length : Int) := od_ (by first | (with_reducible assumption) | assumption)
              obtain ⟨ad177, e177, hx177_0⟩ := Kd.at_int HR1.out x10_3 p177 q177
              cases e177
              replace hx177_0 := (HB.out.cell (wb_ w _ hx177_0)).trans hx177_0
              replace p177 := eq_true p177
              replace q177 := eq_true q177
              go_upto_if 69 with (fail)
              repeat (go_quiet (fail); go_upto_if 69 with (fail))
              go_cut [11] (fun v11 wc => ∃ (kq : Nat) (x11_20 : Int), v11 = .int .i64 x11_20 ∧ Aside0 (neumelaw19_SlopeShort.j3 kq l0 l1 a2 t167 (t167.length : Int) x10_3 x11_20 = some r) ∧ Aside0 (kq ≤ k3) ∧ Aside0 (Kd.R (Kd.int .i64) 3 wc w.heap.size (fun _ => True) (.slice (some ad176) t167.length co13) t167) ∧ Aside0 (Below w.heap.size w wc))
              case first =>
               have H := HC21.out
               clear HC21
               by_cases c22 : a2 = true
               ·subst c22
                have H1 : (neumelaw19_SlopeShort.j3 k3 l0 l1 true t167 (t167.length : Int) x10_3 (wrap64 ((rd t167 x10_3) - (rd l1 x10_3)))) = some r := by rw [if_pos rfl] at H; exact H
                clear H; have H := H1; clear H1
                have H' := sd_ H
                clear H
                go_wp2
                repeat (go_quiet (fail); try go_wp2)
                go_meet
                case rel => exact ⟨_, (wrap64 ((rd t167 x10_3) - (rd l1 x10_3))), (by first | rfl | (simp; done) | (simp [*]; done)), H', ⟨by have := HJ3.out; have := HJ10.out; have := HK3.out; first | omega | exact Nat.le_refl _⟩, ⟨by (with_reducible repeat (first | apply Kd.R_alloc | apply Kd.R_drewN | apply Kd.R_drew)); exact HO_7.out⟩, ⟨by repeat first | exact HB.out | apply ba_ | apply pd_ | apply d1_⟩⟩
               ·replace c22 := bf_ c22
                subst c22
                have H1 : (neumelaw19_SlopeShort.j3 k3 l0 l1 false t167 (t167.length : Int) x10_3 (wrap64 (-(wrap64 ((rd t167 x10_3) - (rd l1 x10_3)))))) = some r := by rw [if_neg (show ¬ (false = true) by decide)] at H; exact H
                clear H; have H := H1; clear H1
                have H' := sd_ H
                clear H
                go_wp2
                repeat (go_quiet (fail); try go_wp2)
                go_meet
                case rel => exact ⟨_, (wrap64 (-(wrap64 ((rd t167 x10_3) - (rd l1 x10_3))))), (by first | rfl | (simp; done) | (simp [*]; done)), H', ⟨by have := HJ3.out; have := HJ10.out; have := HK3.out; first | omega | exact Nat.le_refl _⟩, ⟨by (with_reducible repeat (first | apply Kd.R_alloc | apply Kd.R_drewN | apply Kd.R_drew)); exact HO_7.out⟩, ⟨by repeat first | exact HB.out | apply ba_ | apply pd_ | apply d1_⟩⟩
              case rest =>
               clear HC21
               try clear c1; try clear p1; try clear q1; try clear hx1; try clear c2; try clear p2; try clear c3; try clear c5; try clear c5b0; try clear c5b1; try clear c6; try clear p6; try clear c10; try clear c10b0; try clear c10b1; try clear c14; try clear c14b0; try clear c14b1; try clear c14b2; try clear c15; try clear c15b0; try clear c15b1; try clear c15b2; try clear c16; try clear c17; try clear c17b0; try clear p17; try clear q17; try clear hx17; try clear c18; try clear c18b0; try clear c19; try clear c19b0; try clear c20; try clear c20b0; try clear c22; try clear hx176_0; try clear hx177_0; try clear p176; try clear p177; try clear p2; try clear q176; try clear q177
               obtain ⟨kq, x11_20, rfl, HA, HJ20, HO_7, HB⟩ := hcut
               cases kq with
               | zero => exact absurd HA.out (by simp [neumelaw19_SlopeShort.j3])
               | succ kj20 =>
                have H := HA.out
                clear HA
                simp only [neumelaw19_SlopeShort.j3] at H
                have HC23 := sd_ H
                clear H
                go_upto_region 15 with (fail)
                repeat (go_quiet (fail); go_upto_region 15 with (fail))
                go_cut [81] (fun v81 wc => ∃ (kq : Nat) (x81_22 : Bool), v81 = .bool x81_22 ∧ Aside0 (neumelaw19_SlopeShort.j4 kq l0 l1 a2 t167 (t167.length : Int) x10_3 x81_22 = some r) ∧ Aside0 (kq ≤ kj20) ∧ Aside0 (Kd.R (Kd.int .i64) 3 wc w.heap.size (fun _ => True) (.slice (some ad176) t167.length co13) t167) ∧ Aside0 (Below w.heap.size w wc))
                case first =>
                 have H := HC23.out
                 clear HC23
                 by_cases c24 : x11_20 < (-1024)
                 ·rw [if_pos c24] at H
                  have c24b0 : decide (x11_20 < (-1024)) = true := dt_ c24
                  clear c24
                  (first | rw [c24b0] | (simp only [i64_w, i32_w]; rw [c24b0]) | skip)
                  have H' := sd_ H
                  clear H
                  go_wp2
                  repeat (go_quiet (fail); try go_wp2)
                  go_meet
                  case rel => exact ⟨_, (true), (by first | rfl | (simp; done) | (simp [*]; done)), H', ⟨by have := HJ3.out; have := HJ10.out; have := HK3.out; have := HJ20.out; first | omega | exact Nat.le_refl _⟩, ⟨by (with_reducible repeat (first | apply Kd.R_alloc | apply Kd.R_drewN | apply Kd.R_drew)); exact HO_7.out⟩, ⟨by repeat first | exact HB.out | apply ba_ | apply pd_ | apply d1_⟩⟩
                 ·rw [if_neg c24] at H
                  have c24b0 : decide (x11_20 < (-1024)) = false := df_ c24
                  clear c24
                  (first | rw [c24b0] | (simp only [i64_w, i32_w]; rw [c24b0]) | skip)
                  by_cases c25 : x10_3 = 0
                  ·rw [if_pos c25] at H
                   have c25b0 : (x10_3 == 0) = true := beq_iff_eq.mpr c25
                   have c25b1 : (x10_3 != 0) = false := bne_eq_false_iff_eq.mpr c25
                   clear c25
                   have H' := sd_ H
                   clear H
                   go_wp2
                   repeat (go_quiet (fail); try go_wp2)
                   go_meet
                   case rel => exact ⟨_, (decide (x11_20 < (-512))), (by first | rfl | (simp; done) | (simp [*]; done)), H', ⟨by have := HJ3.out; have := HJ10.out; have := HK3.out; have := HJ20.out; first | omega | exact Nat.le_refl _⟩, ⟨by (with_reducible repeat (first | apply Kd.R_alloc | apply Kd.R_drewN | apply Kd.R_drew)); exact HO_7.out⟩, ⟨by repeat first | exact HB.out | apply ba_ | apply pd_ | apply d1_⟩⟩
                  ·rw [if_neg c25] at H
                   have c25b0 : (x10_3 == 0) = false := beq_eq_false_iff_ne.mpr c25
                   have c25b1 : (x10_3 != 0) = true := bne_iff_ne.mpr c25
                   have H' := sd_ H
                   clear H
                   go_wp2
                   repeat (go_quiet (fail); try go_wp2)
                   go_meet
                   case rel => exact ⟨_, (false), (by first | rfl | (simp; done) | (simp [*]; done)), H', ⟨by have := HJ3.out; have := HJ10.out; have := HK3.out; have := HJ20.out; first | omega | exact Nat.le_refl _⟩, ⟨by (with_reducible repeat (first | apply Kd.R_alloc | apply Kd.R_drewN | apply Kd.R_drew)); exact HO_7.out⟩, ⟨by repeat first | exact HB.out | apply ba_ | apply pd_ | apply d1_⟩⟩
                case rest =>
                 clear HC23
                 try clear c1; try clear p1; try clear q1; try clear hx1; try clear c2; try clear p2; try clear c3; try clear c5; try clear c5b0; try clear c5b1; try clear c6; try clear p6; try clear c10; try clear c10b0; try clear c10b1; try clear c14; try clear c14b0; try clear c14b1; try clear c14b2; try clear c15; try clear c15b0; try clear c15b1; try clear c15b2; try clear c16; try clear c17; try clear c17b0; try clear p17; try clear q17; try clear hx17; try clear c18; try clear c18b0; try clear c19; try clear c19b0; try clear c20; try clear c20b0; try clear c22; try clear c24; try clear c24b0; try clear c25; try clear c25b0; try clear c25b1; try clear hx176_0; try clear hx177_0; try clear p1; try clear p17; try clear p176; try clear p177; try clear p2; try clear p6; try clear q1; try clear q17; try clear q176; try clear q177
                 obtain ⟨kq, x81_22, rfl, HA, HJ22, HO_7, HB⟩ := hcut
                 cases kq with
                 | zero => exact absurd HA.out (by simp [neumelaw19_SlopeShort.j4])
                 | succ kj22 =>
                  have H := HA.out
                  clear HA
                  simp only [neumelaw19_SlopeShort.j4] at H
                  by_cases c26 : x81_22 = true
                  ·subst c26
                   have H1 : (some false) = some r := by rw [if_pos rfl] at H; exact H
                   clear H; have H := H1; clear H1
                   obtain rfl := Option.some.inj H
                   go_wp2
                   repeat (go_quiet (fail); try go_wp2)
                   go_ret
                   exact ⟨by first | rfl | (simp [errW_none, errW_some] <;> rfl) | (simp [*, errW_none, errW_some] <;> rfl), by repeat first | exact HB.out | apply ba_ | apply pd_ | apply d1_⟩
                  ·replace c26 := bf_ c26
                   subst c26
                   have H1 : (if 0 ≤ x10_3 then (if x10_3 < (t167.length : Int) then (if 0 < (t167.length : Int) then (if 0 ≤ (wrap64 ((t167.length : Int) - 1)) then (if (wrap64 ((t167.length : Int) - 1)) < (l0.length : Int) then (if 0 < (l0.length : Int) then (if (wrap64 ((t167.length : Int) - 1)) < (t167.length : Int) then (if x10_3 < (l0.length : Int) then (if (wrap64 ((wrap64 ((wrap64 ((rd t167 x10_3) - (rd t167 0))) * (wrap64 ((rd l0 (wrap64 ((t167.length : Int) - 1))) - (rd l0 0))))) - (wrap64 ((wrap64 ((rd t167 (wrap64 ((t167.length : Int) - 1))) - (rd t167 0))) * (wrap64 ((rd l0 x10_3) - (rd l0 0))))))) > (wrap64 ((rd l0 (wrap64 ((t167.length : Int) - 1))) - (rd l0 0))) then (some false) else (if (wrap64 ((wrap64 ((wrap64 ((rd t167 x10_3) - (rd t167 0))) * (wrap64 ((rd l0 (wrap64 ((t167.length : Int) - 1))) - (rd l0 0))))) - (wrap64 ((wrap64 ((rd t167 (wrap64 ((t167.length : Int) - 1))) - (rd t167 0))) * (wrap64 ((rd l0 x10_3) - (rd l0 0))))))) < (wrap64 ((rd l0 0) - (rd l0 (wrap64 ((t167.length : Int) - 1))))) then (some false) else (neumelaw19_SlopeShort.l0 kj22 l0 l1 a2 t167 (t167.length : Int) (wrap64 (x10_3 + 1))))) else (none)) else (none)) else (none)) else (none)) else (none)) else (none)) else (none)) else (none)) = some r := by rw [if_neg (show ¬ (false = true) by decide)] at H; exact H
                   clear H; have H := H1; clear H1
                   by_cases c27 : 0 ≤ x10_3
                   ·rw [if_pos c27] at H
                    have c27b0 : decide (0 ≤ x10_3) = true := dt_ c27
                    clear c27
                    by_cases c28 : x10_3 < (t167.length : Int)
                    ·rw [if_pos c28] at H
                     have c28b0 : decide (x10_3 < (t167.length : Int)) = true := dt_ c28
                     clear c28
                     by_cases c29 : 0 < (t167.length : Int)
                     ·rw [if_pos c29] at H
                      have c29b0 : decide (0 < (t167.length : Int)) = true := dt_ c29
                      have c29b1 : decide (0 < t167.length) = true := dt_ (by omega)
                      clear c29
                      obtain ⟨ji30, hji30⟩ : ∃ j_ : Int, (wrap64 ((t167.length : Int) - 1)) = j_ := ⟨_, rfl⟩
                      replace H : (if 0 ≤ (ji30) then (if (ji30) < (l0.length : Int) then (if 0 < (l0.length : Int) then (if (ji30) < (t167.length : Int) then (if x10_3 < (l0.length : Int) then (if (wrap64 ((wrap64 ((wrap64 ((rd t167 x10_3) - (rd t167 0))) * (wrap64 ((rd l0 (ji30)) - (rd l0 0))))) - (wrap64 ((wrap64 ((rd t167 (ji30)) - (rd t167 0))) * (wrap64 ((rd l0 x10_3) - (rd l0 0))))))) > (wrap64 ((rd l0 (ji30)) - (rd l0 0))) then (some false) else (if (wrap64 ((wrap64 ((wrap64 ((rd t167 x10_3) - (rd t167 0))) * (wrap64 ((rd l0 (ji30)) - (rd l0 0))))) - (wrap64 ((wrap64 ((rd t167 (ji30)) - (rd t167 0))) * (wrap64 ((rd l0 x10_3) - (rd l0 0))))))) < (wrap64 ((rd l0 0) - (rd l0 (ji30)))) then (some false) else (neumelaw19_SlopeShort.l0 kj22 l0 l1 a2 t167 (t167.length : Int) (wrap64 (x10_3 + 1))))) else (none)) else (none)) else (none)) else (none)) else (none)) = some r := by first | (rw [hji30] at H; exact H) | (simp only [hji30] at H ⊢; exact H)
                      have hji30w : (IntKind.i64.wrap ((t167.length : Int) - 1)) = ji30 := (i64_w _).trans hji30
                      by_cases c31 : 0 ≤ (ji30)
                      ·rw [if_pos c31] at H
                       have c31b0 : decide (0 ≤ (ji30)) = true := dt_ c31
                       clear c31
                       by_cases c32 : (ji30) < (l0.length : Int)
                       ·rw [if_pos c32] at H
                        have c32b0 : decide ((ji30) < (l0.length : Int)) = true := dt_ c32
                        clear c32
                        by_cases c33 : 0 < (l0.length : Int)
                        ·rw [if_pos c33] at H
                         have c33b0 : decide (0 < (l0.length : Int)) = true := dt_ c33
                         have c33b1 : decide (0 < l0.length) = true := dt_ (by omega)
                         clear c33
                         by_cases c34 : (ji30) < (t167.length : Int)
                         ·rw [if_pos c34] at H
                          have c34b0 : decide ((ji30) < (t167.length : Int)) = true := dt_ c34
                          clear c34
                          by_cases c35 : x10_3 < (l0.length : Int)
                          ·rw [if_pos c35] at H
                           have c35b0 : decide (x10_3 < (l0.length : Int)) = true := dt_ c35
                           clear c35
                           by_cases c36 : (wrap64 ((wrap64 ((wrap64 ((rd t167 x10_3) - (rd t167 0))) * (wrap64 ((rd l0 (ji30)) - (rd l0 0))))) - (wrap64 ((wrap64 ((rd t167 (ji30)) - (rd t167 0))) * (wrap64 ((rd l0 x10_3) - (rd l0 0))))))) > (wrap64 ((rd l0 (ji30)) - (rd l0 0)))
                           ·rw [if_pos c36] at H
                            have c36b0 : decide ((wrap64 ((rd l0 (ji30)) - (rd l0 0))) < (wrap64 ((wrap64 ((wrap64 ((rd t167 x10_3) - (rd t167 0))) * (wrap64 ((rd l0 (ji30)) - (rd l0 0))))) - (wrap64 ((wrap64 ((rd t167 (ji30)) - (rd t167 0))) * (wrap64 ((rd l0 x10_3) - (rd l0 0)))))))) = true := dt_ c36
                            clear c36
                            obtain rfl := Option.some.inj H
                            have p178 : 0 ≤ (x10_3 : Int) := od_ (by first | (with_reducible assumption) | assumption)
                            have q178 : x10_3 < (t167.length : Int) := od_ (by first | (with_reducible assumption) | assumption)
                            obtain ⟨ad178, e178, hx178_0⟩ := Kd.at_int (Kd.R_reads' HO_7.out).2.2 x10_3 p178 q178
                            obtain rfl : ad176 = ad178 := (by injection e178)
                            replace p178 := eq_true p178
                            replace q178 := eq_true q178
                            have p179 : 0 ≤ (0 : Int) := (by omega)
                            have q179 : 0 < (t167.length : Int) := od_ (by first | (with_reducible assumption) | assumption)
                            obtain ⟨ad179, e179, hx179_0⟩ := Kd.at_int (Kd.R_reads' HO_7.out).2.2 0 p179 q179
                            obtain rfl : ad176 = ad179 := (by injection e179)
                            have qi179 : (0 < t167.length) = True := eq_true (by omega)
                            (try rw [show ((0 : Int)).toNat = 0 from rfl] at hx179_0)
                            (try rw [Addr.add_zero'] at hx179_0)
                            replace p179 := eq_true p179
                            replace q179 := eq_true q179
                            have p180 : 0 ≤ ((ji30) : Int) := od_ (by first | (with_reducible assumption) | assumption)
                            have q180 : (ji30) < (l0.length : Int) := od_ (by first | (with_reducible assumption) | assumption)
                            obtain ⟨ad180, e180, hx180_0⟩ := Kd.at_int HR0.out (ji30) p180 q180
                            cases e180
                            replace hx180_0 := (HB.out.cell (wb_ w _ hx180_0)).trans hx180_0
                            replace p180 := eq_true p180
                            replace q180 := eq_true q180
                            have p181 : 0 ≤ (0 : Int) := (by omega)
                            have q181 : 0 < (l0.length : Int) := od_ (by first | (with_reducible assumption) | assumption)
                            obtain ⟨ad181, e181, hx181_0⟩ := Kd.at_int HR0.out 0 p181 q181
                            obtain rfl : ad180 = ad181 := (by injection e181)
                            have qi181 : (0 < l0.length) = True := eq_true (by omega)
                            (try rw [show ((0 : Int)).toNat = 0 from rfl] at hx181_0)
                            (try rw [Addr.add_zero'] at hx181_0)
                            replace hx181_0 := (HB.out.cell (wb_ w _ hx181_0)).trans hx181_0
                            replace p181 := eq_true p181
                            replace q181 := eq_true q181
                            have p182 : 0 ≤ ((ji30) : Int) := od_ (by first | (with_reducible assumption) | assumption)
                            have q182 : (ji30) < (t167.length : Int) := od_ (by first | (with_reducible assumption) | assumption)
                            obtain ⟨ad182, e182, hx182_0⟩ := Kd.at_int (Kd.R_reads' HO_7.out).2.2 (ji30) p182 q182
                            obtain rfl : ad176 = ad182 := (by injection e182)
                            replace p182 := eq_true p182
                            replace q182 := eq_true q182
                            have p183 : 0 ≤ (0 : Int) := (by omega)
                            have q183 : 0 < (t167.length : Int) := od_ (by first | (with_reducible assumption) | assumption)
                            obtain ⟨ad183, e183, hx183_0⟩ := Kd.at_int (Kd.R_reads' HO_7.out).2.2 0 p183 q183
                            obtain rfl : ad176 = ad183 := (by injection e183)
                            have qi183 : (0 < t167.length) = True := eq_true (by omega)
                            (try rw [show ((0 : Int)).toNat = 0 from rfl] at hx183_0)
                            (try rw [Addr.add_zero'] at hx183_0)
                            replace p183 := eq_true p183
                            replace q183 := eq_true q183
                            have p184 : 0 ≤ (x10_3 : Int) := od_ (by first | (with_reducible assumption) | assumption)
                            have q184 : x10_3 < (l0.length : Int) := od_ (by first | (with_reducible assumption) | assumption)
                            obtain ⟨ad184, e184, hx184_0⟩ := Kd.at_int HR0.out x10_3 p184 q184
                            obtain rfl : ad180 = ad184 := (by injection e184)
                            replace hx184_0 := (HB.out.cell (wb_ w _ hx184_0)).trans hx184_0
                            replace p184 := eq_true p184
                            replace q184 := eq_true q184
                            have p185 : 0 ≤ (0 : Int) := (by omega)
                            have q185 : 0 < (l0.length : Int) := od_ (by first | (with_reducible assumption) | assumption)
                            obtain ⟨ad185, e185, hx185_0⟩ := Kd.at_int HR0.out 0 p185 q185
                            obtain rfl : ad180 = ad185 := (by injection e185)
                            have qi185 : (0 < l0.length) = True := eq_true (by omega)
                            (try rw [show ((0 : Int)).toNat = 0 from rfl] at hx185_0)
                            (try rw [Addr.add_zero'] at hx185_0)
                            replace hx185_0 := (HB.out.cell (wb_ w _ hx185_0)).trans hx185_0
                            replace p185 := eq_true p185
                            replace q185 := eq_true q185
                            have p186 : 0 ≤ ((ji30) : Int) := od_ (by first | (with_reducible assumption) | assumption)
                            have q186 : (ji30) < (l0.length : Int) := od_ (by first | (with_reducible assumption) | assumption)
                            obtain ⟨ad186, e186, hx186_0⟩ := Kd.at_int HR0.out (ji30) p186 q186
                            obtain rfl : ad180 = ad186 := (by injection e186)
                            replace hx186_0 := (HB.out.cell (wb_ w _ hx186_0)).trans hx186_0
                            replace p186 := eq_true p186
                            replace q186 := eq_true q186
                            have p187 : 0 ≤ (0 : Int) := (by omega)
                            have q187 : 0 < (l0.length : Int) := od_ (by first | (with_reducible assumption) | assumption)
                            obtain ⟨ad187, e187, hx187_0⟩ := Kd.at_int HR0.out 0 p187 q187
                            obtain rfl : ad180 = ad187 := (by injection e187)
                            have qi187 : (0 < l0.length) = True := eq_true (by omega)
                            (try rw [show ((0 : Int)).toNat = 0 from rfl] at hx187_0)
                            (try rw [Addr.add_zero'] at hx187_0)
                            replace hx187_0 := (HB.out.cell (wb_ w _ hx187_0)).trans hx187_0
                            replace p187 := eq_true p187
                            replace q187 := eq_true q187
                            go_wp2
                            repeat (go_quiet (fail); try go_wp2)
                            go_ret
                            exact ⟨by first | rfl | (simp [errW_none, errW_some] <;> rfl) | (simp only [← hji30]; first | rfl | (simp [errW_none, errW_some] <;> rfl)) | (simp [*, errW_none, errW_some] <;> rfl), by repeat first | exact HB.out | apply ba_ | apply pd_ | apply d1_⟩
                           ·rw [if_neg c36] at H
                            have c36b0 : decide ((wrap64 ((rd l0 (ji30)) - (rd l0 0))) < (wrap64 ((wrap64 ((wrap64 ((rd t167 x10_3) - (rd t167 0))) * (wrap64 ((rd l0 (ji30)) - (rd l0 0))))) - (wrap64 ((wrap64 ((rd t167 (ji30)) - (rd t167 0))) * (wrap64 ((rd l0 x10_3) - (rd l0 0)))))))) = false := df_ c36
                            clear c36
                            by_cases c37 : (wrap64 ((wrap64 ((wrap64 ((rd t167 x10_3) - (rd t167 0))) * (wrap64 ((rd l0 (ji30)) - (rd l0 0))))) - (wrap64 ((wrap64 ((rd t167 (ji30)) - (rd t167 0))) * (wrap64 ((rd l0 x10_3) - (rd l0 0))))))) < (wrap64 ((rd l0 0) - (rd l0 (ji30))))
                            ·rw [if_pos c37] at H
                             have c37b0 : decide ((wrap64 ((wrap64 ((wrap64 ((rd t167 x10_3) - (rd t167 0))) * (wrap64 ((rd l0 (ji30)) - (rd l0 0))))) - (wrap64 ((wrap64 ((rd t167 (ji30)) - (rd t167 0))) * (wrap64 ((rd l0 x10_3) - (rd l0 0))))))) < (wrap64 ((rd l0 0) - (rd l0 (ji30))))) = true := dt_ c37
                             clear c37
                             obtain rfl := Option.some.inj H
                             have p178 : 0 ≤ (x10_3 : Int) := od_ (by first | (with_reducible assumption) | assumption)
                             have q178 : x10_3 < (t167.length : Int) := od_ (by first | (with_reducible assumption) | assumption)
                             obtain ⟨ad178, e178, hx178_0⟩ := Kd.at_int (Kd.R_reads' HO_7.out).2.2 x10_3 p178 q178
                             obtain rfl : ad176 = ad178 := (by injection e178)
                             replace p178 := eq_true p178
                             replace q178 := eq_true q178
                             have p179 : 0 ≤ (0 : Int) := (by omega)
                             have q179 : 0 < (t167.length : Int) := od_ (by first | (with_reducible assumption) | assumption)
                             obtain ⟨ad179, e179, hx179_0⟩ := Kd.at_int (Kd.R_reads' HO_7.out).2.2 0 p179 q179
                             obtain rfl : ad176 = ad179 := (by injection e179)
                             have qi179 : (0 < t167.length) = True := eq_true (by omega)
                             (try rw [show ((0 : Int)).toNat = 0 from rfl] at hx179_0)
                             (try rw [Addr.add_zero'] at hx179_0)
                             replace p179 := eq_true p179
                             replace q179 := eq_true q179
                             have p180 : 0 ≤ ((ji30) : Int) := od_ (by first | (with_reducible assumption) | assumption)
                             have q180 : (ji30) < (l0.length : Int) := od_ (by first | (with_reducible assumption) | assumption)
                             obtain ⟨ad180, e180, hx180_0⟩ := Kd.at_int HR0.out (ji30) p180 q180
                             cases e180
                             replace hx180_0 := (HB.out.cell (wb_ w _ hx180_0)).trans hx180_0
                             replace p180 := eq_true p180
                             replace q180 := eq_true q180
                             have p181 : 0 ≤ (0 : Int) := (by omega)
                             have q181 : 0 < (l0.length : Int) := od_ (by first | (with_reducible assumption) | assumption)
                             obtain ⟨ad181, e181, hx181_0⟩ := Kd.at_int HR0.out 0 p181 q181
                             obtain rfl : ad180 = ad181 := (by injection e181)
                             have qi181 : (0 < l0.length) = True := eq_true (by omega)
                             (try rw [show ((0 : Int)).toNat = 0 from rfl] at hx181_0)
                             (try rw [Addr.add_zero'] at hx181_0)
                             replace hx181_0 := (HB.out.cell (wb_ w _ hx181_0)).trans hx181_0
                             replace p181 := eq_true p181
                             replace q181 := eq_true q181
                             have p182 : 0 ≤ ((ji30) : Int) := od_ (by first | (with_reducible assumption) | assumption)
                             have q182 : (ji30) < (t167.length : Int) := od_ (by first | (with_reducible assumption) | assumption)
                             obtain ⟨ad182, e182, hx182_0⟩ := Kd.at_int (Kd.R_reads' HO_7.out).2.2 (ji30) p182 q182
                             obtain rfl : ad176 = ad182 := (by injection e182)
                             replace p182 := eq_true p182
                             replace q182 := eq_true q182
                             have p183 : 0 ≤ (0 : Int) := (by omega)
                             have q183 : 0 < (t167.length : Int) := od_ (by first | (with_reducible assumption) | assumption)
                             obtain ⟨ad183, e183, hx183_0⟩ := Kd.at_int (Kd.R_reads' HO_7.out).2.2 0 p183 q183
                             obtain rfl : ad176 = ad183 := (by injection e183)
                             have qi183 : (0 < t167.length) = True := eq_true (by omega)
                             (try rw [show ((0 : Int)).toNat = 0 from rfl] at hx183_0)
                             (try rw [Addr.add_zero'] at hx183_0)
                             replace p183 := eq_true p183
                             replace q183 := eq_true q183
                             have p184 : 0 ≤ (x10_3 : Int) := od_ (by first | (with_reducible assumption) | assumption)
                             have q184 : x10_3 < (l0.length : Int) := od_ (by first | (with_reducible assumption) | assumption)
                             obtain ⟨ad184, e184, hx184_0⟩ := Kd.at_int HR0.out x10_3 p184 q184
                             obtain rfl : ad180 = ad184 := (by injection e184)
                             replace hx184_0 := (HB.out.cell (wb_ w _ hx184_0)).trans hx184_0
                             replace p184 := eq_true p184
                             replace q184 := eq_true q184
                             have p185 : 0 ≤ (0 : Int) := (by omega)
                             have q185 : 0 < (l0.length : Int) := od_ (by first | (with_reducible assumption) | assumption)
                             obtain ⟨ad185, e185, hx185_0⟩ := Kd.at_int HR0.out 0 p185 q185
                             obtain rfl : ad180 = ad185 := (by injection e185)
                             have qi185 : (0 < l0.length) = True := eq_true (by omega)
                             (try rw [show ((0 : Int)).toNat = 0 from rfl] at hx185_0)
                             (try rw [Addr.add_zero'] at hx185_0)
                             replace hx185_0 := (HB.out.cell (wb_ w _ hx185_0)).trans hx185_0
                             replace p185 := eq_true p185
                             replace q185 := eq_true q185
                             have p186 : 0 ≤ ((ji30) : Int) := od_ (by first | (with_reducible assumption) | assumption)
                             have q186 : (ji30) < (l0.length : Int) := od_ (by first | (with_reducible assumption) | assumption)
                             obtain ⟨ad186, e186, hx186_0⟩ := Kd.at_int HR0.out (ji30) p186 q186
                             obtain rfl : ad180 = ad186 := (by injection e186)
                             replace hx186_0 := (HB.out.cell (wb_ w _ hx186_0)).trans hx186_0
                             replace p186 := eq_true p186
                             replace q186 := eq_true q186
                             have p187 : 0 ≤ (0 : Int) := (by omega)
                             have q187 : 0 < (l0.length : Int) := od_ (by first | (with_reducible assumption) | assumption)
                             obtain ⟨ad187, e187, hx187_0⟩ := Kd.at_int HR0.out 0 p187 q187
                             obtain rfl : ad180 = ad187 := (by injection e187)
                             have qi187 : (0 < l0.length) = True := eq_true (by omega)
                             (try rw [show ((0 : Int)).toNat = 0 from rfl] at hx187_0)
                             (try rw [Addr.add_zero'] at hx187_0)
                             replace hx187_0 := (HB.out.cell (wb_ w _ hx187_0)).trans hx187_0
                             replace p187 := eq_true p187
                             replace q187 := eq_true q187
                             have p188 : 0 ≤ (0 : Int) := (by omega)
                             have q188 : 0 < (l0.length : Int) := od_ (by first | (with_reducible assumption) | assumption)
                             obtain ⟨ad188, e188, hx188_0⟩ := Kd.at_int HR0.out 0 p188 q188
                             obtain rfl : ad180 = ad188 := (by injection e188)
                             have qi188 : (0 < l0.length) = True := eq_true (by omega)
                             (try rw [show ((0 : Int)).toNat = 0 from rfl] at hx188_0)
                             (try rw [Addr.add_zero'] at hx188_0)
                             replace hx188_0 := (HB.out.cell (wb_ w _ hx188_0)).trans hx188_0
                             replace p188 := eq_true p188
                             replace q188 := eq_true q188
                             have p189 : 0 ≤ ((ji30) : Int) := od_ (by first | (with_reducible assumption) | assumption)
                             have q189 : (ji30) < (l0.length : Int) := od_ (by first | (with_reducible assumption) | assumption)
                             obtain ⟨ad189, e189, hx189_0⟩ := Kd.at_int HR0.out (ji30) p189 q189
                             obtain rfl : ad180 = ad189 := (by injection e189)
                             replace hx189_0 := (HB.out.cell (wb_ w _ hx189_0)).trans hx189_0
                             replace p189 := eq_true p189
                             replace q189 := eq_true q189
                             go_wp2
                             repeat (go_quiet (fail); try go_wp2)
                             go_ret
                             exact ⟨by first | rfl | (simp [errW_none, errW_some] <;> rfl) | (simp only [← hji30]; first | rfl | (simp [errW_none, errW_some] <;> rfl)) | (simp [*, errW_none, errW_some] <;> rfl), by repeat first | exact HB.out | apply ba_ | apply pd_ | apply d1_⟩
                            ·rw [if_neg c37] at H
                             have c37b0 : decide ((wrap64 ((wrap64 ((wrap64 ((rd t167 x10_3) - (rd t167 0))) * (wrap64 ((rd l0 (ji30)) - (rd l0 0))))) - (wrap64 ((wrap64 ((rd t167 (ji30)) - (rd t167 0))) * (wrap64 ((rd l0 x10_3) - (rd l0 0))))))) < (wrap64 ((rd l0 0) - (rd l0 (ji30))))) = false := df_ c37
                             clear c37
                             have H' := sd_ H
                             clear H
                             have p178 : 0 ≤ (x10_3 : Int) := od_ (by first | (with_reducible assumption) | assumption)
                             have q178 : x10_3 < (t167.length : Int) := od_ (by first | (with_reducible assumption) | assumption)
                             obtain ⟨ad178, e178, hx178_0⟩ := Kd.at_int (Kd.R_reads' HO_7.out).2.2 x10_3 p178 q178
                             obtain rfl : ad176 = ad178 := (by injection e178)
                             replace p178 := eq_true p178
                             replace q178 := eq_true q178
                             have p179 : 0 ≤ (0 : Int) := (by omega)
                             have q179 : 0 < (t167.length : Int) := od_ (by first | (with_reducible assumption) | assumption)
                             obtain ⟨ad179, e179, hx179_0⟩ := Kd.at_int (Kd.R_reads' HO_7.out).2.2 0 p179 q179
                             obtain rfl : ad176 = ad179 := (by injection e179)
                             have qi179 : (0 < t167.length) = True := eq_true (by omega)
                             (try rw [show ((0 : Int)).toNat = 0 from rfl] at hx179_0)
                             (try rw [Addr.add_zero'] at hx179_0)
                             replace p179 := eq_true p179
                             replace q179 := eq_true q179
                             have p180 : 0 ≤ ((ji30) : Int) := od_ (by first | (with_reducible assumption) | assumption)
                             have q180 : (ji30) < (l0.length : Int) := od_ (by first | (with_reducible assumption) | assumption)
                             obtain ⟨ad180, e180, hx180_0⟩ := Kd.at_int HR0.out (ji30) p180 q180
                             cases e180
                             replace hx180_0 := (HB.out.cell (wb_ w _ hx180_0)).trans hx180_0
                             replace p180 := eq_true p180
                             replace q180 := eq_true q180
                             have p181 : 0 ≤ (0 : Int) := (by omega)
                             have q181 : 0 < (l0.length : Int) := od_ (by first | (with_reducible assumption) | assumption)
                             obtain ⟨ad181, e181, hx181_0⟩ := Kd.at_int HR0.out 0 p181 q181
                             obtain rfl : ad180 = ad181 := (by injection e181)
                             have qi181 : (0 < l0.length) = True := eq_true (by omega)
                             (try rw [show ((0 : Int)).toNat = 0 from rfl] at hx181_0)
                             (try rw [Addr.add_zero'] at hx181_0)
                             replace hx181_0 := (HB.out.cell (wb_ w _ hx181_0)).trans hx181_0
                             replace p181 := eq_true p181
                             replace q181 := eq_true q181
                             have p182 : 0 ≤ ((ji30) : Int) := od_ (by first | (with_reducible assumption) | assumption)
                             have q182 : (ji30) < (t167.length : Int) := od_ (by first | (with_reducible assumption) | assumption)
                             obtain ⟨ad182, e182, hx182_0⟩ := Kd.at_int (Kd.R_reads' HO_7.out).2.2 (ji30) p182 q182
                             obtain rfl : ad176 = ad182 := (by injection e182)
                             replace p182 := eq_true p182
                             replace q182 := eq_true q182
                             have p183 : 0 ≤ (0 : Int) := (by omega)
                             have q183 : 0 < (t167.length : Int) := od_ (by first | (with_reducible assumption) | assumption)
                             obtain ⟨ad183, e183, hx183_0⟩ := Kd.at_int (Kd.R_reads' HO_7.out).2.2 0 p183 q183
                             obtain rfl : ad176 = ad183 := (by injection e183)
                             have qi183 : (0 < t167.length) = True := eq_true (by omega)
                             (try rw [show ((0 : Int)).toNat = 0 from rfl] at hx183_0)
                             (try rw [Addr.add_zero'] at hx183_0)
                             replace p183 := eq_true p183
                             replace q183 := eq_true q183
                             have p184 : 0 ≤ (x10_3 : Int) := od_ (by first | (with_reducible assumption) | assumption)
                             have q184 : x10_3 < (l0.length : Int) := od_ (by first | (with_reducible assumption) | assumption)
                             obtain ⟨ad184, e184, hx184_0⟩ := Kd.at_int HR0.out x10_3 p184 q184
                             obtain rfl : ad180 = ad184 := (by injection e184)
                             replace hx184_0 := (HB.out.cell (wb_ w _ hx184_0)).trans hx184_0
                             replace p184 := eq_true p184
                             replace q184 := eq_true q184
                             have p185 : 0 ≤ (0 : Int) := (by omega)
                             have q185 : 0 < (l0.length : Int) := od_ (by first | (with_reducible assumption) | assumption)
                             obtain ⟨ad185, e185, hx185_0⟩ := Kd.at_int HR0.out 0 p185 q185
                             obtain rfl : ad180 = ad185 := (by injection e185)
                             have qi185 : (0 < l0.length) = True := eq_true (by omega)
                             (try rw [show ((0 : Int)).toNat = 0 from rfl] at hx185_0)
                             (try rw [Addr.add_zero'] at hx185_0)
                             replace hx185_0 := (HB.out.cell (wb_ w _ hx185_0)).trans hx185_0
                             replace p185 := eq_true p185
                             replace q185 := eq_true q185
                             have p186 : 0 ≤ ((ji30) : Int) := od_ (by first | (with_reducible assumption) | assumption)
                             have q186 : (ji30) < (l0.length : Int) := od_ (by first | (with_reducible assumption) | assumption)
                             obtain ⟨ad186, e186, hx186_0⟩ := Kd.at_int HR0.out (ji30) p186 q186
                             obtain rfl : ad180 = ad186 := (by injection e186)
                             replace hx186_0 := (HB.out.cell (wb_ w _ hx186_0)).trans hx186_0
                             replace p186 := eq_true p186
                             replace q186 := eq_true q186
                             have p187 : 0 ≤ (0 : Int) := (by omega)
                             have q187 : 0 < (l0.length : Int) := od_ (by first | (with_reducible assumption) | assumption)
                             obtain ⟨ad187, e187, hx187_0⟩ := Kd.at_int HR0.out 0 p187 q187
                             obtain rfl : ad180 = ad187 := (by injection e187)
                             have qi187 : (0 < l0.length) = True := eq_true (by omega)
                             (try rw [show ((0 : Int)).toNat = 0 from rfl] at hx187_0)
                             (try rw [Addr.add_zero'] at hx187_0)
                             replace hx187_0 := (HB.out.cell (wb_ w _ hx187_0)).trans hx187_0
                             replace p187 := eq_true p187
                             replace q187 := eq_true q187
                             have p188 : 0 ≤ (0 : Int) := (by omega)
                             have q188 : 0 < (l0.length : Int) := od_ (by first | (with_reducible assumption) | assumption)
                             obtain ⟨ad188, e188, hx188_0⟩ := Kd.at_int HR0.out 0 p188 q188
                             obtain rfl : ad180 = ad188 := (by injection e188)
                             have qi188 : (0 < l0.length) = True := eq_true (by omega)
                             (try rw [show ((0 : Int)).toNat = 0 from rfl] at hx188_0)
                             (try rw [Addr.add_zero'] at hx188_0)
                             replace hx188_0 := (HB.out.cell (wb_ w _ hx188_0)).trans hx188_0
                             replace p188 := eq_true p188
                             replace q188 := eq_true q188
                             have p189 : 0 ≤ ((ji30) : Int) := od_ (by first | (with_reducible assumption) | assumption)
                             have q189 : (ji30) < (l0.length : Int) := od_ (by first | (with_reducible assumption) | assumption)
                             obtain ⟨ad189, e189, hx189_0⟩ := Kd.at_int HR0.out (ji30) p189 q189
                             obtain rfl : ad180 = ad189 := (by injection e189)
                             replace hx189_0 := (HB.out.cell (wb_ w _ hx189_0)).trans hx189_0
                             replace p189 := eq_true p189
                             replace q189 := eq_true q189
                             go_wp2
                             repeat (go_quiet (fail); try go_wp2)
                             go_roundg kj22
                             case measure => have := HJ3.out; have := HJ10.out; have := HK3.out; have := HJ20.out; have := HJ22.out; omega
                             case rel => exact ⟨(wrap64 (x10_3 + 1)), (by first | rfl | (simp; done) | (simp [*]; done)), H', ⟨by have := HJ3.out; have := HJ10.out; have := HK3.out; have := HJ20.out; have := HJ22.out; omega⟩, ⟨by (with_reducible repeat (first | apply Kd.R_alloc | apply Kd.R_drewN | apply Kd.R_drew)); exact HO_7.out⟩, ⟨by repeat first | exact HB.out | apply ba_ | apply pd_ | apply d1_⟩⟩
                          ·rw [if_neg c35] at H
                           exact absurd H (by simp)
                         ·rw [if_neg c34] at H
                          exact absurd H (by simp)
                        ·rw [if_neg c33] at H
                         exact absurd H (by simp)
                       ·rw [if_neg c32] at H
                        exact absurd H (by simp)
                      ·rw [if_neg c31] at H
                       exact absurd H (by simp)
                     ·rw [if_neg c29] at H
                      exact absurd H (by simp)
                    ·rw [if_neg c28] at H
                     exact absurd H (by simp)
                   ·rw [if_neg c27] at H
                    exact absurd H (by simp)
             ·rw [if_neg c20] at H
              exact absurd H (by simp)
            ·rw [if_neg c19] at H
             exact absurd H (by simp)
           ·rw [if_neg c18] at H
            exact absurd H (by simp)
          ·rw [if_neg c17] at H
           have c17b0 : decide (x10_3 < (t167.length : Int)) = false := df_ c17
           clear c17
           obtain ⟨ji38, hji38⟩ : ∃ j_ : Int, (wrap64 ((t167.length : Int) - 1)) = j_ := ⟨_, rfl⟩
           replace H : (if 0 ≤ (ji38) then (if (ji38) < (t167.length : Int) then (if 0 < (t167.length : Int) then (if (wrap64 ((rd t167 (ji38)) - (rd t167 0))) ≤ 1024 then (if (wrap64 ((rd t167 (ji38)) - (rd t167 0))) ≥ (-1024) then (if (Int.tmod (wrap64 ((rd t167 (ji38)) - (rd t167 0))) 256) = 0 then (if (Int.tmod (rd t167 0) 256) = 0 then ((neumelaw19_heads.f k3).bind fun t175 => (some t175)) else (some false)) else (some false)) else (some false)) else (some false)) else (none)) else (none)) else (none)) = some r := by first | (rw [hji38] at H; exact H) | (simp only [hji38] at H ⊢; exact H)
           have hji38w : (IntKind.i64.wrap ((t167.length : Int) - 1)) = ji38 := (i64_w _).trans hji38
           by_cases c39 : 0 ≤ (ji38)
           ·rw [if_pos c39] at H
            have c39b0 : decide (0 ≤ (ji38)) = true := dt_ c39
            clear c39
            by_cases c40 : (ji38) < (t167.length : Int)
            ·rw [if_pos c40] at H
             have c40b0 : decide ((ji38) < (t167.length : Int)) = true := dt_ c40
             clear c40
             by_cases c41 : 0 < (t167.length : Int)
             ·rw [if_pos c41] at H
              have c41b0 : decide (0 < (t167.length : Int)) = true := dt_ c41
              have c41b1 : decide (0 < t167.length) = true := dt_ (by omega)
              clear c41
              by_cases c42 : (wrap64 ((rd t167 (ji38)) - (rd t167 0))) ≤ 1024
              ·rw [if_pos c42] at H
               have c42b0 : decide ((wrap64 ((rd t167 (ji38)) - (rd t167 0))) ≤ 1024) = true := dt_ c42
               clear c42
               by_cases c43 : (wrap64 ((rd t167 (ji38)) - (rd t167 0))) ≥ (-1024)
               ·rw [if_pos c43] at H
                have c43b0 : decide ((-1024) ≤ (wrap64 ((rd t167 (ji38)) - (rd t167 0)))) = true := dt_ c43
                clear c43
                by_cases c44 : (Int.tmod (wrap64 ((rd t167 (ji38)) - (rd t167 0))) 256) = 0
                ·rw [if_pos c44] at H
                 have c44b0 : ((Int.tmod (wrap64 ((rd t167 (ji38)) - (rd t167 0))) 256) == 0) = true := beq_iff_eq.mpr c44
                 have c44b1 : ((Int.tmod (wrap64 ((rd t167 (ji38)) - (rd t167 0))) 256) != 0) = false := bne_eq_false_iff_eq.mpr c44
                 clear c44
                 by_cases c45 : (Int.tmod (rd t167 0) 256) = 0
                 ·rw [if_pos c45] at H
                  have c45b0 : ((Int.tmod (rd t167 0) 256) == 0) = true := beq_iff_eq.mpr c45
                  have c45b1 : ((Int.tmod (rd t167 0) 256) != 0) = false := bne_eq_false_iff_eq.mpr c45
                  clear c45
                  replace H := ob_ H
                  obtain ⟨t175, A460, H⟩ := H
                  replace H : (some t175) = some r := H
                  have A46 := sd_ A460
                  clear A460
                  obtain rfl := Option.some.inj H
                  have p172 : 0 ≤ ((ji38) : Int) := od_ (by first | (with_reducible assumption) | assumption)
                  have q172 : (ji38) < (t167.length : Int) := od_ (by first | (with_reducible assumption) | assumption)
                  obtain ⟨ad172, e172, hx172_0⟩ := Kd.at_int (Kd.R_reads' HO_7.out).2.2 (ji38) p172 q172
                  cases e172
                  replace p172 := eq_true p172
                  replace q172 := eq_true q172
                  have p173 : 0 ≤ (0 : Int) := (by omega)
                  have q173 : 0 < (t167.length : Int) := od_ (by first | (with_reducible assumption) | assumption)
                  obtain ⟨ad173, e173, hx173_0⟩ := Kd.at_int (Kd.R_reads' HO_7.out).2.2 0 p173 q173
                  obtain rfl : ad172 = ad173 := (by injection e173)
                  have qi173 : (0 < t167.length) = True := eq_true (by omega)
                  (try rw [show ((0 : Int)).toNat = 0 from rfl] at hx173_0)
                  (try rw [Addr.add_zero'] at hx173_0)
                  replace p173 := eq_true p173
                  replace q173 := eq_true q173
                  have p174 : 0 ≤ (0 : Int) := (by omega)
                  have q174 : 0 < (t167.length : Int) := od_ (by first | (with_reducible assumption) | assumption)
                  obtain ⟨ad174, e174, hx174_0⟩ := Kd.at_int (Kd.R_reads' HO_7.out).2.2 0 p174 q174
                  obtain rfl : ad172 = ad174 := (by injection e174)
                  have qi174 : (0 < t167.length) = True := eq_true (by omega)
                  (try rw [show ((0 : Int)).toNat = 0 from rfl] at hx174_0)
                  (try rw [Addr.add_zero'] at hx174_0)
                  replace p174 := eq_true p174
                  replace q174 := eq_true q174
                  go_wp2_with (first | (go_at_call 6; (with_reducible refine (neumelaw19_heads.calls k3  t175 _ A46.out).mono ?_); rintro e w47 ⟨rfl, hb⟩; have n0_ := sd_ (Kd.R_below (by (with_reducible repeat (first | apply Kd.R_alloc | apply Kd.R_drewN | apply Kd.R_drew)); exact HO_7.out) hb); have n1_ := sd_ (bt_ (by repeat first | exact HB.out | apply ba_ | apply pd_ | apply d1_) hb); clear HO_7; clear HB; have HO_7 := n0_; have HB := n1_; clear n0_ n1_; (try clear hb); (try clear hb2); (try clear hk); (try clear hi)))
                  repeat (go_quiet (first | (go_at_call 6; (with_reducible refine (neumelaw19_heads.calls k3  t175 _ A46.out).mono ?_); rintro e w47 ⟨rfl, hb⟩; have n0_ := sd_ (Kd.R_below (by (with_reducible repeat (first | apply Kd.R_alloc | apply Kd.R_drewN | apply Kd.R_drew)); exact HO_7.out) hb); have n1_ := sd_ (bt_ (by repeat first | exact HB.out | apply ba_ | apply pd_ | apply d1_) hb); clear HO_7; clear HB; have HO_7 := n0_; have HB := n1_; clear n0_ n1_; (try clear hb); (try clear hb2); (try clear hk); (try clear hi))); try go_wp2_with (first | (go_at_call 6; (with_reducible refine (neumelaw19_heads.calls k3  t175 _ A46.out).mono ?_); rintro e w47 ⟨rfl, hb⟩; have n0_ := sd_ (Kd.R_below (by (with_reducible repeat (first | apply Kd.R_alloc | apply Kd.R_drewN | apply Kd.R_drew)); exact HO_7.out) hb); have n1_ := sd_ (bt_ (by repeat first | exact HB.out | apply ba_ | apply pd_ | apply d1_) hb); clear HO_7; clear HB; have HO_7 := n0_; have HB := n1_; clear n0_ n1_; (try clear hb); (try clear hb2); (try clear hk); (try clear hi))))
                  go_ret
                  exact ⟨by first | rfl | (simp [errW_none, errW_some] <;> rfl) | (simp only [← hji38]; first | rfl | (simp [errW_none, errW_some] <;> rfl)) | (simp [*, errW_none, errW_some] <;> rfl), by repeat first | exact HB.out | apply ba_ | apply pd_ | apply d1_⟩
                 ·rw [if_neg c45] at H
                  have c45b0 : ((Int.tmod (rd t167 0) 256) == 0) = false := beq_eq_false_iff_ne.mpr c45
                  have c45b1 : ((Int.tmod (rd t167 0) 256) != 0) = true := bne_iff_ne.mpr c45
                  obtain rfl := Option.some.inj H
                  have p172 : 0 ≤ ((ji38) : Int) := od_ (by first | (with_reducible assumption) | assumption)
                  have q172 : (ji38) < (t167.length : Int) := od_ (by first | (with_reducible assumption) | assumption)
                  obtain ⟨ad172, e172, hx172_0⟩ := Kd.at_int (Kd.R_reads' HO_7.out).2.2 (ji38) p172 q172
                  cases e172
                  replace p172 := eq_true p172
                  replace q172 := eq_true q172
                  have p173 : 0 ≤ (0 : Int) := (by omega)
                  have q173 : 0 < (t167.length : Int) := od_ (by first | (with_reducible assumption) | assumption)
                  obtain ⟨ad173, e173, hx173_0⟩ := Kd.at_int (Kd.R_reads' HO_7.out).2.2 0 p173 q173
                  obtain rfl : ad172 = ad173 := (by injection e173)
                  have qi173 : (0 < t167.length) = True := eq_true (by omega)
                  (try rw [show ((0 : Int)).toNat = 0 from rfl] at hx173_0)
                  (try rw [Addr.add_zero'] at hx173_0)
                  replace p173 := eq_true p173
                  replace q173 := eq_true q173
                  have p174 : 0 ≤ (0 : Int) := (by omega)
                  have q174 : 0 < (t167.length : Int) := od_ (by first | (with_reducible assumption) | assumption)
                  obtain ⟨ad174, e174, hx174_0⟩ := Kd.at_int (Kd.R_reads' HO_7.out).2.2 0 p174 q174
                  obtain rfl : ad172 = ad174 := (by injection e174)
                  have qi174 : (0 < t167.length) = True := eq_true (by omega)
                  (try rw [show ((0 : Int)).toNat = 0 from rfl] at hx174_0)
                  (try rw [Addr.add_zero'] at hx174_0)
                  replace p174 := eq_true p174
                  replace q174 := eq_true q174
                  go_wp2
                  repeat (go_quiet (fail); try go_wp2)
                  go_ret
                  exact ⟨by first | rfl | (simp [errW_none, errW_some] <;> rfl) | (simp only [← hji38]; first | rfl | (simp [errW_none, errW_some] <;> rfl)) | (simp [*, errW_none, errW_some] <;> rfl), by repeat first | exact HB.out | apply ba_ | apply pd_ | apply d1_⟩
                ·rw [if_neg c44] at H
                 have c44b0 : ((Int.tmod (wrap64 ((rd t167 (ji38)) - (rd t167 0))) 256) == 0) = false := beq_eq_false_iff_ne.mpr c44
                 have c44b1 : ((Int.tmod (wrap64 ((rd t167 (ji38)) - (rd t167 0))) 256) != 0) = true := bne_iff_ne.mpr c44
                 obtain rfl := Option.some.inj H
                 have p172 : 0 ≤ ((ji38) : Int) := od_ (by first | (with_reducible assumption) | assumption)
                 have q172 : (ji38) < (t167.length : Int) := od_ (by first | (with_reducible assumption) | assumption)
                 obtain ⟨ad172, e172, hx172_0⟩ := Kd.at_int (Kd.R_reads' HO_7.out).2.2 (ji38) p172 q172
                 cases e172
                 replace p172 := eq_true p172
                 replace q172 := eq_true q172
                 have p173 : 0 ≤ (0 : Int) := (by omega)
                 have q173 : 0 < (t167.length : Int) := od_ (by first | (with_reducible assumption) | assumption)
                 obtain ⟨ad173, e173, hx173_0⟩ := Kd.at_int (Kd.R_reads' HO_7.out).2.2 0 p173 q173
                 obtain rfl : ad172 = ad173 := (by injection e173)
                 have qi173 : (0 < t167.length) = True := eq_true (by omega)
                 (try rw [show ((0 : Int)).toNat = 0 from rfl] at hx173_0)
                 (try rw [Addr.add_zero'] at hx173_0)
                 replace p173 := eq_true p173
                 replace q173 := eq_true q173
                 go_wp2
                 repeat (go_quiet (fail); try go_wp2)
                 go_ret
                 exact ⟨by first | rfl | (simp [errW_none, errW_some] <;> rfl) | (simp only [← hji38]; first | rfl | (simp [errW_none, errW_some] <;> rfl)) | (simp [*, errW_none, errW_some] <;> rfl), by repeat first | exact HB.out | apply ba_ | apply pd_ | apply d1_⟩
               ·rw [if_neg c43] at H
                have c43b0 : decide ((-1024) ≤ (wrap64 ((rd t167 (ji38)) - (rd t167 0)))) = false := df_ c43
                clear c43
                obtain rfl := Option.some.inj H
                have p172 : 0 ≤ ((ji38) : Int) := od_ (by first | (with_reducible assumption) | assumption)
                have q172 : (ji38) < (t167.length : Int) := od_ (by first | (with_reducible assumption) | assumption)
                obtain ⟨ad172, e172, hx172_0⟩ := Kd.at_int (Kd.R_reads' HO_7.out).2.2 (ji38) p172 q172
                cases e172
                replace p172 := eq_true p172
                replace q172 := eq_true q172
                have p173 : 0 ≤ (0 : Int) := (by omega)
                have q173 : 0 < (t167.length : Int) := od_ (by first | (with_reducible assumption) | assumption)
                obtain ⟨ad173, e173, hx173_0⟩ := Kd.at_int (Kd.R_reads' HO_7.out).2.2 0 p173 q173
                obtain rfl : ad172 = ad173 := (by injection e173)
                have qi173 : (0 < t167.length) = True := eq_true (by omega)
                (try rw [show ((0 : Int)).toNat = 0 from rfl] at hx173_0)
                (try rw [Addr.add_zero'] at hx173_0)
                replace p173 := eq_true p173
                replace q173 := eq_true q173
                go_wp2
                repeat (go_quiet (fail); try go_wp2)
                go_ret
                exact ⟨by first | rfl | (simp [errW_none, errW_some] <;> rfl) | (simp only [← hji38]; first | rfl | (simp [errW_none, errW_some] <;> rfl)) | (simp [*, errW_none, errW_some] <;> rfl), by repeat first | exact HB.out | apply ba_ | apply pd_ | apply d1_⟩
              ·rw [if_neg c42] at H
               have c42b0 : decide ((wrap64 ((rd t167 (ji38)) - (rd t167 0))) ≤ 1024) = false := df_ c42
               clear c42
               obtain rfl := Option.some.inj H
               have p172 : 0 ≤ ((ji38) : Int) := od_ (by first | (with_reducible assumption) | assumption)
               have q172 : (ji38) < (t167.length : Int) := od_ (by first | (with_reducible assumption) | assumption)
               obtain ⟨ad172, e172, hx172_0⟩ := Kd.at_int (Kd.R_reads' HO_7.out).2.2 (ji38) p172 q172
               cases e172
               replace p172 := eq_true p172
               replace q172 := eq_true q172
               have p173 : 0 ≤ (0 : Int) := (by omega)
               have q173 : 0 < (t167.length : Int) := od_ (by first | (with_reducible assumption) | assumption)
               obtain ⟨ad173, e173, hx173_0⟩ := Kd.at_int (Kd.R_reads' HO_7.out).2.2 0 p173 q173
               obtain rfl : ad172 = ad173 := (by injection e173)
               have qi173 : (0 < t167.length) = True := eq_true (by omega)
               (try rw [show ((0 : Int)).toNat = 0 from rfl] at hx173_0)
               (try rw [Addr.add_zero'] at hx173_0)
               replace p173 := eq_true p173
               replace q173 := eq_true q173
               go_wp2
               repeat (go_quiet (fail); try go_wp2)
               go_ret
               exact ⟨by first | rfl | (simp [errW_none, errW_some] <;> rfl) | (simp only [← hji38]; first | rfl | (simp [errW_none, errW_some] <;> rfl)) | (simp [*, errW_none, errW_some] <;> rfl), by repeat first | exact HB.out | apply ba_ | apply pd_ | apply d1_⟩
             ·rw [if_neg c41] at H
              exact absurd H (by simp)
            ·rw [if_neg c40] at H
             exact absurd H (by simp)
           ·rw [if_neg c39] at H
            exact absurd H (by simp)
    ·rw [if_neg c10] at H
     have c10b0 : (t168 == 0) = false := beq_eq_false_iff_ne.mpr c10
     have c10b1 : (t168 != 0) = true := bne_iff_ne.mpr c10
     by_cases c48 : (t167.length : Int) = 0
     ·rw [if_pos c48] at H
      have c48b0 : ((t167.length : Int) == 0) = true := beq_iff_eq.mpr c48
      have c48b1 : ((t167.length : Int) != 0) = false := bne_eq_false_iff_eq.mpr c48
      clear c48
      replace H := ob_ H
      obtain ⟨t171, A490, H⟩ := H
      replace H : (some t171) = some r := H
      have A49 := sd_ A490
      clear A490
      obtain rfl := Option.some.inj H
      go_wp2_with (first | (go_at_call 7; (with_reducible refine (slope_Fit.calls kj3 _ _ l0 _ _ l1 a2 t167 t168 _ ?side1 ?side2 ?side3 ?side4 A9.out).mono ?_); (case side1 => repeat (first | exact (Kd.C_below HR0.out HB.out) | (with_reducible refine Kd.C_alloc ?_ _) | (with_reducible refine Kd.C_drewN ?_ _) | (with_reducible refine Kd.C_drew ?_))); (case side2 => exact HC0.out); (case side3 => repeat (first | exact (Kd.C_below HR1.out HB.out) | (with_reducible refine Kd.C_alloc ?_ _) | (with_reducible refine Kd.C_drewN ?_ _) | (with_reducible refine Kd.C_drew ?_))); (case side4 => exact HC1.out); rintro e w50 ⟨v169, rfl, ho0, hb⟩; have n0_ := sd_ (Kd.R_lower ho0 (bz_ (by repeat first | exact HB.out | apply ba_ | apply pd_ | apply d1_))); have n1_ := sd_ (bt_ (by repeat first | exact HB.out | apply ba_ | apply pd_ | apply d1_) hb); clear HB; have HO170 := n0_; have HB := n1_; clear n0_ n1_; (try clear hb); (try clear hb2); (try clear hk); (try clear hi); (try clear ho0); obtain ⟨Ao51, co51, eo51⟩ := Kd.R_slice HO170.out; subst eo51) | (go_at_call 6; (with_reducible refine (neumelaw19_heads.calls kj3  t171 _ A49.out).mono ?_); rintro e w52 ⟨rfl, hb⟩; have n0_ := sd_ (Kd.R_below (by (with_reducible repeat (first | apply Kd.R_alloc | apply Kd.R_drewN | apply Kd.R_drew)); exact HO170.out) hb); have n1_ := sd_ (bt_ (by repeat first | exact HB.out | apply ba_ | apply pd_ | apply d1_) hb); clear HO170; clear HB; have HO170 := n0_; have HB := n1_; clear n0_ n1_; (try clear hb); (try clear hb2); (try clear hk); (try clear hi)))
      repeat (go_quiet (first | (go_at_call 7; (with_reducible refine (slope_Fit.calls kj3 _ _ l0 _ _ l1 a2 t167 t168 _ ?side1 ?side2 ?side3 ?side4 A9.out).mono ?_); (case side1 => repeat (first | exact (Kd.C_below HR0.out HB.out) | (with_reducible refine Kd.C_alloc ?_ _) | (with_reducible refine Kd.C_drewN ?_ _) | (with_reducible refine Kd.C_drew ?_))); (case side2 => exact HC0.out); (case side3 => repeat (first | exact (Kd.C_below HR1.out HB.out) | (with_reducible refine Kd.C_alloc ?_ _) | (with_reducible refine Kd.C_drewN ?_ _) | (with_reducible refine Kd.C_drew ?_))); (case side4 => exact HC1.out); rintro e w50 ⟨v169, rfl, ho0, hb⟩; have n0_ := sd_ (Kd.R_lower ho0 (bz_ (by repeat first | exact HB.out | apply ba_ | apply pd_ | apply d1_))); have n1_ := sd_ (bt_ (by repeat first | exact HB.out | apply ba_ | apply pd_ | apply d1_) hb); clear HB; have HO170 := n0_; have HB := n1_; clear n0_ n1_; (try clear hb); (try clear hb2); (try clear hk); (try clear hi); (try clear ho0); obtain ⟨Ao51, co51, eo51⟩ := Kd.R_slice HO170.out; subst eo51) | (go_at_call 6; (with_reducible refine (neumelaw19_heads.calls kj3  t171 _ A49.out).mono ?_); rintro e w52 ⟨rfl, hb⟩; have n0_ := sd_ (Kd.R_below (by (with_reducible repeat (first | apply Kd.R_alloc | apply Kd.R_drewN | apply Kd.R_drew)); exact HO170.out) hb); have n1_ := sd_ (bt_ (by repeat first | exact HB.out | apply ba_ | apply pd_ | apply d1_) hb); clear HO170; clear HB; have HO170 := n0_; have HB := n1_; clear n0_ n1_; (try clear hb); (try clear hb2); (try clear hk); (try clear hi))); try go_wp2_with (first | (go_at_call 7; (with_reducible refine (slope_Fit.calls kj3 _ _ l0 _ _ l1 a2 t167 t168 _ ?side1 ?side2 ?side3 ?side4 A9.out).mono ?_); (case side1 => repeat (first | exact (Kd.C_below HR0.out HB.out) | (with_reducible refine Kd.C_alloc ?_ _) | (with_reducible refine Kd.C_drewN ?_ _) | (with_reducible refine Kd.C_drew ?_))); (case side2 => exact HC0.out); (case side3 => repeat (first | exact (Kd.C_below HR1.out HB.out) | (with_reducible refine Kd.C_alloc ?_ _) | (with_reducible refine Kd.C_drewN ?_ _) | (with_reducible refine Kd.C_drew ?_))); (case side4 => exact HC1.out); rintro e w50 ⟨v169, rfl, ho0, hb⟩; have n0_ := sd_ (Kd.R_lower ho0 (bz_ (by repeat first | exact HB.out | apply ba_ | apply pd_ | apply d1_))); have n1_ := sd_ (bt_ (by repeat first | exact HB.out | apply ba_ | apply pd_ | apply d1_) hb); clear HB; have HO170 := n0_; have HB := n1_; clear n0_ n1_; (try clear hb); (try clear hb2); (try clear hk); (try clear hi); (try clear ho0); obtain ⟨Ao51, co51, eo51⟩ := Kd.R_slice HO170.out; subst eo51) | (go_at_call 6; (with_reducible refine (neumelaw19_heads.calls kj3  t171 _ A49.out).mono ?_); rintro e w52 ⟨rfl, hb⟩; have n0_ := sd_ (Kd.R_below (by (with_reducible repeat (first | apply Kd.R_alloc | apply Kd.R_drewN | apply Kd.R_drew)); exact HO170.out) hb); have n1_ := sd_ (bt_ (by repeat first | exact HB.out | apply ba_ | apply pd_ | apply d1_) hb); clear HO170; clear HB; have HO170 := n0_; have HB := n1_; clear n0_ n1_; (try clear hb); (try clear hb2); (try clear hk); (try clear hi))))
      go_ret
      exact ⟨by first | rfl | (simp [errW_none, errW_some] <;> rfl) | (simp [*, errW_none, errW_some] <;> rfl), by repeat first | exact HB.out | apply ba_ | apply pd_ | apply d1_⟩
     ·rw [if_neg c48] at H
      have c48b0 : ((t167.length : Int) == 0) = false := beq_eq_false_iff_ne.mpr c48
      have c48b1 : ((t167.length : Int) != 0) = true := bne_iff_ne.mpr c48
      have c48b2 : ¬ (t167 = []) := fun h_ => c48 (by rw [h_]; rfl)
      obtain rfl := Option.some.inj H
      go_wp2_with (first | (go_at_call 7; (with_reducible refine (slope_Fit.calls kj3 _ _ l0 _ _ l1 a2 t167 t168 _ ?side1 ?side2 ?side3 ?side4 A9.out).mono ?_); (case side1 => repeat (first | exact (Kd.C_below HR0.out HB.out) | (with_reducible refine Kd.C_alloc ?_ _) | (with_reducible refine Kd.C_drewN ?_ _) | (with_reducible refine Kd.C_drew ?_))); (case side2 => exact HC0.out); (case side3 => repeat (first | exact (Kd.C_below HR1.out HB.out) | (with_reducible refine Kd.C_alloc ?_ _) | (with_reducible refine Kd.C_drewN ?_ _) | (with_reducible refine Kd.C_drew ?_))); (case side4 => exact HC1.out); rintro e w53 ⟨v169, rfl, ho0, hb⟩; have n0_ := sd_ (Kd.R_lower ho0 (bz_ (by repeat first | exact HB.out | apply ba_ | apply pd_ | apply d1_))); have n1_ := sd_ (bt_ (by repeat first | exact HB.out | apply ba_ | apply pd_ | apply d1_) hb); clear HB; have HO170 := n0_; have HB := n1_; clear n0_ n1_; (try clear hb); (try clear hb2); (try clear hk); (try clear hi); (try clear ho0); obtain ⟨Ao54, co54, eo54⟩ := Kd.R_slice HO170.out; subst eo54))
      repeat (go_quiet (first | (go_at_call 7; (with_reducible refine (slope_Fit.calls kj3 _ _ l0 _ _ l1 a2 t167 t168 _ ?side1 ?side2 ?side3 ?side4 A9.out).mono ?_); (case side1 => repeat (first | exact (Kd.C_below HR0.out HB.out) | (with_reducible refine Kd.C_alloc ?_ _) | (with_reducible refine Kd.C_drewN ?_ _) | (with_reducible refine Kd.C_drew ?_))); (case side2 => exact HC0.out); (case side3 => repeat (first | exact (Kd.C_below HR1.out HB.out) | (with_reducible refine Kd.C_alloc ?_ _) | (with_reducible refine Kd.C_drewN ?_ _) | (with_reducible refine Kd.C_drew ?_))); (case side4 => exact HC1.out); rintro e w53 ⟨v169, rfl, ho0, hb⟩; have n0_ := sd_ (Kd.R_lower ho0 (bz_ (by repeat first | exact HB.out | apply ba_ | apply pd_ | apply d1_))); have n1_ := sd_ (bt_ (by repeat first | exact HB.out | apply ba_ | apply pd_ | apply d1_) hb); clear HB; have HO170 := n0_; have HB := n1_; clear n0_ n1_; (try clear hb); (try clear hb2); (try clear hk); (try clear hi); (try clear ho0); obtain ⟨Ao54, co54, eo54⟩ := Kd.R_slice HO170.out; subst eo54)); try go_wp2_with (first | (go_at_call 7; (with_reducible refine (slope_Fit.calls kj3 _ _ l0 _ _ l1 a2 t167 t168 _ ?side1 ?side2 ?side3 ?side4 A9.out).mono ?_); (case side1 => repeat (first | exact (Kd.C_below HR0.out HB.out) | (with_reducible refine Kd.C_alloc ?_ _) | (with_reducible refine Kd.C_drewN ?_ _) | (with_reducible refine Kd.C_drew ?_))); (case side2 => exact HC0.out); (case side3 => repeat (first | exact (Kd.C_below HR1.out HB.out) | (with_reducible refine Kd.C_alloc ?_ _) | (with_reducible refine Kd.C_drewN ?_ _) | (with_reducible refine Kd.C_drew ?_))); (case side4 => exact HC1.out); rintro e w53 ⟨v169, rfl, ho0, hb⟩; have n0_ := sd_ (Kd.R_lower ho0 (bz_ (by repeat first | exact HB.out | apply ba_ | apply pd_ | apply d1_))); have n1_ := sd_ (bt_ (by repeat first | exact HB.out | apply ba_ | apply pd_ | apply d1_) hb); clear HB; have HO170 := n0_; have HB := n1_; clear n0_ n1_; (try clear hb); (try clear hb2); (try clear hk); (try clear hi); (try clear ho0); obtain ⟨Ao54, co54, eo54⟩ := Kd.R_slice HO170.out; subst eo54)))
      go_ret
      exact ⟨by first | rfl | (simp [errW_none, errW_some] <;> rfl) | (simp [*, errW_none, errW_some] <;> rfl), by repeat first | exact HB.out | apply ba_ | apply pd_ | apply d1_⟩

/-- THE ONE PURE STATEMENT of neumelaw19_SlopeShort: yours. -/
def neumelaw19_SlopeShort.Pure : Prop := ∀ (l0 : List Int) (l1 : List Int) (a2 : Bool), l0.length ≤ maxLen → l0.length * 8 ≤ 140737488351232 → (∀ x ∈ l0, (Lit.int .i64 x).wf = true) → l1.length ≤ maxLen → l1.length * 8 ≤ 140737488351232 → (∀ x ∈ l1, (Lit.int .i64 x).wf = true) → ∃ k, neumelaw19_SlopeShort.f k l0 l1 a2 = some true
theorem neumelaw19_SlopeShort.walk (P : neumelaw19_SlopeShort.Pure) (a0 : Option Addr) (len0 cap0 : Nat) (z0 : List Int) (a1 : Option Addr) (len1 cap1 : Nat) (z1 : List Int) (a2 : Bool) (w : World) (w0 : (a0 = none ∧ len0 = 0 ∧ cap0 = 0 ∧ z0 = []) ∨ ∃ x, a0 = some x ∧ len0 ≤ cap0 ∧ cap0 ≤ maxLen ∧ z0.length = cap0 ∧ (∀ i, i < z0.length → w.cell? (x.add i) = some (.int .i64 (z0.getD i 0))) ∧ ∀ n ∈ z0, (Lit.int .i64 n).wf = true) (y0 : len0 * 8 ≤ 140737488351232) (w1 : (a1 = none ∧ len1 = 0 ∧ cap1 = 0 ∧ z1 = []) ∨ ∃ x, a1 = some x ∧ len1 ≤ cap1 ∧ cap1 ≤ maxLen ∧ z1.length = cap1 ∧ (∀ i, i < z1.length → w.cell? (x.add i) = some (.int .i64 (z1.getD i 0))) ∧ ∀ n ∈ z1, (Lit.int .i64 n).wf = true) (y1 : len1 * 8 ≤ 140737488351232) :
  Calls Try.prog 3 #[.slice a0 len0 cap0, .slice a1 len1 cap1, .bool a2] w fun e w' => e = .returned (.bool true) ∧ Below w.heap.size w w' := by
 obtain ⟨l0, rfl, hr0, hm0, hw0, hc0⟩ := ReadsInt.ofRowC w0
 obtain ⟨l1, rfl, hr1, hm1, hw1, hc1⟩ := ReadsInt.ofRowC w1
 obtain ⟨k, h⟩ := P l0 l1 a2 hm0 y0 hw0 hm1 y1 hw1
 refine (neumelaw19_SlopeShort.calls k _ _ l0 _ _ l1 a2 true w (Kd.C_of_reads (d := (0 : Int)) (h1 := fun _ => rfl) hr0) hc0 (Kd.C_of_reads (d := (0 : Int)) (h1 := fun _ => rfl) hr1) hc1 h).mono ?_
 rintro e w' ⟨rfl, hd⟩
 exact ⟨rfl, hd⟩

end Go.Proofs.Ytbmdbkjmleimmaa.P
