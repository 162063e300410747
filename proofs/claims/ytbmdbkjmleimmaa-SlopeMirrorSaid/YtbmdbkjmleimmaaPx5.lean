-- Written by a program of this session (wip/tools/xprint.py, over the kit's print): Lean checks it.
import Derived.Test.YtbmdbkjmleimmaaPx0
import Derived.Test.YtbmdbkjmleimmaaPx2
import Derived.Test.YtbmdbkjmleimmaaPx3
namespace Go.Proofs.Ytbmdbkjmleimmaa.P
open Go.RowKit Go.Proofs.YtbmdbkjmleimmaaW.PrintWords Go.Proofs.YtbmdbkjmleimmaaW.PrintLast Go.Proofs.YtbmdbkjmleimmaaW.PrintMore
attribute [local go_sem] max2_int min2_int max_two min_two max_three min_three max_four min_four   -- for this text's walks alone
set_option linter.unusedVariables false
set_option linter.unusedSimpArgs false

/-! ### neumelaw19_SlopeMirror: function 4 -/
mutual
def neumelaw19_SlopeMirror.j0 : Nat → List Int → List Int → Bool → Bool → Option (Bool)
 | 0, _, _, _, _ => none
 | k + 1, x0, x1, x2, x21 => if x21 = true then ((neumelaw19_heads.f k).bind fun t190 => (some t190)) else (neumelaw19_SlopeMirror.l0 k x0 x1 x2 ([] : List Int) 0)
def neumelaw19_SlopeMirror.l0 : Nat → List Int → List Int → Bool → List Int → Int → Option (Bool)
 | 0, _, _, _, _, _ => none
 | k + 1, x0, x1, x2, x7, x8 => if x8 < (x1.length : Int) then (if 0 ≤ x8 then (if (rd x1 x8) < (-1099511627776) then ((neumelaw19_heads.f k).bind fun t192 => (some t192)) else (if (rd x1 x8) > 1099511627776 then ((neumelaw19_heads.f k).bind fun t194 => (some t194)) else (if x7.length < 17592186044416 then (neumelaw19_SlopeMirror.l0 k x0 x1 x2 (x7 ++ [wrap64 (-(rd x1 x8))]) (wrap64 (x8 + 1))) else (none)))) else (none)) else ((slope_Fit.f k x0 x1 x2).bind fun bt199 => ((slope_Fit.f k x0 x7 (!x2)).bind fun bt203 => (if bt199.2 = bt203.2 then (if (bt199.1.length : Int) = (bt203.1.length : Int) then ((slope_Slant.f x1 x2).bind fun t207 => ((slope_Slant.f x7 (!x2)).bind fun t208 => (neumelaw19_SlopeMirror.j2 k bt199.1 bt203.1 (t207 != (wrap64 (-t208)))))) else (neumelaw19_SlopeMirror.j2 k bt199.1 bt203.1 true)) else (neumelaw19_SlopeMirror.j2 k bt199.1 bt203.1 true))))
def neumelaw19_SlopeMirror.j2 : Nat → List Int → List Int → Bool → Option (Bool)
 | 0, _, _, _ => none
 | k + 1, x9, x11, x85 => if x85 = true then (some false) else (neumelaw19_SlopeMirror.l1 k x9 x11 0)
def neumelaw19_SlopeMirror.l1 : Nat → List Int → List Int → Int → Option (Bool)
 | 0, _, _, _ => none
 | k + 1, x9, x11, x13 => if x13 < (x9.length : Int) then (if 0 ≤ x13 then (if x13 < (x11.length : Int) then (if (rd x9 x13) = (wrap64 (-(rd x11 x13))) then (neumelaw19_SlopeMirror.l1 k x9 x11 (wrap64 (x13 + 1))) else (some false)) else (none)) else (none)) else ((neumelaw19_heads.f k).bind fun t211 => (some t211))
end
def neumelaw19_SlopeMirror.f (k : Nat) (l0 : List Int) (l1 : List Int) (a2 : Bool) : Option (Bool) := if (l0.length : Int) > 400 then (neumelaw19_SlopeMirror.j0 k l0 l1 a2 true) else (neumelaw19_SlopeMirror.j0 k l0 l1 a2 (decide ((l1.length : Int) > 400)))
theorem neumelaw19_SlopeMirror.mono_l : ∀ k, (∀ y0 y1 y2 y3, LeO (neumelaw19_SlopeMirror.j0 k y0 y1 y2 y3) (neumelaw19_SlopeMirror.j0 (k + 1) y0 y1 y2 y3)) ∧ (∀ y0 y1 y2 y3 y4, LeO (neumelaw19_SlopeMirror.l0 k y0 y1 y2 y3 y4) (neumelaw19_SlopeMirror.l0 (k + 1) y0 y1 y2 y3 y4)) ∧ (∀ y0 y1 y2, LeO (neumelaw19_SlopeMirror.j2 k y0 y1 y2) (neumelaw19_SlopeMirror.j2 (k + 1) y0 y1 y2)) ∧ (∀ y0 y1 y2, LeO (neumelaw19_SlopeMirror.l1 k y0 y1 y2) (neumelaw19_SlopeMirror.l1 (k + 1) y0 y1 y2))
 | 0 => ⟨fun _ _ _ _ r h => by simp [neumelaw19_SlopeMirror.j0] at h, fun _ _ _ _ _ r h => by simp [neumelaw19_SlopeMirror.l0] at h, fun _ _ _ r h => by simp [neumelaw19_SlopeMirror.j2] at h, fun _ _ _ r h => by simp [neumelaw19_SlopeMirror.l1] at h⟩
 | k + 1 => by
  obtain ⟨ih0, ih1, ih2, ih3⟩ := neumelaw19_SlopeMirror.mono_l k
  refine ⟨?_, ?_, ?_, ?_⟩
  ·intro y0 y1 y2 y3
   unfold neumelaw19_SlopeMirror.j0
   repeat' first
   | (with_reducible exact ih0 _ _ _ _)
   | (with_reducible exact ih1 _ _ _ _ _)
   | (with_reducible exact ih2 _ _ _)
   | (with_reducible exact ih3 _ _ _)
   | (with_reducible exact neumelaw19_heads.mono _)
   | (with_reducible exact slope_Fit.mono _ _ _ _)
   | (with_reducible exact LeO.refl _)
   | (with_reducible exact LeO.none _)
   | (with_reducible refine LeO.ite ?_ ?_)
   | (with_reducible refine LeO.bind ?_ (fun _ => ?_))
   | exact ih0 _ _ _ _
   | exact ih1 _ _ _ _ _
   | exact ih2 _ _ _
   | exact ih3 _ _ _
   | exact neumelaw19_heads.mono _
   | exact slope_Fit.mono _ _ _ _
   | exact LeO.none _
   | refine LeO.ite ?_ ?_
   | refine LeO.bind ?_ (fun _ => ?_)
  ·intro y0 y1 y2 y3 y4
   unfold neumelaw19_SlopeMirror.l0
   repeat' first
   | (with_reducible exact ih0 _ _ _ _)
   | (with_reducible exact ih1 _ _ _ _ _)
   | (with_reducible exact ih2 _ _ _)
   | (with_reducible exact ih3 _ _ _)
   | (with_reducible exact neumelaw19_heads.mono _)
   | (with_reducible exact slope_Fit.mono _ _ _ _)
   | (with_reducible exact LeO.refl _)
   | (with_reducible exact LeO.none _)
   | (with_reducible refine LeO.ite ?_ ?_)
   | (with_reducible refine LeO.bind ?_ (fun _ => ?_))
   | exact ih0 _ _ _ _
   | exact ih1 _ _ _ _ _
   | exact ih2 _ _ _
   | exact ih3 _ _ _
   | exact neumelaw19_heads.mono _
   | exact slope_Fit.mono _ _ _ _
   | exact LeO.none _
   | refine LeO.ite ?_ ?_
   | refine LeO.bind ?_ (fun _ => ?_)
  ·intro y0 y1 y2
   unfold neumelaw19_SlopeMirror.j2
   repeat' first
   | (with_reducible exact ih0 _ _ _ _)
   | (with_reducible exact ih1 _ _ _ _ _)
   | (with_reducible exact ih2 _ _ _)
   | (with_reducible exact ih3 _ _ _)
   | (with_reducible exact neumelaw19_heads.mono _)
   | (with_reducible exact slope_Fit.mono _ _ _ _)
   | (with_reducible exact LeO.refl _)
   | (with_reducible exact LeO.none _)
   | (with_reducible refine LeO.ite ?_ ?_)
   | (with_reducible refine LeO.bind ?_ (fun _ => ?_))
   | exact ih0 _ _ _ _
   | exact ih1 _ _ _ _ _
   | exact ih2 _ _ _
   | exact ih3 _ _ _
   | exact neumelaw19_heads.mono _
   | exact slope_Fit.mono _ _ _ _
   | exact LeO.none _
   | refine LeO.ite ?_ ?_
   | refine LeO.bind ?_ (fun _ => ?_)
  ·intro y0 y1 y2
   unfold neumelaw19_SlopeMirror.l1
   repeat' first
   | (with_reducible exact ih0 _ _ _ _)
   | (with_reducible exact ih1 _ _ _ _ _)
   | (with_reducible exact ih2 _ _ _)
   | (with_reducible exact ih3 _ _ _)
   | (with_reducible exact neumelaw19_heads.mono _)
   | (with_reducible exact slope_Fit.mono _ _ _ _)
   | (with_reducible exact LeO.refl _)
   | (with_reducible exact LeO.none _)
   | (with_reducible refine LeO.ite ?_ ?_)
   | (with_reducible refine LeO.bind ?_ (fun _ => ?_))
   | exact ih0 _ _ _ _
   | exact ih1 _ _ _ _ _
   | exact ih2 _ _ _
   | exact ih3 _ _ _
   | exact neumelaw19_heads.mono _
   | exact slope_Fit.mono _ _ _ _
   | exact LeO.none _
   | refine LeO.ite ?_ ?_
   | refine LeO.bind ?_ (fun _ => ?_)
theorem neumelaw19_SlopeMirror.mono : ∀ a0 a1 a2 k, LeO (neumelaw19_SlopeMirror.f k a0 a1 a2) (neumelaw19_SlopeMirror.f (k + 1) a0 a1 a2) := by
 intro a0 a1 a2 k
 obtain ⟨ih0, ih1, ih2, ih3⟩ := neumelaw19_SlopeMirror.mono_l k
 unfold neumelaw19_SlopeMirror.f
 repeat' first
   | (with_reducible exact ih0 _ _ _ _)
   | (with_reducible exact ih1 _ _ _ _ _)
   | (with_reducible exact ih2 _ _ _)
   | (with_reducible exact ih3 _ _ _)
   | (with_reducible exact neumelaw19_heads.mono _)
   | (with_reducible exact slope_Fit.mono _ _ _ _)
   | (with_reducible exact LeO.refl _)
   | (with_reducible exact LeO.none _)
   | (with_reducible refine LeO.ite ?_ ?_)
   | (with_reducible refine LeO.bind ?_ (fun _ => ?_))
   | exact ih0 _ _ _ _
   | exact ih1 _ _ _ _ _
   | exact ih2 _ _ _
   | exact ih3 _ _ _
   | exact neumelaw19_heads.mono _
   | exact slope_Fit.mono _ _ _ _
   | exact LeO.none _
   | refine LeO.ite ?_ ?_
   | refine LeO.bind ?_ (fun _ => ?_)
set_option maxHeartbeats 8000000 in
set_option maxRecDepth 100000 in
theorem neumelaw19_SlopeMirror.calls (k : Nat) (A0 : Option Addr) (c0 : Nat) (l0 : List Int) (A1 : Option Addr) (c1 : Nat) (l1 : List Int) (a2 : Bool) (r : Bool) (w : World) (hr0 : Kd.C (Kd.int .i64) w A0 l0.length l0) (hc0 : l0.length ≤ c0) (hr1 : Kd.C (Kd.int .i64) w A1 l1.length l1) (hc1 : l1.length ≤ c1) (h : neumelaw19_SlopeMirror.f k l0 l1 a2 = some r) :
  Calls Try.prog 4 #[.slice A0 l0.length c0, .slice A1 l1.length c1, .bool a2] w fun e w' => e = .returned (.bool r) ∧ Below w.heap.size w w' := by
 have HR0 := sd_ hr0
 have HC0 := sd_ hc0
 clear hr0 hc0
 have HR1 := sd_ hr1
 have HC1 := sd_ hc1
 clear hr1 hc1
 have HB := sd_ (Below.refl w.heap.size w)
 have H : (if (l0.length : Int) > 400 then (neumelaw19_SlopeMirror.j0 k l0 l1 a2 true) else (neumelaw19_SlopeMirror.j0 k l0 l1 a2 (decide ((l1.length : Int) > 400)))) = some r := h
 clear h
 have HC4 := sd_ H
 clear H
 go_enter Try.func4, Try.ntmps4
 go_upto_region 1 with (fail)
 repeat (go_quiet (fail); go_upto_region 1 with (fail))
 go_cut [21] (fun v21 wc => ∃ (kq : Nat) (x21_3 : Bool), v21 = .bool x21_3 ∧ Aside0 (neumelaw19_SlopeMirror.j0 kq l0 l1 a2 x21_3 = some r) ∧ Aside0 (kq ≤ k) ∧ Aside0 (Below w.heap.size w wc))
 case first =>
  have H := HC4.out
  clear HC4
  by_cases c5 : (l0.length : Int) > 400
  ·rw [if_pos c5] at H
   have c5b0 : decide (400 < (l0.length : Int)) = true := dt_ c5
   have c5b1 : decide (400 < l0.length) = true := dt_ (by omega)
   clear c5
   (first | rw [c5b0] | (simp only [i64_w, i32_w]; rw [c5b0]) | skip)
   have H' := sd_ H
   clear H
   go_wp2
   repeat (go_quiet (fail); try go_wp2)
   go_meet
   case rel => exact ⟨_, (true), (by first | rfl | (simp; done) | (simp [*]; done)), H', ⟨by first | omega | exact Nat.le_refl _⟩, ⟨by repeat first | exact HB.out | apply ba_ | apply pd_ | apply d1_⟩⟩
  ·rw [if_neg c5] at H
   have c5b0 : decide (400 < (l0.length : Int)) = false := df_ c5
   have c5b1 : decide (400 < l0.length) = false := df_ (by omega)
   clear c5
   (first | rw [c5b0] | (simp only [i64_w, i32_w]; rw [c5b0]) | skip)
   have H' := sd_ H
   clear H
   go_wp2
   repeat (go_quiet (fail); try go_wp2)
   go_meet
   case rel => exact ⟨_, (decide ((l1.length : Int) > 400)), (by first | rfl | (simp; done) | (simp [*]; done)), H', ⟨by first | omega | exact Nat.le_refl _⟩, ⟨by repeat first | exact HB.out | apply ba_ | apply pd_ | apply d1_⟩⟩
 case rest =>
  clear HC4
  try clear c1; try clear p2; try clear c4; try clear c5; try clear c5b0; try clear c5b1
  obtain ⟨kq, x21_3, rfl, HA, HJ3, HB⟩ := hcut
  cases kq with
  | zero => exact absurd HA.out (by simp [neumelaw19_SlopeMirror.j0])
  | succ kj3 =>
   have H := HA.out
   clear HA
   simp only [neumelaw19_SlopeMirror.j0] at H
   by_cases c6 : x21_3 = true
   ·subst c6
    have H1 : ((neumelaw19_heads.f kj3).bind fun t190 => (some t190)) = some r := by rw [if_pos rfl] at H; exact H
    clear H; have H := H1; clear H1
    replace H := ob_ H
    obtain ⟨t190, A70, H⟩ := H
    replace H : (some t190) = some r := H
    have A7 := sd_ A70
    clear A70
    obtain rfl := Option.some.inj H
    go_wp2_with (first | (go_at_call 6; (with_reducible refine (neumelaw19_heads.calls kj3  t190 _ A7.out).mono ?_); rintro e w8 ⟨rfl, hb⟩; have n0_ := sd_ (bt_ (by repeat first | exact HB.out | apply ba_ | apply pd_ | apply d1_) hb); clear HB; have HB := n0_; clear n0_; (try clear hb); (try clear hb2); (try clear hk); (try clear hi)))
    repeat (go_quiet (first | (go_at_call 6; (with_reducible refine (neumelaw19_heads.calls kj3  t190 _ A7.out).mono ?_); rintro e w8 ⟨rfl, hb⟩; have n0_ := sd_ (bt_ (by repeat first | exact HB.out | apply ba_ | apply pd_ | apply d1_) hb); clear HB; have HB := n0_; clear n0_; (try clear hb); (try clear hb2); (try clear hk); (try clear hi))); try go_wp2_with (first | (go_at_call 6; (with_reducible refine (neumelaw19_heads.calls kj3  t190 _ A7.out).mono ?_); rintro e w8 ⟨rfl, hb⟩; have n0_ := sd_ (bt_ (by repeat first | exact HB.out | apply ba_ | apply pd_ | apply d1_) hb); clear HB; have HB := n0_; clear n0_; (try clear hb); (try clear hb2); (try clear hk); (try clear hi))))
    go_ret
    exact ⟨by first | rfl | (simp [errW_none, errW_some] <;> rfl) | (simp [*, errW_none, errW_some] <;> rfl), by repeat first | exact HB.out | apply ba_ | apply pd_ | apply d1_⟩
   ·replace c6 := bf_ c6
    subst c6
    have H1 : (neumelaw19_SlopeMirror.l0 kj3 l0 l1 a2 ([] : List Int) 0) = some r := by rw [if_neg (show ¬ (false = true) by decide)] at H; exact H
    clear H; have H := H1; clear H1
    have H' := sd_ H
    clear H
    go_wp2
    repeat (go_quiet (fail); try go_wp2)
    go_loopg [7, 8] kj3 (fun kq v7 v8 w' => ∃ (x7_2 : List Int) (x8_2 : Int), v8 = .int .i64 x8_2 ∧ Aside0 (neumelaw19_SlopeMirror.l0 kq l0 l1 a2 x7_2 x8_2 = some r) ∧ Aside0 (kq ≤ kj3) ∧ Aside0 (Kd.R (Kd.int .i64) 3 w' w.heap.size (fun _ => True) v7 x7_2) ∧ Aside0 (Below w.heap.size w w'))
    case atStart => exact ⟨(([] : List Int)), (0), (by first | rfl | (simp; done) | (simp [*]; done)), H', ⟨Nat.le_refl _⟩, ⟨by first | exact Kd.R_nil _ _ _ _ _ | exact Kd.N_nil _ _ _ _ _ | exact Kd.V_nil _ _ _ _ _ | exact Kd.Q_nil _ _ _ _ _ | exact Kd.S_nil _ _ _ _ _⟩, ⟨by repeat first | exact HB.out | apply ba_ | apply pd_ | apply d1_⟩⟩
    case round =>
     clear H'
     try clear c1; try clear p2; try clear c4; try clear c5; try clear c5b0; try clear c5b1; try clear c6; try clear p2
     obtain ⟨x7_2, x8_2, rfl, HA, HK2, HO_7, HB⟩ := hrel
     cases gk with
     | zero => exact absurd HA.out (by simp [neumelaw19_SlopeMirror.l0])
     | succ k2 =>
      have H := HA.out
      clear HA
      simp only [neumelaw19_SlopeMirror.l0] at H
      by_cases c9 : x8_2 < (l1.length : Int)
      ·rw [if_pos c9] at H
       have c9b0 : decide (x8_2 < (l1.length : Int)) = true := dt_ c9
       clear c9
       by_cases c10 : 0 ≤ x8_2
       ·rw [if_pos c10] at H
        have c10b0 : decide (0 ≤ x8_2) = true := dt_ c10
        clear c10
        by_cases c11 : (rd l1 x8_2) < (-1099511627776)
        ·rw [if_pos c11] at H
         have c11b0 : decide ((rd l1 x8_2) < (-1099511627776)) = true := dt_ c11
         clear c11
         replace H := ob_ H
         obtain ⟨t192, A120, H⟩ := H
         replace H : (some t192) = some r := H
         have A12 := sd_ A120
         clear A120
         obtain rfl := Option.some.inj H
         have p191 : 0 ≤ (x8_2 : Int) := od_ (by first | (with_reducible assumption) | assumption)
         have q191 : x8_2 < (l1.length : Int) := od_ (by first | (with_reducible assumption) | assumption)
         obtain ⟨ad191, e191, hx191_0⟩ := Kd.at_int HR1.out x8_2 p191 q191
         cases e191
         replace hx191_0 := (HB.out.cell (wb_ w _ hx191_0)).trans hx191_0
         replace p191 := eq_true p191
         replace q191 := eq_true q191
         go_wp2_with (first | (go_at_call 6; (with_reducible refine (neumelaw19_heads.calls k2  t192 _ A12.out).mono ?_); rintro e w13 ⟨rfl, hb⟩; have n0_ := sd_ (Kd.R_below (by (with_reducible repeat (first | apply Kd.R_alloc | apply Kd.R_drewN | apply Kd.R_drew)); exact HO_7.out) hb); have n1_ := sd_ (bt_ (by repeat first | exact HB.out | apply ba_ | apply pd_ | apply d1_) hb); clear HO_7; clear HB; have HO_7 := n0_; have HB := n1_; clear n0_ n1_; (try clear hb); (try clear hb2); (try clear hk); (try clear hi)))
         repeat (go_quiet (first | (go_at_call 6; (with_reducible refine (neumelaw19_heads.calls k2  t192 _ A12.out).mono ?_); rintro e w13 ⟨rfl, hb⟩; have n0_ := sd_ (Kd.R_below (by (with_reducible repeat (first | apply Kd.R_alloc | apply Kd.R_drewN | apply Kd.R_drew)); exact HO_7.out) hb); have n1_ := sd_ (bt_ (by repeat first | exact HB.out | apply ba_ | apply pd_ | apply d1_) hb); clear HO_7; clear HB; have HO_7 := n0_; have HB := n1_; clear n0_ n1_; (try clear hb); (try clear hb2); (try clear hk); (try clear hi))); try go_wp2_with (first | (go_at_call 6; (with_reducible refine (neumelaw19_heads.calls k2  t192 _ A12.out).mono ?_); rintro e w13 ⟨rfl, hb⟩; have n0_ := sd_ (Kd.R_below (by (with_reducible repeat (first | apply Kd.R_alloc | apply Kd.R_drewN | apply Kd.R_drew)); exact HO_7.out) hb); have n1_ := sd_ (bt_ (by repeat first | exact HB.out | apply ba_ | apply pd_ | apply d1_) hb); clear HO_7; clear HB; have HO_7 := n0_; have HB := n1_; clear n0_ n1_; (try clear hb); (try clear hb2); (try clear hk); (try clear hi))))
         go_ret
         exact ⟨by first | rfl | (simp [errW_none, errW_some] <;> rfl) | (simp [*, errW_none, errW_some] <;> rfl), by repeat first | exact HB.out | apply ba_ | apply pd_ | apply d1_⟩
        ·rw [if_neg c11] at H
         have c11b0 : decide ((rd l1 x8_2) < (-1099511627776)) = false := df_ c11
         clear c11
         by_cases c14 : (rd l1 x8_2) > 1099511627776
         ·rw [if_pos c14] at H
          have c14b0 : decide (1099511627776 < (rd l1 x8_2)) = true := dt_ c14
          clear c14
          replace H := ob_ H
          obtain ⟨t194, A150, H⟩ := H
          replace H : (some t194) = some r := H
          have A15 := sd_ A150
          clear A150
          obtain rfl := Option.some.inj H
          have p191 : 0 ≤ (x8_2 : Int) := od_ (by first | (with_reducible assumption) | assumption)
          have q191 : x8_2 < (l1.length : Int) := od_ (by first | (with_reducible assumption) | assumption)
          obtain ⟨ad191, e191, hx191_0⟩ := Kd.at_int HR1.out x8_2 p191 q191
          cases e191
          replace hx191_0 := (HB.out.cell (wb_ w _ hx191_0)).trans hx191_0
          replace p191 := eq_true p191
          replace q191 := eq_true q191
          have p193 : 0 ≤ (x8_2 : Int) := od_ (by first | (with_reducible assumption) | assumption)
          have q193 : x8_2 < (l1.length : Int) := od_ (by first | (with_reducible assumption) | assumption)
          obtain ⟨ad193, e193, hx193_0⟩ := Kd.at_int HR1.out x8_2 p193 q193
          obtain rfl : ad191 = ad193 := (by injection e193)
          replace hx193_0 := (HB.out.cell (wb_ w _ hx193_0)).trans hx193_0
          replace p193 := eq_true p193
          replace q193 := eq_true q193
          go_wp2_with (first | (go_at_call 6; (with_reducible refine (neumelaw19_heads.calls k2  t194 _ A15.out).mono ?_); rintro e w16 ⟨rfl, hb⟩; have n0_ := sd_ (Kd.R_below (by (with_reducible repeat (first | apply Kd.R_alloc | apply Kd.R_drewN | apply Kd.R_drew)); exact HO_7.out) hb); have n1_ := sd_ (bt_ (by repeat first | exact HB.out | apply ba_ | apply pd_ | apply d1_) hb); clear HO_7; clear HB; have HO_7 := n0_; have HB := n1_; clear n0_ n1_; (try clear hb); (try clear hb2); (try clear hk); (try clear hi)))
          repeat (go_quiet (first | (go_at_call 6; (with_reducible refine (neumelaw19_heads.calls k2  t194 _ A15.out).mono ?_); rintro e w16 ⟨rfl, hb⟩; have n0_ := sd_ (Kd.R_below (by (with_reducible repeat (first | apply Kd.R_alloc | apply Kd.R_drewN | apply Kd.R_drew)); exact HO_7.out) hb); have n1_ := sd_ (bt_ (by repeat first | exact HB.out | apply ba_ | apply pd_ | apply d1_) hb); clear HO_7; clear HB; have HO_7 := n0_; have HB := n1_; clear n0_ n1_; (try clear hb); (try clear hb2); (try clear hk); (try clear hi))); try go_wp2_with (first | (go_at_call 6; (with_reducible refine (neumelaw19_heads.calls k2  t194 _ A15.out).mono ?_); rintro e w16 ⟨rfl, hb⟩; have n0_ := sd_ (Kd.R_below (by (with_reducible repeat (first | apply Kd.R_alloc | apply Kd.R_drewN | apply Kd.R_drew)); exact HO_7.out) hb); have n1_ := sd_ (bt_ (by repeat first | exact HB.out | apply ba_ | apply pd_ | apply d1_) hb); clear HO_7; clear HB; have HO_7 := n0_; have HB := n1_; clear n0_ n1_; (try clear hb); (try clear hb2); (try clear hk); (try clear hi))))
          go_ret
          exact ⟨by first | rfl | (simp [errW_none, errW_some] <;> rfl) | (simp [*, errW_none, errW_some] <;> rfl), by repeat first | exact HB.out | apply ba_ | apply pd_ | apply d1_⟩
         ·rw [if_neg c14] at H
          have c14b0 : decide (1099511627776 < (rd l1 x8_2)) = false := df_ c14
          clear c14
          by_cases c17 : x7_2.length < 17592186044416
          ·rw [if_pos c17] at H
           have LMc17 := sd_ c17
           clear c17
           obtain ⟨y196, hy196⟩ : ∃ y_ : List Int, y_ = (x7_2 ++ [wrap64 (-(rd l1 x8_2))]) := ⟨_, rfl⟩
           replace H : (neumelaw19_SlopeMirror.l0 k2 l0 l1 a2 y196 (wrap64 (x8_2 + 1))) = some r := by first | (rw [hy196]; with_reducible exact H) | (have H2_ := (Option.bind_some _ _).symm.trans H; rw [hy196]; with_reducible exact H2_) | (have H2_ := (Option.bind_some _ _).symm.trans H; with_reducible exact H2_) | with_reducible exact H | (rw [hy196]; exact H) | exact H
           have Ny196 := sd_ hy196
           clear hy196
           have H' := sd_ H
           clear H
           have p191 : 0 ≤ (x8_2 : Int) := od_ (by first | (with_reducible assumption) | assumption)
           have q191 : x8_2 < (l1.length : Int) := od_ (by first | (with_reducible assumption) | assumption)
           obtain ⟨ad191, e191, hx191_0⟩ := Kd.at_int HR1.out x8_2 p191 q191
           cases e191
           replace hx191_0 := (HB.out.cell (wb_ w _ hx191_0)).trans hx191_0
           replace p191 := eq_true p191
           replace q191 := eq_true q191
           have p193 : 0 ≤ (x8_2 : Int) := od_ (by first | (with_reducible assumption) | assumption)
           have q193 : x8_2 < (l1.length : Int) := od_ (by first | (with_reducible assumption) | assumption)
           obtain ⟨ad193, e193, hx193_0⟩ := Kd.at_int HR1.out x8_2 p193 q193
           obtain rfl : ad191 = ad193 := (by injection e193)
           replace hx193_0 := (HB.out.cell (wb_ w _ hx193_0)).trans hx193_0
           replace p193 := eq_true p193
           replace q193 := eq_true q193
           have p195 : 0 ≤ (x8_2 : Int) := od_ (by first | (with_reducible assumption) | assumption)
           have q195 : x8_2 < (l1.length : Int) := od_ (by first | (with_reducible assumption) | assumption)
           obtain ⟨ad195, e195, hx195_0⟩ := Kd.at_int HR1.out x8_2 p195 q195
           obtain rfl : ad191 = ad195 := (by injection e195)
           replace hx195_0 := (HB.out.cell (wb_ w _ hx195_0)).trans hx195_0
           replace p195 := eq_true p195
           replace q195 := eq_true q195
           go_wp2_with (first | ((with_reducible refine gate_builtin (b := .append) (xs := #[.tmp 42, .tmp 48]) rfl ?_); (try (refine gate_guard (by rfl) ?_; dsimp only)); at_builtin; refine Kd.R_append (Kd.int .i64) (w0 := w) w.heap.size rfl (.tmp 42) (.tmp 48) 22 3 (.int .i64 0) 8 rfl Try.underlying22 info3 rfl (by decide) (by omega) u7 x7_2 (wrap64 (-(rd l1 x8_2))) [.int .i64 (wrap64 (-(rd l1 x8_2)))] (fun _ => True) (fun _ => False) rfl rfl ?aP (fun _ hk => hk.elim) ?aF ?aO ?aB ?aS ?aL ?_; (case aP => exact rfl); (case aB => exact (by repeat first | exact HB.out | apply ba_ | apply pd_ | apply d1_)); (case aF => exact (fun _ _ => trivial)); (case aO => exact (by (with_reducible repeat (first | apply Kd.R_alloc | apply Kd.R_drewN | apply Kd.R_drew)); exact HO_7.out)); (case aS => exact (bz_ (by repeat first | exact HB.out | apply ba_ | apply pd_ | apply d1_))); (case aL => have := LMc17.out; omega); intro v197 w18 ho hb hg hat; rw [← Ny196.out] at ho; have n0_ := sd_ (hb); have n1_ := sd_ (ho); clear HB; clear HO_7; have HB := n0_; have HO198 := n1_; clear n0_ n1_; clear ho hb hg hat))
           repeat (go_quiet (first | ((with_reducible refine gate_builtin (b := .append) (xs := #[.tmp 42, .tmp 48]) rfl ?_); (try (refine gate_guard (by rfl) ?_; dsimp only)); at_builtin; refine Kd.R_append (Kd.int .i64) (w0 := w) w.heap.size rfl (.tmp 42) (.tmp 48) 22 3 (.int .i64 0) 8 rfl Try.underlying22 info3 rfl (by decide) (by omega) u7 x7_2 (wrap64 (-(rd l1 x8_2))) [.int .i64 (wrap64 (-(rd l1 x8_2)))] (fun _ => True) (fun _ => False) rfl rfl ?aP (fun _ hk => hk.elim) ?aF ?aO ?aB ?aS ?aL ?_; (case aP => exact rfl); (case aB => exact (by repeat first | exact HB.out | apply ba_ | apply pd_ | apply d1_)); (case aF => exact (fun _ _ => trivial)); (case aO => exact (by (with_reducible repeat (first | apply Kd.R_alloc | apply Kd.R_drewN | apply Kd.R_drew)); exact HO_7.out)); (case aS => exact (bz_ (by repeat first | exact HB.out | apply ba_ | apply pd_ | apply d1_))); (case aL => have := LMc17.out; omega); intro v197 w18 ho hb hg hat; rw [← Ny196.out] at ho; have n0_ := sd_ (hb); have n1_ := sd_ (ho); clear HB; clear HO_7; have HB := n0_; have HO198 := n1_; clear n0_ n1_; clear ho hb hg hat)); try go_wp2_with (first | ((with_reducible refine gate_builtin (b := .append) (xs := #[.tmp 42, .tmp 48]) rfl ?_); (try (refine gate_guard (by rfl) ?_; dsimp only)); at_builtin; refine Kd.R_append (Kd.int .i64) (w0 := w) w.heap.size rfl (.tmp 42) (.tmp 48) 22 3 (.int .i64 0) 8 rfl Try.underlying22 info3 rfl (by decide) (by omega) u7 x7_2 (wrap64 (-(rd l1 x8_2))) [.int .i64 (wrap64 (-(rd l1 x8_2)))] (fun _ => True) (fun _ => False) rfl rfl ?aP (fun _ hk => hk.elim) ?aF ?aO ?aB ?aS ?aL ?_; (case aP => exact rfl); (case aB => exact (by repeat first | exact HB.out | apply ba_ | apply pd_ | apply d1_)); (case aF => exact (fun _ _ => trivial)); (case aO => exact (by (with_reducible repeat (first | apply Kd.R_alloc | apply Kd.R_drewN | apply Kd.R_drew)); exact HO_7.out)); (case aS => exact (bz_ (by repeat first | exact HB.out | apply ba_ | apply pd_ | apply d1_))); (case aL => have := LMc17.out; omega); intro v197 w18 ho hb hg hat; rw [← Ny196.out] at ho; have n0_ := sd_ (hb); have n1_ := sd_ (ho); clear HB; clear HO_7; have HB := n0_; have HO198 := n1_; clear n0_ n1_; clear ho hb hg hat)))
           go_roundg k2
           case measure => have := HJ3.out; have := HK2.out; omega
           case rel => exact ⟨(y196), (wrap64 (x8_2 + 1)), (by first | rfl | (simp; done) | (simp [*]; done)), H', ⟨by have := HJ3.out; have := HK2.out; omega⟩, ⟨by (with_reducible repeat (first | apply Kd.R_alloc | apply Kd.R_drewN | apply Kd.R_drew)); exact HO198.out⟩, ⟨by repeat first | exact HB.out | apply ba_ | apply pd_ | apply d1_⟩⟩
          ·rw [if_neg c17] at H
           exact absurd H (by simp)
       ·rw [if_neg c10] at H
        exact absurd H (by simp)
      ·rw [if_neg c9] at H
       have c9b0 : decide (x8_2 < (l1.length : Int)) = false := df_ c9
       clear c9
       replace H := ob_ H
       obtain ⟨⟨t199, t200⟩, A190, H⟩ := H
       replace H : ((slope_Fit.f k2 l0 x7_2 (!a2)).bind fun bt203 => (if t200 = bt203.2 then (if (t199.length : Int) = (bt203.1.length : Int) then ((slope_Slant.f l1 a2).bind fun t207 => ((slope_Slant.f x7_2 (!a2)).bind fun t208 => (neumelaw19_SlopeMirror.j2 k2 t199 bt203.1 (t207 != (wrap64 (-t208)))))) else (neumelaw19_SlopeMirror.j2 k2 t199 bt203.1 true)) else (neumelaw19_SlopeMirror.j2 k2 t199 bt203.1 true))) = some r := H
       have A19 := sd_ A190
       clear A190
       replace H := ob_ H
       obtain ⟨⟨t203, t204⟩, A200, H⟩ := H
       replace H : (if t200 = t204 then (if (t199.length : Int) = (t203.length : Int) then ((slope_Slant.f l1 a2).bind fun t207 => ((slope_Slant.f x7_2 (!a2)).bind fun t208 => (neumelaw19_SlopeMirror.j2 k2 t199 t203 (t207 != (wrap64 (-t208)))))) else (neumelaw19_SlopeMirror.j2 k2 t199 t203 true)) else (neumelaw19_SlopeMirror.j2 k2 t199 t203 true)) = some r := H
       have A20 := sd_ A200
       clear A200
       have HC21 := sd_ H
       clear H
       go_upto_region 12 with (first | (go_at_call 7; (with_reducible refine (slope_Fit.calls k2 _ _ l0 _ _ l1 a2 t199 t200 _ ?side1 ?side2 ?side3 ?side4 A19.out).mono ?_); (case side1 => repeat (first | exact (Kd.C_below HR0.out HB.out) | (with_reducible refine Kd.C_alloc ?_ _) | (with_reducible refine Kd.C_drewN ?_ _) | (with_reducible refine Kd.C_drew ?_))); (case side2 => exact HC0.out); (case side3 => repeat (first | exact (Kd.C_below HR1.out HB.out) | (with_reducible refine Kd.C_alloc ?_ _) | (with_reducible refine Kd.C_drewN ?_ _) | (with_reducible refine Kd.C_drew ?_))); (case side4 => exact HC1.out); rintro e w22 ⟨v201, rfl, ho0, hb⟩; have n0_ := sd_ (Kd.R_elder' (by (with_reducible repeat (first | apply Kd.R_alloc | apply Kd.R_drewN | apply Kd.R_drew)); exact HO_7.out) (Kd.R_base ho0) hb); have n1_ := sd_ (Kd.R_lower (Kd.R_new' ho0 (Kd.R_lt (by (with_reducible repeat (first | apply Kd.R_alloc | apply Kd.R_drewN | apply Kd.R_drew)); exact HO_7.out))) (bz_ (by repeat first | exact HB.out | apply ba_ | apply pd_ | apply d1_))); have n2_ := sd_ (bt_ (by repeat first | exact HB.out | apply ba_ | apply pd_ | apply d1_) hb); clear HO_7; clear HB; have HO_7 := n0_; have HO202 := n1_; have HB := n2_; clear n0_ n1_ n2_; (try clear hb); (try clear hb2); (try clear hk); (try clear hi); (try clear ho0); obtain ⟨Ao23, co23, eo23⟩ := Kd.R_slice HO_7.out; subst eo23) | (go_at_call 7; (with_reducible refine (slope_Fit.calls k2 _ _ l0 _ _ x7_2 (!a2) t203 t204 _ ?side1 ?side2 ?side3 ?side4 A20.out).mono ?_); (case side1 => repeat (first | exact (Kd.C_below HR0.out HB.out) | (with_reducible refine Kd.C_alloc ?_ _) | (with_reducible refine Kd.C_drewN ?_ _) | (with_reducible refine Kd.C_drew ?_))); (case side2 => exact HC0.out); (case side3 => repeat (first | exact (Kd.R_reads' HO_7.out).2.2 | (with_reducible refine Kd.C_alloc ?_ _) | (with_reducible refine Kd.C_drewN ?_ _) | (with_reducible refine Kd.C_drew ?_))); (case side4 => exact (Kd.R_reads' HO_7.out).2.1); rintro e w24 ⟨v205, rfl, ho0, hb⟩; have n0_ := sd_ (Kd.R_elder' (by (with_reducible repeat (first | apply Kd.R_alloc | apply Kd.R_drewN | apply Kd.R_drew)); exact HO_7.out) (Kd.R_base ho0) hb); have n1_ := sd_ (Kd.R_elder' (by (with_reducible repeat (first | apply Kd.R_alloc | apply Kd.R_drewN | apply Kd.R_drew)); exact HO202.out) (Kd.R_base ho0) hb); have n2_ := sd_ (Kd.R_lower (Kd.R_new' (Kd.R_new' ho0 (Kd.R_lt (by (with_reducible repeat (first | apply Kd.R_alloc | apply Kd.R_drewN | apply Kd.R_drew)); exact HO_7.out))) (Kd.R_lt (by (with_reducible repeat (first | apply Kd.R_alloc | apply Kd.R_drewN | apply Kd.R_drew)); exact HO202.out))) (bz_ (by repeat first | exact HB.out | apply ba_ | apply pd_ | apply d1_))); have n3_ := sd_ (bt_ (by repeat first | exact HB.out | apply ba_ | apply pd_ | apply d1_) hb); clear HO_7; clear HO202; clear HB; have HO_7 := n0_; have HO202 := n1_; have HO206 := n2_; have HB := n3_; clear n0_ n1_ n2_ n3_; (try clear hb); (try clear hb2); (try clear hk); (try clear hi); (try clear ho0)))
       repeat (go_quiet (first | (go_at_call 7; (with_reducible refine (slope_Fit.calls k2 _ _ l0 _ _ l1 a2 t199 t200 _ ?side1 ?side2 ?side3 ?side4 A19.out).mono ?_); (case side1 => repeat (first | exact (Kd.C_below HR0.out HB.out) | (with_reducible refine Kd.C_alloc ?_ _) | (with_reducible refine Kd.C_drewN ?_ _) | (with_reducible refine Kd.C_drew ?_))); (case side2 => exact HC0.out); (case side3 => repeat (first | exact (Kd.C_below HR1.out HB.out) | (with_reducible refine Kd.C_alloc ?_ _) | (with_reducible refine Kd.C_drewN ?_ _) | (with_reducible refine Kd.C_drew ?_))); (case side4 => exact HC1.out); rintro e w22 ⟨v201, rfl, ho0, hb⟩; have n0_ := sd_ (Kd.R_elder' (by (with_reducible repeat (first | apply Kd.R_alloc | apply Kd.R_drewN | apply Kd.R_drew)); exact HO_7.out) (Kd.R_base ho0) hb); have n1_ := sd_ (Kd.R_lower (Kd.R_new' ho0 (Kd.R_lt (by (with_reducible repeat (first | apply Kd.R_alloc | apply Kd.R_drewN | apply Kd.R_drew)); exact HO_7.out))) (bz_ (by repeat first | exact HB.out | apply ba_ | apply pd_ | apply d1_))); have n2_ := sd_ (bt_ (by repeat first | exact HB.out | apply ba_ | apply pd_ | apply d1_) hb); clear HO_7; clear HB; have HO_7 := n0_; have HO202 := n1_; have HB := n2_; clear n0_ n1_ n2_; (try clear hb); (try clear hb2); (try clear hk); (try clear hi); (try clear ho0); obtain ⟨Ao23, co23, eo23⟩ := Kd.R_slice HO_7.out; subst eo23) | (go_at_call 7; (with_reducible refine (slope_Fit.calls k2 _ _ l0 _ _ x7_2 (!a2) t203 t204 _ ?side1 ?side2 ?side3 ?side4 A20.out).mono ?_); (case side1 => repeat (first | exact (Kd.C_below HR0.out HB.out) | (with_reducible refine Kd.C_alloc ?_ _) | (with_reducible refine Kd.C_drewN ?_ _) | (with_reducible refine Kd.C_drew ?_))); (case side2 => exact HC0.out); (case side3 => repeat (first | exact (Kd.R_reads' HO_7.out).2.2 | (with_reducible refine Kd.C_alloc ?_ _) | (with_reducible refine Kd.C_drewN ?_ _) | (with_reducible refine Kd.C_drew ?_))); (case side4 => exact (Kd.R_reads' HO_7.out).2.1); rintro e w24 ⟨v205, rfl, ho0, hb⟩; have n0_ := sd_ (Kd.R_elder' (by (with_reducible repeat (first | apply Kd.R_alloc | apply Kd.R_drewN | apply Kd.R_drew)); exact HO_7.out) (Kd.R_base ho0) hb); have n1_ := sd_ (Kd.R_elder' (by (with_reducible repeat (first | apply Kd.R_alloc | apply Kd.R_drewN | apply Kd.R_drew)); exact HO202.out) (Kd.R_base ho0) hb); have n2_ := sd_ (Kd.R_lower (Kd.R_new' (Kd.R_new' ho0 (Kd.R_lt (by (with_reducible repeat (first | apply Kd.R_alloc | apply Kd.R_drewN | apply Kd.R_drew)); exact HO_7.out))) (Kd.R_lt (by (with_reducible repeat (first | apply Kd.R_alloc | apply Kd.R_drewN | apply Kd.R_drew)); exact HO202.out))) (bz_ (by repeat first | exact HB.out | apply ba_ | apply pd_ | apply d1_))); have n3_ := sd_ (bt_ (by repeat first | exact HB.out | apply ba_ | apply pd_ | apply d1_) hb); clear HO_7; clear HO202; clear HB; have HO_7 := n0_; have HO202 := n1_; have HO206 := n2_; have HB := n3_; clear n0_ n1_ n2_ n3_; (try clear hb); (try clear hb2); (try clear hk); (try clear hi); (try clear ho0))); go_upto_region 12 with (first | (go_at_call 7; (with_reducible refine (slope_Fit.calls k2 _ _ l0 _ _ l1 a2 t199 t200 _ ?side1 ?side2 ?side3 ?side4 A19.out).mono ?_); (case side1 => repeat (first | exact (Kd.C_below HR0.out HB.out) | (with_reducible refine Kd.C_alloc ?_ _) | (with_reducible refine Kd.C_drewN ?_ _) | (with_reducible refine Kd.C_drew ?_))); (case side2 => exact HC0.out); (case side3 => repeat (first | exact (Kd.C_below HR1.out HB.out) | (with_reducible refine Kd.C_alloc ?_ _) | (with_reducible refine Kd.C_drewN ?_ _) | (with_reducible refine Kd.C_drew ?_))); (case side4 => exact HC1.out); rintro e w22 ⟨v201, rfl, ho0, hb⟩; have n0_ := sd_ (Kd.R_elder' (by (with_reducible repeat (first | apply Kd.R_alloc | apply Kd.R_drewN | apply Kd.R_drew)); exact HO_7.out) (Kd.R_base ho0) hb); have n1_ := sd_ (Kd.R_lower (Kd.R_new' ho0 (Kd.R_lt (by (with_reducible repeat (first | apply Kd.R_alloc | apply Kd.R_drewN | apply Kd.R_drew)); exact HO_7.out))) (bz_ (by repeat first | exact HB.out | apply ba_ | apply pd_ | apply d1_))); have n2_ := sd_ (bt_ (by repeat first | exact HB.out | apply ba_ | apply pd_ | apply d1_) hb); clear HO_7; clear HB; have HO_7 := n0_; have HO202 := n1_; have HB := n2_; clear n0_ n1_ n2_; (try clear hb); (try clear hb2); (try clear hk); (try clear hi); (try clear ho0); obtain ⟨Ao23, co23, eo23⟩ := Kd.R_slice HO_7.out; subst eo23) | (go_at_call 7; (with_reducible refine (slope_Fit.calls k2 _ _ l0 _ _ x7_2 (!a2) t203 t204 _ ?side1 ?side2 ?side3 ?side4 A20.out).mono ?_); (case side1 => repeat (first | exact (Kd.C_below HR0.out HB.out) | (with_reducible refine Kd.C_alloc ?_ _) | (with_reducible refine Kd.C_drewN ?_ _) | (with_reducible refine Kd.C_drew ?_))); (case side2 => exact HC0.out); (case side3 => repeat (first | exact (Kd.R_reads' HO_7.out).2.2 | (with_reducible refine Kd.C_alloc ?_ _) | (with_reducible refine Kd.C_drewN ?_ _) | (with_reducible refine Kd.C_drew ?_))); (case side4 => exact (Kd.R_reads' HO_7.out).2.1); rintro e w24 ⟨v205, rfl, ho0, hb⟩; have n0_ := sd_ (Kd.R_elder' (by (with_reducible repeat (first | apply Kd.R_alloc | apply Kd.R_drewN | apply Kd.R_drew)); exact HO_7.out) (Kd.R_base ho0) hb); have n1_ := sd_ (Kd.R_elder' (by (with_reducible repeat (first | apply Kd.R_alloc | apply Kd.R_drewN | apply Kd.R_drew)); exact HO202.out) (Kd.R_base ho0) hb); have n2_ := sd_ (Kd.R_lower (Kd.R_new' (Kd.R_new' ho0 (Kd.R_lt (by (with_reducible repeat (first | apply Kd.R_alloc | apply Kd.R_drewN | apply Kd.R_drew)); exact HO_7.out))) (Kd.R_lt (by (with_reducible repeat (first | apply Kd.R_alloc | apply Kd.R_drewN | apply Kd.R_drew)); exact HO202.out))) (bz_ (by repeat first | exact HB.out | apply ba_ | apply pd_ | apply d1_))); have n3_ := sd_ (bt_ (by repeat first | exact HB.out | apply ba_ | apply pd_ | apply d1_) hb); clear HO_7; clear HO202; clear HB; have HO_7 := n0_; have HO202 := n1_; have HO206 := n2_; have HB := n3_; clear n0_ n1_ n2_ n3_; (try clear hb); (try clear hb2); (try clear hk); (try clear hi); (try clear ho0))))
       (try simp only [Act.put, List.setIfInBounds_toArray, lz_, List.set_cons_succ])
       go_cut [85] (fun v85 wc => ∃ (kq : Nat) (x85_20 : Bool), v85 = .bool x85_20 ∧ Aside0 (neumelaw19_SlopeMirror.j2 kq t199 t203 x85_20 = some r) ∧ Aside0 (kq ≤ k2) ∧ Aside0 (Kd.R (Kd.int .i64) 3 wc w.heap.size (fun k_ => some k_ ≠ (v205 : Value).ownBlock) v201 t199) ∧ Aside0 (Kd.R (Kd.int .i64) 3 wc w.heap.size (fun k_ => some k_ ≠ (v201 : Value).ownBlock) v205 t203) ∧ Aside0 (Below w.heap.size w wc))
       case first =>
        have H := HC21.out
        clear HC21
        by_cases c25 : t200 = t204
        ·rw [if_pos c25] at H
         have c25b0 : (t200 == t204) = true := beq_iff_eq.mpr c25
         have c25b1 : (t200 != t204) = false := bne_eq_false_iff_eq.mpr c25
         clear c25
         (first | rw [c25b0] | (simp only [i64_w, i32_w]; rw [c25b0]) | skip)
         by_cases c26 : (t199.length : Int) = (t203.length : Int)
         ·rw [if_pos c26] at H
          have c26b0 : ((t199.length : Int) == (t203.length : Int)) = true := beq_iff_eq.mpr c26
          have c26b1 : ((t199.length : Int) != (t203.length : Int)) = false := bne_eq_false_iff_eq.mpr c26
          have c26b2 : (t199.length == t203.length) = true := by first | simpa using c26 | (simp at c26 ⊢; omega)
          clear c26
          replace H := ob_ H
          obtain ⟨t207, A270, H⟩ := H
          replace H : ((slope_Slant.f x7_2 (!a2)).bind fun t208 => (neumelaw19_SlopeMirror.j2 k2 t199 t203 (t207 != (wrap64 (-t208))))) = some r := H
          have A27 := sd_ A270
          clear A270
          replace H := ob_ H
          obtain ⟨t208, A280, H⟩ := H
          replace H : (neumelaw19_SlopeMirror.j2 k2 t199 t203 (t207 != (wrap64 (-t208)))) = some r := H
          have A28 := sd_ A280
          clear A280
          have H' := sd_ H
          clear H
          obtain ⟨Ao29, co29, eo29⟩ := Kd.R_slice HO202.out
          subst eo29
          obtain ⟨Ao30, co30, eo30⟩ := Kd.R_slice HO206.out
          subst eo30
          go_wp2_with (first | (go_at_call 8; (with_reducible refine (slope_Slant.calls _ _ l1 a2 t207 _ ?side1 ?side2 A27.out).mono ?_); (case side1 => repeat (first | exact (Kd.C_below HR1.out HB.out) | (with_reducible refine Kd.C_alloc ?_ _) | (with_reducible refine Kd.C_drewN ?_ _) | (with_reducible refine Kd.C_drew ?_))); (case side2 => exact HC1.out); rintro e w31 ⟨rfl, hb⟩; have n0_ := sd_ (Kd.R_below (by (with_reducible repeat (first | apply Kd.R_alloc | apply Kd.R_drewN | apply Kd.R_drew)); exact HO_7.out) hb); have n1_ := sd_ (Kd.R_below (by (with_reducible repeat (first | apply Kd.R_alloc | apply Kd.R_drewN | apply Kd.R_drew)); exact HO202.out) hb); have n2_ := sd_ (Kd.R_below (by (with_reducible repeat (first | apply Kd.R_alloc | apply Kd.R_drewN | apply Kd.R_drew)); exact HO206.out) hb); have n3_ := sd_ (bt_ (by repeat first | exact HB.out | apply ba_ | apply pd_ | apply d1_) hb); clear HO_7; clear HO202; clear HO206; clear HB; have HO_7 := n0_; have HO202 := n1_; have HO206 := n2_; have HB := n3_; clear n0_ n1_ n2_ n3_; (try clear hb); (try clear hb2); (try clear hk); (try clear hi)) | (go_at_call 8; (with_reducible refine (slope_Slant.calls _ _ x7_2 (!a2) t208 _ ?side1 ?side2 A28.out).mono ?_); (case side1 => repeat (first | exact (Kd.R_reads' HO_7.out).2.2 | (with_reducible refine Kd.C_alloc ?_ _) | (with_reducible refine Kd.C_drewN ?_ _) | (with_reducible refine Kd.C_drew ?_))); (case side2 => exact (Kd.R_reads' HO_7.out).2.1); rintro e w32 ⟨rfl, hb⟩; have n0_ := sd_ (Kd.R_below (by (with_reducible repeat (first | apply Kd.R_alloc | apply Kd.R_drewN | apply Kd.R_drew)); exact HO_7.out) hb); have n1_ := sd_ (Kd.R_below (by (with_reducible repeat (first | apply Kd.R_alloc | apply Kd.R_drewN | apply Kd.R_drew)); exact HO202.out) hb); have n2_ := sd_ (Kd.R_below (by (with_reducible repeat (first | apply Kd.R_alloc | apply Kd.R_drewN | apply Kd.R_drew)); exact HO206.out) hb); have n3_ := sd_ (bt_ (by repeat first | exact HB.out | apply ba_ | apply pd_ | apply d1_) hb); clear HO_7; clear HO202; clear HO206; clear HB; have HO_7 := n0_; have HO202 := n1_; have HO206 := n2_; have HB := n3_; clear n0_ n1_ n2_ n3_; (try clear hb); (try clear hb2); (try clear hk); (try clear hi)))
          repeat (go_quiet (first | (go_at_call 8; (with_reducible refine (slope_Slant.calls _ _ l1 a2 t207 _ ?side1 ?side2 A27.out).mono ?_); (case side1 => repeat (first | exact (Kd.C_below HR1.out HB.out) | (with_reducible refine Kd.C_alloc ?_ _) | (with_reducible refine Kd.C_drewN ?_ _) | (with_reducible refine Kd.C_drew ?_))); (case side2 => exact HC1.out); rintro e w31 ⟨rfl, hb⟩; have n0_ := sd_ (Kd.R_below (by (with_reducible repeat (first | apply Kd.R_alloc | apply Kd.R_drewN | apply Kd.R_drew)); exact HO_7.out) hb); have n1_ := sd_ (Kd.R_below (by (with_reducible repeat (first | apply Kd.R_alloc | apply Kd.R_drewN | apply Kd.R_drew)); exact HO202.out) hb); have n2_ := sd_ (Kd.R_below (by (with_reducible repeat (first | apply Kd.R_alloc | apply Kd.R_drewN | apply Kd.R_drew)); exact HO206.out) hb); have n3_ := sd_ (bt_ (by repeat first | exact HB.out | apply ba_ | apply pd_ | apply d1_) hb); clear HO_7; clear HO202; clear HO206; clear HB; have HO_7 := n0_; have HO202 := n1_; have HO206 := n2_; have HB := n3_; clear n0_ n1_ n2_ n3_; (try clear hb); (try clear hb2); (try clear hk); (try clear hi)) | (go_at_call 8; (with_reducible refine (slope_Slant.calls _ _ x7_2 (!a2) t208 _ ?side1 ?side2 A28.out).mono ?_); (case side1 => repeat (first | exact (Kd.R_reads' HO_7.out).2.2 | (with_reducible refine Kd.C_alloc ?_ _) | (with_reducible refine Kd.C_drewN ?_ _) | (with_reducible refine Kd.C_drew ?_))); (case side2 => exact (Kd.R_reads' HO_7.out).2.1); rintro e w32 ⟨rfl, hb⟩; have n0_ := sd_ (Kd.R_below (by (with_reducible repeat (first | apply Kd.R_alloc | apply Kd.R_drewN | apply Kd.R_drew)); exact HO_7.out) hb); have n1_ := sd_ (Kd.R_below (by (with_reducible repeat (first | apply Kd.R_alloc | apply Kd.R_drewN | apply Kd.R_drew)); exact HO202.out) hb); have n2_ := sd_ (Kd.R_below (by (with_reducible repeat (first | apply Kd.R_alloc | apply Kd.R_drewN | apply Kd.R_drew)); exact HO206.out) hb); have n3_ := sd_ (bt_ (by repeat first | exact HB.out | apply ba_ | apply pd_ | apply d1_) hb); clear HO_7; clear HO202; clear HO206; clear HB; have HO_7 := n0_; have HO202 := n1_; have HO206 := n2_; have HB := n3_; clear n0_ n1_ n2_ n3_; (try clear hb); (try clear hb2); (try clear hk); (try clear hi))); try go_wp2_with (first | (go_at_call 8; (with_reducible refine (slope_Slant.calls _ _ l1 a2 t207 _ ?side1 ?side2 A27.out).mono ?_); (case side1 => repeat (first | exact (Kd.C_below HR1.out HB.out) | (with_reducible refine Kd.C_alloc ?_ _) | (with_reducible refine Kd.C_drewN ?_ _) | (with_reducible refine Kd.C_drew ?_))); (case side2 => exact HC1.out); rintro e w31 ⟨rfl, hb⟩; have n0_ := sd_ (Kd.R_below (by (with_reducible repeat (first | apply Kd.R_alloc | apply Kd.R_drewN | apply Kd.R_drew)); exact HO_7.out) hb); have n1_ := sd_ (Kd.R_below (by (with_reducible repeat (first | apply Kd.R_alloc | apply Kd.R_drewN | apply Kd.R_drew)); exact HO202.out) hb); have n2_ := sd_ (Kd.R_below (by (with_reducible repeat (first | apply Kd.R_alloc | apply Kd.R_drewN | apply Kd.R_drew)); exact HO206.out) hb); have n3_ := sd_ (bt_ (by repeat first | exact HB.out | apply ba_ | apply pd_ | apply d1_) hb); clear HO_7; clear HO202; clear HO206; clear HB; have HO_7 := n0_; have HO202 := n1_; have HO206 := n2_; have HB := n3_; clear n0_ n1_ n2_ n3_; (try clear hb); (try clear hb2); (try clear hk); (try clear hi)) | (go_at_call 8; (with_reducible refine (slope_Slant.calls _ _ x7_2 (!a2) t208 _ ?side1 ?side2 A28.out).mono ?_); (case side1 => repeat (first | exact (Kd.R_reads' HO_7.out).2.2 | (with_reducible refine Kd.C_alloc ?_ _) | (with_reducible refine Kd.C_drewN ?_ _) | (with_reducible refine Kd.C_drew ?_))); (case side2 => exact (Kd.R_reads' HO_7.out).2.1); rintro e w32 ⟨rfl, hb⟩; have n0_ := sd_ (Kd.R_below (by (with_reducible repeat (first | apply Kd.R_alloc | apply Kd.R_drewN | apply Kd.R_drew)); exact HO_7.out) hb); have n1_ := sd_ (Kd.R_below (by (with_reducible repeat (first | apply Kd.R_alloc | apply Kd.R_drewN | apply Kd.R_drew)); exact HO202.out) hb); have n2_ := sd_ (Kd.R_below (by (with_reducible repeat (first | apply Kd.R_alloc | apply Kd.R_drewN | apply Kd.R_drew)); exact HO206.out) hb); have n3_ := sd_ (bt_ (by repeat first | exact HB.out | apply ba_ | apply pd_ | apply d1_) hb); clear HO_7; clear HO202; clear HO206; clear HB; have HO_7 := n0_; have HO202 := n1_; have HO206 := n2_; have HB := n3_; clear n0_ n1_ n2_ n3_; (try clear hb); (try clear hb2); (try clear hk); (try clear hi))))
          go_meet
          case rel => exact ⟨_, ((t207 != (wrap64 (-t208)))), (by first | rfl | (simp; done) | (simp [*]; done)), H', ⟨by have := HJ3.out; have := HK2.out; first | omega | exact Nat.le_refl _⟩, ⟨by (with_reducible repeat (first | apply Kd.R_alloc | apply Kd.R_drewN | apply Kd.R_drew)); exact Kd.R_mono HO202.out (fun _ hk => hk.2)⟩, ⟨by (with_reducible repeat (first | apply Kd.R_alloc | apply Kd.R_drewN | apply Kd.R_drew)); exact Kd.R_mono HO206.out (fun _ hk => hk.2)⟩, ⟨by repeat first | exact HB.out | apply ba_ | apply pd_ | apply d1_⟩⟩
         ·rw [if_neg c26] at H
          have c26b0 : ((t199.length : Int) == (t203.length : Int)) = false := beq_eq_false_iff_ne.mpr c26
          have c26b1 : ((t199.length : Int) != (t203.length : Int)) = true := bne_iff_ne.mpr c26
          have c26b2 : (t199.length == t203.length) = false := by first | simpa using c26 | (simp at c26 ⊢; omega)
          have H' := sd_ H
          clear H
          obtain ⟨Ao33, co33, eo33⟩ := Kd.R_slice HO202.out
          subst eo33
          obtain ⟨Ao34, co34, eo34⟩ := Kd.R_slice HO206.out
          subst eo34
          go_wp2
          repeat (go_quiet (fail); try go_wp2)
          go_meet
          case rel => exact ⟨_, (true), (by first | rfl | (simp; done) | (simp [*]; done)), H', ⟨by have := HJ3.out; have := HK2.out; first | omega | exact Nat.le_refl _⟩, ⟨by (with_reducible repeat (first | apply Kd.R_alloc | apply Kd.R_drewN | apply Kd.R_drew)); exact Kd.R_mono HO202.out (fun _ hk => hk.2)⟩, ⟨by (with_reducible repeat (first | apply Kd.R_alloc | apply Kd.R_drewN | apply Kd.R_drew)); exact Kd.R_mono HO206.out (fun _ hk => hk.2)⟩, ⟨by repeat first | exact HB.out | apply ba_ | apply pd_ | apply d1_⟩⟩
        ·rw [if_neg c25] at H
         have c25b0 : (t200 == t204) = false := beq_eq_false_iff_ne.mpr c25
         have c25b1 : (t200 != t204) = true := bne_iff_ne.mpr c25
         (first | rw [c25b0] | (simp only [i64_w, i32_w]; rw [c25b0]) | skip)
         have H' := sd_ H
         clear H
         go_wp2
         repeat (go_quiet (fail); try go_wp2)
         go_meet
         case rel => exact ⟨_, (true), (by first | rfl | (simp; done) | (simp [*]; done)), H', ⟨by have := HJ3.out; have := HK2.out; first | omega | exact Nat.le_refl _⟩, ⟨by (with_reducible repeat (first | apply Kd.R_alloc | apply Kd.R_drewN | apply Kd.R_drew)); exact Kd.R_mono HO202.out (fun _ hk => hk.2)⟩, ⟨by (with_reducible repeat (first | apply Kd.R_alloc | apply Kd.R_drewN | apply Kd.R_drew)); exact Kd.R_mono HO206.out (fun _ hk => hk.2)⟩, ⟨by repeat first | exact HB.out | apply ba_ | apply pd_ | apply d1_⟩⟩
       case rest =>
        clear HC21
        try clear c1; try clear p1; try clear q1; try clear hx1; try clear c2; try clear p2; try clear c4; try clear c5; try clear c5b0; try clear c5b1; try clear c6; try clear p6; try clear c9; try clear c9b0; try clear c10; try clear c10b0; try clear c11; try clear c11b0; try clear c14; try clear c14b0; try clear c17; try clear p19; try clear q19; try clear hx19; try clear c25; try clear c25b0; try clear c25b1; try clear c26; try clear c26b0; try clear c26b1; try clear c26b2; try clear hx191_0; try clear hx193_0; try clear hx195_0; try clear p191; try clear p193; try clear p195; try clear p2; try clear q191; try clear q193; try clear q195
        obtain ⟨kq, x85_20, rfl, HA, HJ20, HO_9, HO_11, HB⟩ := hcut
        cases kq with
        | zero => exact absurd HA.out (by simp [neumelaw19_SlopeMirror.j2])
        | succ kj20 =>
         have H := HA.out
         clear HA
         simp only [neumelaw19_SlopeMirror.j2] at H
         by_cases c35 : x85_20 = true
         ·subst c35
          have H1 : (some false) = some r := by rw [if_pos rfl] at H; exact H
          clear H; have H := H1; clear H1
          obtain rfl := Option.some.inj H
          go_wp2
          repeat (go_quiet (fail); try go_wp2)
          go_ret
          exact ⟨by first | rfl | (simp [errW_none, errW_some] <;> rfl) | (simp [*, errW_none, errW_some] <;> rfl), by repeat first | exact HB.out | apply ba_ | apply pd_ | apply d1_⟩
         ·replace c35 := bf_ c35
          subst c35
          have H1 : (neumelaw19_SlopeMirror.l1 kj20 t199 t203 0) = some r := by rw [if_neg (show ¬ (false = true) by decide)] at H; exact H
          clear H; have H := H1; clear H1
          have H' := sd_ H
          clear H
          go_wp2
          repeat (go_quiet (fail); try go_wp2)
          go_loopg [13] kj20 (fun kq v13 w' => ∃ (x13_4 : Int), v13 = .int .i64 x13_4 ∧ Aside0 (neumelaw19_SlopeMirror.l1 kq t199 t203 x13_4 = some r) ∧ Aside0 (kq ≤ kj20) ∧ Aside0 (Kd.R (Kd.int .i64) 3 w' w.heap.size (fun k_ => some k_ ≠ (v205 : Value).ownBlock) v201 t199) ∧ Aside0 (Kd.R (Kd.int .i64) 3 w' w.heap.size (fun k_ => some k_ ≠ (v201 : Value).ownBlock) v205 t203) ∧ Aside0 (Below w.heap.size w w'))
          case atStart => exact ⟨(0), (by first | rfl | (simp; done) | (simp [*]; done)), H', ⟨Nat.le_refl _⟩, ⟨by (with_reducible repeat (first | apply Kd.R_alloc | apply Kd.R_drewN | apply Kd.R_drew)); exact HO_9.out⟩, ⟨by (with_reducible repeat (first | apply Kd.R_alloc | apply Kd.R_drewN | apply Kd.R_drew)); exact HO_11.out⟩, ⟨by repeat first | exact HB.out | apply ba_ | apply pd_ | apply d1_⟩⟩
          case round =>
           clear H'
           try clear c1; try clear p1; try clear q1; try clear hx1; try clear c2; try clear p2; try clear c3; try clear c4; try clear c5; try clear c5b0; try clear c5b1; try clear c6; try clear p6; try clear c9; try clear c9b0; try clear c10; try clear c10b0; try clear c11; try clear c11b0; try clear c14; try clear c14b0; try clear c17; try clear p19; try clear q19; try clear hx19; try clear c25; try clear c25b0; try clear c25b1; try clear c26; try clear c26b0; try clear c26b1; try clear c26b2; try clear c35; try clear hx191_0; try clear hx193_0; try clear hx195_0; try clear p1; try clear p19; try clear p191; try clear p193; try clear p195; try clear p2; try clear p6; try clear q1; try clear q19; try clear q191; try clear q193; try clear q195
           obtain ⟨x13_4, rfl, HA, HK4, HO_9, HO_11, HB⟩ := hrel
           cases gk with
           | zero => exact absurd HA.out (by simp [neumelaw19_SlopeMirror.l1])
           | succ k4 =>
            have H := HA.out
            clear HA
            simp only [neumelaw19_SlopeMirror.l1] at H
            by_cases c36 : x13_4 < (t199.length : Int)
            ·rw [if_pos c36] at H
             have c36b0 : decide (x13_4 < (t199.length : Int)) = true := dt_ c36
             clear c36
             by_cases c37 : 0 ≤ x13_4
             ·rw [if_pos c37] at H
              have c37b0 : decide (0 ≤ x13_4) = true := dt_ c37
              clear c37
              by_cases c38 : x13_4 < (t203.length : Int)
              ·rw [if_pos c38] at H
               have c38b0 : decide (x13_4 < (t203.length : Int)) = true := dt_ c38
               clear c38
               by_cases c39 : (rd t199 x13_4) = (wrap64 (-(rd t203 x13_4)))
               ·rw [if_pos c39] at H
                have c39b0 : ((rd t199 x13_4) == (wrap64 (-(rd t203 x13_4)))) = true := beq_iff_eq.mpr c39
                have c39b1 : ((rd t199 x13_4) != (wrap64 (-(rd t203 x13_4)))) = false := bne_eq_false_iff_eq.mpr c39
                clear c39
                have H' := sd_ H
                clear H
                obtain ⟨Ao40, co40, eo40⟩ := Kd.R_slice HO_9.out
                subst eo40
                have p209 : 0 ≤ (x13_4 : Int) := od_ (by first | (with_reducible assumption) | assumption)
                have q209 : x13_4 < (t199.length : Int) := od_ (by first | (with_reducible assumption) | assumption)
                obtain ⟨ad209, e209, hx209_0⟩ := Kd.at_int (Kd.R_reads' HO_9.out).2.2 x13_4 p209 q209
                cases e209
                replace p209 := eq_true p209
                replace q209 := eq_true q209
                obtain ⟨Ao41, co41, eo41⟩ := Kd.R_slice HO_11.out
                subst eo41
                have p210 : 0 ≤ (x13_4 : Int) := od_ (by first | (with_reducible assumption) | assumption)
                have q210 : x13_4 < (t203.length : Int) := od_ (by first | (with_reducible assumption) | assumption)
                obtain ⟨ad210, e210, hx210_0⟩ := Kd.at_int (Kd.R_reads' HO_11.out).2.2 x13_4 p210 q210
                cases e210
                replace p210 := eq_true p210
                replace q210 := eq_true q210
                go_wp2
                repeat (go_quiet (fail); try go_wp2)
                go_roundg k4
                case measure => have := HJ3.out; have := HK2.out; have := HJ20.out; have := HK4.out; omega
                case rel => exact ⟨(wrap64 (x13_4 + 1)), (by first | rfl | (simp; done) | (simp [*]; done)), H', ⟨by have := HJ3.out; have := HK2.out; have := HJ20.out; have := HK4.out; omega⟩, ⟨by (with_reducible repeat (first | apply Kd.R_alloc | apply Kd.R_drewN | apply Kd.R_drew)); exact HO_9.out⟩, ⟨by (with_reducible repeat (first | apply Kd.R_alloc | apply Kd.R_drewN | apply Kd.R_drew)); exact HO_11.out⟩, ⟨by repeat first | exact HB.out | apply ba_ | apply pd_ | apply d1_⟩⟩
               ·rw [if_neg c39] at H
                have c39b0 : ((rd t199 x13_4) == (wrap64 (-(rd t203 x13_4)))) = false := beq_eq_false_iff_ne.mpr c39
                have c39b1 : ((rd t199 x13_4) != (wrap64 (-(rd t203 x13_4)))) = true := bne_iff_ne.mpr c39
                obtain rfl := Option.some.inj H
                obtain ⟨Ao42, co42, eo42⟩ := Kd.R_slice HO_9.out
                subst eo42
                have p209 : 0 ≤ (x13_4 : Int) := od_ (by first | (with_reducible assumption) | assumption)
                have q209 : x13_4 < (t199.length : Int) := od_ (by first | (with_reducible assumption) | assumption)
                obtain ⟨ad209, e209, hx209_0⟩ := Kd.at_int (Kd.R_reads' HO_9.out).2.2 x13_4 p209 q209
                cases e209
                replace p209 := eq_true p209
                replace q209 := eq_true q209
                obtain ⟨Ao43, co43, eo43⟩ := Kd.R_slice HO_11.out
                subst eo43
                have p210 : 0 ≤ (x13_4 : Int) := od_ (by first | (with_reducible assumption) | assumption)
                have q210 : x13_4 < (t203.length : Int) := od_ (by first | (with_reducible assumption) | assumption)
                obtain ⟨ad210, e210, hx210_0⟩ := Kd.at_int (Kd.R_reads' HO_11.out).2.2 x13_4 p210 q210
                cases e210
                replace p210 := eq_true p210
                replace q210 := eq_true q210
                go_wp2
                repeat (go_quiet (fail); try go_wp2)
                go_ret
                exact ⟨by first | rfl | (simp [errW_none, errW_some] <;> rfl) | (simp [*, errW_none, errW_some] <;> rfl), by repeat first | exact HB.out | apply ba_ | apply pd_ | apply d1_⟩
              ·rw [if_neg c38] at H
               exact absurd H (by simp)
             ·rw [if_neg c37] at H
              exact absurd H (by simp)
            ·rw [if_neg c36] at H
             have c36b0 : decide (x13_4 < (t199.length : Int)) = false := df_ c36
             clear c36
             replace H := ob_ H
             obtain ⟨t211, A440, H⟩ := H
             replace H : (some t211) = some r := H
             have A44 := sd_ A440
             clear A440
             obtain rfl := Option.some.inj H
             obtain ⟨Ao45, co45, eo45⟩ := Kd.R_slice HO_9.out
             subst eo45
             go_wp2_with (first | (go_at_call 6; (with_reducible refine (neumelaw19_heads.calls k4  t211 _ A44.out).mono ?_); rintro e w46 ⟨rfl, hb⟩; have n0_ := sd_ (Kd.R_below (by (with_reducible repeat (first | apply Kd.R_alloc | apply Kd.R_drewN | apply Kd.R_drew)); exact HO_9.out) hb); have n1_ := sd_ (Kd.R_below (by (with_reducible repeat (first | apply Kd.R_alloc | apply Kd.R_drewN | apply Kd.R_drew)); exact HO_11.out) hb); have n2_ := sd_ (bt_ (by repeat first | exact HB.out | apply ba_ | apply pd_ | apply d1_) hb); clear HO_9; clear HO_11; clear HB; have HO_9 := n0_; have HO_11 := n1_; have HB := n2_; clear n0_ n1_ n2_; (try clear hb); (try clear hb2); (try clear hk); (try clear hi)))
             repeat (go_quiet (first | (go_at_call 6; (with_reducible refine (neumelaw19_heads.calls k4  t211 _ A44.out).mono ?_); rintro e w46 ⟨rfl, hb⟩; have n0_ := sd_ (Kd.R_below (by (with_reducible repeat (first | apply Kd.R_alloc | apply Kd.R_drewN | apply Kd.R_drew)); exact HO_9.out) hb); have n1_ := sd_ (Kd.R_below (by (with_reducible repeat (first | apply Kd.R_alloc | apply Kd.R_drewN | apply Kd.R_drew)); exact HO_11.out) hb); have n2_ := sd_ (bt_ (by repeat first | exact HB.out | apply ba_ | apply pd_ | apply d1_) hb); clear HO_9; clear HO_11; clear HB; have HO_9 := n0_; have HO_11 := n1_; have HB := n2_; clear n0_ n1_ n2_; (try clear hb); (try clear hb2); (try clear hk); (try clear hi))); try go_wp2_with (first | (go_at_call 6; (with_reducible refine (neumelaw19_heads.calls k4  t211 _ A44.out).mono ?_); rintro e w46 ⟨rfl, hb⟩; have n0_ := sd_ (Kd.R_below (by (with_reducible repeat (first | apply Kd.R_alloc | apply Kd.R_drewN | apply Kd.R_drew)); exact HO_9.out) hb); have n1_ := sd_ (Kd.R_below (by (with_reducible repeat (first | apply Kd.R_alloc | apply Kd.R_drewN | apply Kd.R_drew)); exact HO_11.out) hb); have n2_ := sd_ (bt_ (by repeat first | exact HB.out | apply ba_ | apply pd_ | apply d1_) hb); clear HO_9; clear HO_11; clear HB; have HO_9 := n0_; have HO_11 := n1_; have HB := n2_; clear n0_ n1_ n2_; (try clear hb); (try clear hb2); (try clear hk); (try clear hi))))
             go_ret
             exact ⟨by first | rfl | (simp [errW_none, errW_some] <;> rfl) | (simp [*, errW_none, errW_some] <;> rfl), by repeat first | exact HB.out | apply ba_ | apply pd_ | apply d1_⟩

/-- THE ONE PURE STATEMENT of neumelaw19_SlopeMirror: yours. -/
def neumelaw19_SlopeMirror.Pure : Prop := ∀ (l0 : List Int) (l1 : List Int) (a2 : Bool), l0.length ≤ maxLen → l0.length * 8 ≤ 140737488351232 → (∀ x ∈ l0, (Lit.int .i64 x).wf = true) → l1.length ≤ maxLen → l1.length * 8 ≤ 140737488351232 → (∀ x ∈ l1, (Lit.int .i64 x).wf = true) → ∃ k, neumelaw19_SlopeMirror.f k l0 l1 a2 = some true
theorem neumelaw19_SlopeMirror.walk (P : neumelaw19_SlopeMirror.Pure) (a0 : Option Addr) (len0 cap0 : Nat) (z0 : List Int) (a1 : Option Addr) (len1 cap1 : Nat) (z1 : List Int) (a2 : Bool) (w : World) (w0 : (a0 = none ∧ len0 = 0 ∧ cap0 = 0 ∧ z0 = []) ∨ ∃ x, a0 = some x ∧ len0 ≤ cap0 ∧ cap0 ≤ maxLen ∧ z0.length = cap0 ∧ (∀ i, i < z0.length → w.cell? (x.add i) = some (.int .i64 (z0.getD i 0))) ∧ ∀ n ∈ z0, (Lit.int .i64 n).wf = true) (y0 : len0 * 8 ≤ 140737488351232) (w1 : (a1 = none ∧ len1 = 0 ∧ cap1 = 0 ∧ z1 = []) ∨ ∃ x, a1 = some x ∧ len1 ≤ cap1 ∧ cap1 ≤ maxLen ∧ z1.length = cap1 ∧ (∀ i, i < z1.length → w.cell? (x.add i) = some (.int .i64 (z1.getD i 0))) ∧ ∀ n ∈ z1, (Lit.int .i64 n).wf = true) (y1 : len1 * 8 ≤ 140737488351232) :
  Calls Try.prog 4 #[.slice a0 len0 cap0, .slice a1 len1 cap1, .bool a2] w fun e w' => e = .returned (.bool true) ∧ Below w.heap.size w w' := by
 obtain ⟨l0, rfl, hr0, hm0, hw0, hc0⟩ := ReadsInt.ofRowC w0
 obtain ⟨l1, rfl, hr1, hm1, hw1, hc1⟩ := ReadsInt.ofRowC w1
 obtain ⟨k, h⟩ := P l0 l1 a2 hm0 y0 hw0 hm1 y1 hw1
 refine (neumelaw19_SlopeMirror.calls k _ _ l0 _ _ l1 a2 true w (Kd.C_of_reads (d := (0 : Int)) (h1 := fun _ => rfl) hr0) hc0 (Kd.C_of_reads (d := (0 : Int)) (h1 := fun _ => rfl) hr1) hc1 h).mono ?_
 rintro e w' ⟨rfl, hd⟩
 exact ⟨rfl, hd⟩

end Go.Proofs.Ytbmdbkjmleimmaa.P
