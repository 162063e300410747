-- Written by a program of this session (wip/tools/xprint.py, over the kit's print): Lean checks it.
import Derived.Test.YtchmcljinkemaaaPx0
import Derived.Test.YtchmcljinkemaaaPx1
import Derived.Test.YtchmcljinkemaaaPx3
namespace Go.Proofs.Ytchmcljinkemaaa.P
open Go.RowKit Go.Proofs.YtchmcljinkemaaaW.PrintWords Go.Proofs.YtchmcljinkemaaaW.PrintLast Go.Proofs.YtchmcljinkemaaaW.PrintMore
attribute [local go_sem] max2_int min2_int max_two min_two max_three min_three max_four min_four   -- for this text's walks alone
set_option linter.unusedVariables false
set_option linter.unusedSimpArgs false

/-! ### neumeref18_Numbers: function 12 -/
def neumeref18_Numbers.l0 : Nat → List Int → List Int → Int → Option (Bool)
 | 0, _, _, _ => none
 | k + 1, x0, x1, x5 => if x5 < (x0.length : Int) then (if 0 ≤ x5 then (if x5 < (x1.length : Int) then (if (rd x0 x5) = (rd x1 x5) then (neumeref18_Numbers.l0 k x0 x1 (wrap64 (x5 + 1))) else (some false)) else (none)) else (none)) else (some true)
def neumeref18_Numbers.f (k : Nat) (l0 : List Int) (l1 : List Int) : Option (Bool) := if (l0.length : Int) = (l1.length : Int) then (neumeref18_Numbers.l0 k l0 l1 0) else (some false)
theorem neumeref18_Numbers.mono_l : ∀ k, (∀ y0 y1 y2, LeO (neumeref18_Numbers.l0 k y0 y1 y2) (neumeref18_Numbers.l0 (k + 1) y0 y1 y2))
 | 0 => fun _ _ _ r h => by simp [neumeref18_Numbers.l0] at h
 | k + 1 => by
  have ih0 := neumeref18_Numbers.mono_l k
  ·intro y0 y1 y2
   unfold neumeref18_Numbers.l0
   repeat' first
   | (with_reducible exact ih0 _ _ _)
   | (with_reducible exact LeO.refl _)
   | (with_reducible exact LeO.none _)
   | (with_reducible refine LeO.ite ?_ ?_)
   | (with_reducible refine LeO.bind ?_ (fun _ => ?_))
   | exact ih0 _ _ _
   | exact LeO.none _
   | refine LeO.ite ?_ ?_
   | refine LeO.bind ?_ (fun _ => ?_)
theorem neumeref18_Numbers.mono : ∀ a0 a1 k, LeO (neumeref18_Numbers.f k a0 a1) (neumeref18_Numbers.f (k + 1) a0 a1) := by
 intro a0 a1 k
 have ih0 := neumeref18_Numbers.mono_l k
 unfold neumeref18_Numbers.f
 repeat' first
   | (with_reducible exact ih0 _ _ _)
   | (with_reducible exact LeO.refl _)
   | (with_reducible exact LeO.none _)
   | (with_reducible refine LeO.ite ?_ ?_)
   | (with_reducible refine LeO.bind ?_ (fun _ => ?_))
   | exact ih0 _ _ _
   | exact LeO.none _
   | refine LeO.ite ?_ ?_
   | refine LeO.bind ?_ (fun _ => ?_)
set_option maxHeartbeats 8000000 in
set_option maxRecDepth 100000 in
theorem neumeref18_Numbers.calls (k : Nat) (A0 : Option Addr) (c0 : Nat) (l0 : List Int) (A1 : Option Addr) (c1 : Nat) (l1 : List Int) (r : Bool) (w : World) (hr0 : Kd.C (Kd.int .i64) w A0 l0.length l0) (hc0 : l0.length ≤ c0) (hr1 : Kd.C (Kd.int .i64) w A1 l1.length l1) (hc1 : l1.length ≤ c1) (h : neumeref18_Numbers.f k l0 l1 = some r) :
  Calls Try.prog 12 #[.slice A0 l0.length c0, .slice A1 l1.length c1] w fun e w' => e = .returned (.bool r) ∧ Drawn0 w w' := by
 have HR0 := sd_ hr0
 have HC0 := sd_ hc0
 clear hr0 hc0
 have HR1 := sd_ hr1
 have HC1 := sd_ hc1
 clear hr1 hc1
 have H : (if (l0.length : Int) = (l1.length : Int) then (neumeref18_Numbers.l0 k l0 l1 0) else (some false)) = some r := h
 clear h
 by_cases c3 : (l0.length : Int) = (l1.length : Int)
 ·rw [if_pos c3] at H
  have c3b0 : ((l0.length : Int) == (l1.length : Int)) = true := beq_iff_eq.mpr c3
  have c3b1 : ((l0.length : Int) != (l1.length : Int)) = false := bne_eq_false_iff_eq.mpr c3
  have c3b2 : (l0.length == l1.length) = true := by first | simpa using c3 | (simp at c3 ⊢; omega)
  clear c3
  have H' := sd_ H
  clear H
  go_enter Try.func12, Try.ntmps12
  go_wp2
  repeat (go_quiet (fail); try go_wp2)
  go_loopg [5] k (fun kq v5 w' => ∃ (x5_1 : Int), v5 = .int .i64 x5_1 ∧ Aside0 (neumeref18_Numbers.l0 kq l0 l1 x5_1 = some r) ∧ Aside0 (kq ≤ k) ∧ Drawn0 w w')
  case atStart => exact ⟨(0), (by first | rfl | (simp; done) | (simp [*]; done) | (simp [bne]; done)), H', ⟨Nat.le_refl _⟩, by repeat (first | exact Drawn0.refl _ | apply Drawn0.step)⟩
  case round =>
   clear H'
   try clear c1; try clear p2; try clear c3; try clear c3b0; try clear c3b1; try clear c3b2
   obtain ⟨x5_1, rfl, HA, HK1, ⟨m1, rfl⟩⟩ := hrel
   cases gk with
   | zero => exact absurd HA.out (by simp [neumeref18_Numbers.l0])
   | succ k1 =>
    have H := HA.out
    clear HA
    simp only [neumeref18_Numbers.l0] at H
    by_cases c4 : x5_1 < (l0.length : Int)
    ·rw [if_pos c4] at H
     have c4b0 : decide (x5_1 < (l0.length : Int)) = true := dt_ c4
     clear c4
     by_cases c5 : 0 ≤ x5_1
     ·rw [if_pos c5] at H
      have c5b0 : decide (0 ≤ x5_1) = true := dt_ c5
      clear c5
      by_cases c6 : x5_1 < (l1.length : Int)
      ·rw [if_pos c6] at H
       have c6b0 : decide (x5_1 < (l1.length : Int)) = true := dt_ c6
       clear c6
       by_cases c7 : (rd l0 x5_1) = (rd l1 x5_1)
       ·rw [if_pos c7] at H
        have c7b0 : ((rd l0 x5_1) == (rd l1 x5_1)) = true := beq_iff_eq.mpr c7
        have c7b1 : ((rd l0 x5_1) != (rd l1 x5_1)) = false := bne_eq_false_iff_eq.mpr c7
        clear c7
        have H' := sd_ H
        clear H
        have p175 : 0 ≤ (x5_1 : Int) := od_ (by first | (with_reducible assumption) | assumption)
        have q175 : x5_1 < (l0.length : Int) := od_ (by first | (with_reducible assumption) | assumption)
        obtain ⟨ad175, e175, hx175_0⟩ := Kd.at_int HR0.out x5_1 p175 q175
        cases e175
        replace p175 := eq_true p175
        replace q175 := eq_true q175
        have p176 : 0 ≤ (x5_1 : Int) := od_ (by first | (with_reducible assumption) | assumption)
        have q176 : x5_1 < (l1.length : Int) := od_ (by first | (with_reducible assumption) | assumption)
        obtain ⟨ad176, e176, hx176_0⟩ := Kd.at_int HR1.out x5_1 p176 q176
        cases e176
        replace p176 := eq_true p176
        replace q176 := eq_true q176
        go_wp2
        repeat (go_quiet (fail); try go_wp2)
        go_roundg k1
        case measure => have := HK1.out; omega
        case rel => exact ⟨(wrap64 (x5_1 + 1)), (by first | rfl | (simp; done) | (simp [*]; done) | (simp [bne]; done)), H', ⟨by have := HK1.out; omega⟩, by repeat (first | exact Drawn0.refl _ | apply Drawn0.step)⟩
       ·rw [if_neg c7] at H
        have c7b0 : ((rd l0 x5_1) == (rd l1 x5_1)) = false := beq_eq_false_iff_ne.mpr c7
        have c7b1 : ((rd l0 x5_1) != (rd l1 x5_1)) = true := bne_iff_ne.mpr c7
        obtain rfl := Option.some.inj H
        have p175 : 0 ≤ (x5_1 : Int) := od_ (by first | (with_reducible assumption) | assumption)
        have q175 : x5_1 < (l0.length : Int) := od_ (by first | (with_reducible assumption) | assumption)
        obtain ⟨ad175, e175, hx175_0⟩ := Kd.at_int HR0.out x5_1 p175 q175
        cases e175
        replace p175 := eq_true p175
        replace q175 := eq_true q175
        have p176 : 0 ≤ (x5_1 : Int) := od_ (by first | (with_reducible assumption) | assumption)
        have q176 : x5_1 < (l1.length : Int) := od_ (by first | (with_reducible assumption) | assumption)
        obtain ⟨ad176, e176, hx176_0⟩ := Kd.at_int HR1.out x5_1 p176 q176
        cases e176
        replace p176 := eq_true p176
        replace q176 := eq_true q176
        go_wp2
        repeat (go_quiet (fail); try go_wp2)
        go_ret
        exact ⟨by first | rfl | (simp; done) | (simp [*]; done), by repeat (first | exact Drawn0.refl _ | apply Drawn0.step)⟩
      ·rw [if_neg c6] at H
       exact absurd H (by simp)
     ·rw [if_neg c5] at H
      exact absurd H (by simp)
    ·rw [if_neg c4] at H
     have c4b0 : decide (x5_1 < (l0.length : Int)) = false := df_ c4
     clear c4
     obtain rfl := Option.some.inj H
     go_wp2
     repeat (go_quiet (fail); try go_wp2)
     go_ret
     exact ⟨by first | rfl | (simp; done) | (simp [*]; done), by repeat (first | exact Drawn0.refl _ | apply Drawn0.step)⟩
 ·rw [if_neg c3] at H
  have c3b0 : ((l0.length : Int) == (l1.length : Int)) = false := beq_eq_false_iff_ne.mpr c3
  have c3b1 : ((l0.length : Int) != (l1.length : Int)) = true := bne_iff_ne.mpr c3
  have c3b2 : (l0.length == l1.length) = false := by first | simpa using c3 | (simp at c3 ⊢; omega)
  obtain rfl := Option.some.inj H
  go_enter Try.func12, Try.ntmps12
  go_wp2
  repeat (go_quiet (fail); try go_wp2)
  go_ret
  exact ⟨by first | rfl | (simp; done) | (simp [*]; done), by repeat (first | exact Drawn0.refl _ | apply Drawn0.step)⟩

/-! ### voices_Push: function 13 -/
def voices_Push.f (k : Nat) (l0 : List (S45)) (l1 : List (S45)) (a2 : Bool) : Option (Int × Int) := if (l0.length : Int) > 2000 then (some (0, 2)) else (if (l1.length : Int) > (wrap64 (2000 - (l0.length : Int))) then (some (0, 2)) else ((voices_all.f l0).bind fun t177 => (if t177 = true then ((voices_all.f l1).bind fun t178 => (if t178 = true then ((voices_push.f k l0 l1 a2).bind fun bt179 => (some (bt179.1, bt179.2))) else (some (0, 2)))) else (some (0, 2)))))
theorem voices_Push.mono : ∀ a0 a1 a2 k, LeO (voices_Push.f k a0 a1 a2) (voices_Push.f (k + 1) a0 a1 a2) := by
 intro a0 a1 a2 k
 unfold voices_Push.f
 repeat' first
   | (with_reducible exact voices_push.mono _ _ _ _)
   | (with_reducible exact LeO.refl _)
   | (with_reducible exact LeO.none _)
   | (with_reducible refine LeO.ite ?_ ?_)
   | (with_reducible refine LeO.bind ?_ (fun _ => ?_))
   | exact voices_push.mono _ _ _ _
   | exact LeO.none _
   | refine LeO.ite ?_ ?_
   | refine LeO.bind ?_ (fun _ => ?_)
set_option maxHeartbeats 8000000 in
set_option maxRecDepth 100000 in
theorem voices_Push.calls (k : Nat) (A0 : Option Addr) (c0 : Nat) (l0 : List (S45)) (A1 : Option Addr) (c1 : Nat) (l1 : List (S45)) (a2 : Bool) (r1 : Int) (r2 : Int) (w : World) (hr0 : Kd.C k45 w A0 l0.length l0) (hc0 : l0.length ≤ c0) (hr1 : Kd.C k45 w A1 l1.length l1) (hc1 : l1.length ≤ c1) (h : voices_Push.f k l0 l1 a2 = some (r1, r2)) :
  Calls Try.prog 13 #[.slice A0 l0.length c0, .slice A1 l1.length c1, .bool a2] w fun e w' => e = .returned (.tuple #[.int .i64 r1, .int .i64 r2]) ∧ Below w.heap.size w w' := by
 have HR0 := sd_ hr0
 have HC0 := sd_ hc0
 clear hr0 hc0
 have HR1 := sd_ hr1
 have HC1 := sd_ hc1
 clear hr1 hc1
 have HB := sd_ (Below.refl w.heap.size w)
 have H : (if (l0.length : Int) > 2000 then (some (0, 2)) else (if (l1.length : Int) > (wrap64 (2000 - (l0.length : Int))) then (some (0, 2)) else ((voices_all.f l0).bind fun t177 => (if t177 = true then ((voices_all.f l1).bind fun t178 => (if t178 = true then ((voices_push.f k l0 l1 a2).bind fun bt179 => (some (bt179.1, bt179.2))) else (some (0, 2)))) else (some (0, 2)))))) = some (r1, r2) := h
 clear h
 by_cases c4 : (l0.length : Int) > 2000
 ·rw [if_pos c4] at H
  have c4b0 : decide (2000 < (l0.length : Int)) = true := dt_ c4
  have c4b1 : decide (2000 < l0.length) = true := dt_ (by omega)
  clear c4
  simp only [Option.some.injEq, Prod.mk.injEq] at H
  obtain ⟨rfl, rfl⟩ := H
  go_enter Try.func13, Try.ntmps13
  go_wp2
  go_ret2
  exact ⟨by first | rfl | (simp [errW_none, errW_some] <;> rfl) | (simp [*, errW_none, errW_some] <;> rfl), by repeat (first | (with_reducible first | exact HB.out | apply ba_ | apply pd_ | apply d1_) | exact HB.out)⟩
 ·rw [if_neg c4] at H
  have c4b0 : decide (2000 < (l0.length : Int)) = false := df_ c4
  have c4b1 : decide (2000 < l0.length) = false := df_ (by omega)
  clear c4
  by_cases c5 : (l1.length : Int) > (wrap64 (2000 - (l0.length : Int)))
  ·rw [if_pos c5] at H
   have c5b0 : decide ((wrap64 (2000 - (l0.length : Int))) < (l1.length : Int)) = true := dt_ c5
   clear c5
   simp only [Option.some.injEq, Prod.mk.injEq] at H
   obtain ⟨rfl, rfl⟩ := H
   go_enter Try.func13, Try.ntmps13
   go_wp2
   go_ret2
   exact ⟨by first | rfl | (simp [errW_none, errW_some] <;> rfl) | (simp [*, errW_none, errW_some] <;> rfl), by repeat (first | (with_reducible first | exact HB.out | apply ba_ | apply pd_ | apply d1_) | exact HB.out)⟩
  ·rw [if_neg c5] at H
   have c5b0 : decide ((wrap64 (2000 - (l0.length : Int))) < (l1.length : Int)) = false := df_ c5
   clear c5
   replace H := ob_ H
   obtain ⟨t177, A60, H⟩ := H
   replace H : (if t177 = true then ((voices_all.f l1).bind fun t178 => (if t178 = true then ((voices_push.f k l0 l1 a2).bind fun bt179 => (some (bt179.1, bt179.2))) else (some (0, 2)))) else (some (0, 2))) = some (r1, r2) := H
   have A6 := sd_ A60
   clear A60
   by_cases c7 : t177 = true
   ·subst c7
    have H1 : ((voices_all.f l1).bind fun t178 => (if t178 = true then ((voices_push.f k l0 l1 a2).bind fun bt179 => (some (bt179.1, bt179.2))) else (some (0, 2)))) = some (r1, r2) := by rw [if_pos rfl] at H; exact H
    clear H; have H := H1; clear H1
    replace H := ob_ H
    obtain ⟨t178, A80, H⟩ := H
    replace H : (if t178 = true then ((voices_push.f k l0 l1 a2).bind fun bt179 => (some (bt179.1, bt179.2))) else (some (0, 2))) = some (r1, r2) := H
    have A8 := sd_ A80
    clear A80
    by_cases c9 : t178 = true
    ·subst c9
     have H1 : ((voices_push.f k l0 l1 a2).bind fun bt179 => (some (bt179.1, bt179.2))) = some (r1, r2) := by rw [if_pos rfl] at H; exact H
     clear H; have H := H1; clear H1
     replace H := ob_ H
     obtain ⟨⟨t179, t180⟩, A100, H⟩ := H
     replace H : (some (t179, t180)) = some (r1, r2) := H
     have A10 := sd_ A100
     clear A100
     simp only [Option.some.injEq, Prod.mk.injEq] at H
     obtain ⟨rfl, rfl⟩ := H
     go_enter Try.func13, Try.ntmps13
     go_wp2_with (first | (go_at_call 26; (with_reducible refine (voices_all.calls _ _ l0 true _ ?side1 ?side2 A6.out).mono ?_); (case side1 => repeat (first | exact HR0.out | (with_reducible refine Kd.C_alloc ?_ _) | (with_reducible refine Kd.C_drewN ?_ _) | (with_reducible refine Kd.C_drew ?_))); (case side2 => exact HC0.out); rintro e w11 ⟨rfl, hb⟩; replace HB := hb_ HB e0_ hb; (try clear hb); (try clear hb2); (try clear hk); (try clear hi)) | (go_at_call 26; (with_reducible refine (voices_all.calls _ _ l1 true _ ?side1 ?side2 A8.out).mono ?_); (case side1 => repeat (first | exact (Kd.C_below HR1.out HB.out) | (with_reducible refine Kd.C_alloc ?_ _) | (with_reducible refine Kd.C_drewN ?_ _) | (with_reducible refine Kd.C_drew ?_))); (case side2 => exact HC1.out); rintro e w12 ⟨rfl, hb⟩; replace HB := hb_ HB e0_ hb; (try clear hb); (try clear hb2); (try clear hk); (try clear hi)) | ((with_reducible refine gate_callee (f := 21) rfl ?_); refine goesL_ (some 32) rfl rfl Try.func21 (by kernel_rfl) rfl #[.slice A0 l0.length c0, .slice A1 l1.length c1, .bool a2] rfl (by (try simp only [lm_, lq_, lx_]); first | done | rfl | (simp only [ld_, lt_]; rfl)) ?_; (with_reducible refine (voices_push.calls k _ _ l0 _ _ l1 a2 t179 t180 _ ?side1 ?side2 ?side3 ?side4 A10.out).mono ?_); (case side1 => repeat (first | exact (Kd.C_below HR0.out HB.out) | (with_reducible refine Kd.C_alloc ?_ _) | (with_reducible refine Kd.C_drewN ?_ _) | (with_reducible refine Kd.C_drew ?_))); (case side2 => exact HC0.out); (case side3 => repeat (first | exact (Kd.C_below HR1.out HB.out) | (with_reducible refine Kd.C_alloc ?_ _) | (with_reducible refine Kd.C_drewN ?_ _) | (with_reducible refine Kd.C_drew ?_))); (case side4 => exact HC1.out); rintro e w13 ⟨rfl, hb⟩; refine ⟨_, rfl, ?_⟩; replace HB := hb_ HB e0_ hb; (try clear hb); (try clear hb2); (try clear hk); (try clear hi)))
     go_ret2
     exact ⟨by first | rfl | (simp [errW_none, errW_some] <;> rfl) | (simp [*, errW_none, errW_some] <;> rfl), by repeat (first | (with_reducible first | exact HB.out | apply ba_ | apply pd_ | apply d1_) | exact HB.out)⟩
    ·replace c9 := bf_ c9
     subst c9
     have H1 : (some (0, 2)) = some (r1, r2) := by rw [if_neg (show ¬ (false = true) by decide)] at H; exact H
     clear H; have H := H1; clear H1
     simp only [Option.some.injEq, Prod.mk.injEq] at H
     obtain ⟨rfl, rfl⟩ := H
     go_enter Try.func13, Try.ntmps13
     go_wp2_with (first | (go_at_call 26; (with_reducible refine (voices_all.calls _ _ l0 true _ ?side1 ?side2 A6.out).mono ?_); (case side1 => repeat (first | exact HR0.out | (with_reducible refine Kd.C_alloc ?_ _) | (with_reducible refine Kd.C_drewN ?_ _) | (with_reducible refine Kd.C_drew ?_))); (case side2 => exact HC0.out); rintro e w14 ⟨rfl, hb⟩; replace HB := hb_ HB e0_ hb; (try clear hb); (try clear hb2); (try clear hk); (try clear hi)) | (go_at_call 26; (with_reducible refine (voices_all.calls _ _ l1 false _ ?side1 ?side2 A8.out).mono ?_); (case side1 => repeat (first | exact (Kd.C_below HR1.out HB.out) | (with_reducible refine Kd.C_alloc ?_ _) | (with_reducible refine Kd.C_drewN ?_ _) | (with_reducible refine Kd.C_drew ?_))); (case side2 => exact HC1.out); rintro e w15 ⟨rfl, hb⟩; replace HB := hb_ HB e0_ hb; (try clear hb); (try clear hb2); (try clear hk); (try clear hi)))
     go_ret2
     exact ⟨by first | rfl | (simp [errW_none, errW_some] <;> rfl) | (simp [*, errW_none, errW_some] <;> rfl), by repeat (first | (with_reducible first | exact HB.out | apply ba_ | apply pd_ | apply d1_) | exact HB.out)⟩
   ·replace c7 := bf_ c7
    subst c7
    have H1 : (some (0, 2)) = some (r1, r2) := by rw [if_neg (show ¬ (false = true) by decide)] at H; exact H
    clear H; have H := H1; clear H1
    simp only [Option.some.injEq, Prod.mk.injEq] at H
    obtain ⟨rfl, rfl⟩ := H
    go_enter Try.func13, Try.ntmps13
    go_wp2_with (first | (go_at_call 26; (with_reducible refine (voices_all.calls _ _ l0 false _ ?side1 ?side2 A6.out).mono ?_); (case side1 => repeat (first | exact HR0.out | (with_reducible refine Kd.C_alloc ?_ _) | (with_reducible refine Kd.C_drewN ?_ _) | (with_reducible refine Kd.C_drew ?_))); (case side2 => exact HC0.out); rintro e w16 ⟨rfl, hb⟩; replace HB := hb_ HB e0_ hb; (try clear hb); (try clear hb2); (try clear hk); (try clear hi)))
    go_ret2
    exact ⟨by first | rfl | (simp [errW_none, errW_some] <;> rfl) | (simp [*, errW_none, errW_some] <;> rfl), by repeat (first | (with_reducible first | exact HB.out | apply ba_ | apply pd_ | apply d1_) | exact HB.out)⟩

/-! ### voices_Span: function 15 -/
section
open Go.Region
variable {P : Program} {ops : Array Oper} {Q : Exit → Act → World → Prop} {md : Region.Mode} {S : World → Prop} {ds : List Nat}
/-- A call of a function value, in a region. -/
theorem goesF_ {oi : Oper} {N : Option Tmp} {a : Act} {w : World} {K : Act → World → Prop} {f : FuncId} {fn : Func} {ag : Array Operand} {ts : Array TypeId} {c : Operand} (hf : P.funcs[f]? = some fn) (hname : (fn.name == "runtime.NumGoroutine") = false) (args : Array Value)
  (hw : Region.wanted oi (yielded ops a.tmps) = true) (hN : oi.dst = N) (hop : oi.op = .call { callee := .value c, args := ag, argTypes := ts }) (hb : fn.body.isSome = true) (hv : a.eval c = .func (.func f) #[] #[]) (ha : ag.map a.eval = args)
  (h : Calls P f args w fun e w' => ∃ v, e = .returned v ∧ K (a.put N v) w') : if Region.wanted oi (yielded ops a.tmps) = true then Oper.wp P oi a w K Q else K (a.put N undef) w := by
 refine call_ f args hw hN ?_ h
 have he := enters_ hf hname hb args w
 unfold execOp
 simp [hop, resolve, Deferred.ofValue, invoke, hv, ha, he]
end
def sel_min (m x : S45) : S45 := if wrap64 (x.f0 - m.f0) < 0 then x else m
def acc_min (l : List S45) : Nat → S45
 | 0 => l.getD 0 z45
 | n + 1 => sel_min (acc_min l n) (l.getD (n + 1) z45)
set_option maxHeartbeats 4000000 in
set_option maxRecDepth 100000 in
theorem clo_min (x m : S45) (w : World) {d : Int} (hd : wrap64 (x.f0 - m.f0) = d) : Calls Try.prog 28 #[.agg #[.int .i64 x.f0, .int .i64 x.f1, .int .i64 x.f2, .int .i64 x.f3], .agg #[.int .i64 m.f0, .int .i64 m.f1, .int .i64 m.f2, .int .i64 m.f3]] w fun e w' => e = .returned (.int .i64 d) ∧ Below w.heap.size w w' := by
 have HD := sd_ hd
 clear hd
 go_enter Try.func28, Try.ntmps28
 go_wp2
 go_ret
 exact ⟨by rw [← HD.out]; rfl, by repeat (first | exact Below.refl _ _ | apply ba_ | apply d1_)⟩
set_option maxHeartbeats 8000000 in
set_option maxRecDepth 100000 in
theorem mf_min (A0 : Option Addr) (c0 : Nat) (l0 : List S45) (w : World) (hr0 : Kd.C k45 w A0 l0.length l0) (h1 : 1 ≤ l0.length) (hl : l0.length ≤ 100000) {y : S45} (hy : acc_min l0 (l0.length - 1) = y) :
  Calls Try.prog 27 #[.slice A0 l0.length c0, .func (.func 28) #[] #[]] w fun e w' => e = .returned (.agg #[.int .i64 y.f0, .int .i64 y.f1, .int .i64 y.f2, .int .i64 y.f3]) ∧ Below w.heap.size w w' := by
 have HR0 := sd_ hr0
 have HY := sd_ hy
 clear hr0 hy
 obtain ⟨ad, e1, ha0, ha1, ha2, ha3⟩ := at_T45 HR0.out 0 (by omega) (by omega)
 cases e1
 obtain ⟨x0, hx0⟩ : ∃ x, rd_T45 l0 0 = x := ⟨_, rfl⟩
 rw [hx0] at ha0 ha1 ha2 ha3
 have HX0 : Aside0 (acc_min l0 0 = x0) := ⟨hx0⟩
 clear hx0
 simp only [Int.toNat_zero, Nat.zero_mul] at ha0 ha1 ha2 ha3
 go_enter Try.func27, Try.ntmps27
 go_upto_region 3 with fail
 obtain ⟨g4, hg4⟩ : ∃ g, g = w.heap.size := ⟨_, rfl⟩
 obtain ⟨w4, hw4⟩ : ∃ W, W = w.alloc (Obj.cells #[.int .i64 0, .int .i64 0, .int .i64 0, .int .i64 0] 45) := ⟨_, rfl⟩
 have HB4 : Aside0 (Below w.heap.size w w4) := ⟨by rw [hw4]; exact ba_ (Below.refl _ _) _⟩
 have BL4 : Aside0 (w4.heap[g4]? = some (.cells #[.int .i64 0, .int .i64 0, .int .i64 0, .int .i64 0] 45 (0, 0))) := ⟨by rw [hw4, hg4]; exact blk_new _ _⟩
 have G4 : w.heap.size ≤ g4 := by omega
 rw [← hw4, ← hg4]
 clear hw4 hg4
 have hb0 : w4.cell? ad = some (.int .i64 x0.f0) := pw_cell_below HB4.out ha0
 have hb1 : w4.cell? ⟨ad.block, ad.off + 1, none⟩ = some (.int .i64 x0.f1) := pw_cell_below HB4.out ha1
 have hb2 : w4.cell? ⟨ad.block, ad.off + 2, none⟩ = some (.int .i64 x0.f2) := pw_cell_below HB4.out ha2
 have hb3 : w4.cell? ⟨ad.block, ad.off + 3, none⟩ = some (.int .i64 x0.f3) := pw_cell_below HB4.out ha3
 clear ha0 ha1 ha2 ha3
 go_upto_region 4 with fail
 obtain ⟨g5, hg5⟩ : ∃ g, g = w4.heap.size := ⟨_, rfl⟩
 obtain ⟨wa, hwa⟩ : ∃ W, W = w4.alloc (Obj.cells #[.int .i64 x0.f0, .int .i64 x0.f1, .int .i64 x0.f2, .int .i64 x0.f3] 45) := ⟨_, rfl⟩
 have HB : Aside0 (Below w.heap.size w wa) := ⟨by rw [hwa]; exact ba_ HB4.out _⟩
 have BK : Aside0 (wa.heap[g5]? = some (.cells #[.int .i64 x0.f0, .int .i64 x0.f1, .int .i64 x0.f2, .int .i64 x0.f3] 45 (0, 0))) := ⟨by rw [hwa, hg5]; exact blk_new _ _⟩
 have BL : Aside0 (wa.heap[g4]? = some (.cells #[.int .i64 0, .int .i64 0, .int .i64 0, .int .i64 0] 45 (0, 0))) := ⟨by rw [hwa]; exact ka_ BL4.out _⟩
 have HNE : g4 ≠ g5 := by have := blk_lt BL4.out; omega
 have G5 : w.heap.size ≤ g5 := by have := HB4.out.size; omega
 rw [← hwa, ← hg5]
 clear hwa hg5 HB4 BL4 hb0 hb1 hb2 hb3
 go_wp2
 go_loopw [6] (fun v6 wr => ∃ (h : Int) (m : S45), v6 = .int .i64 h ∧ 1 ≤ h ∧ h ≤ (l0.length : Int) ∧ Aside0 (acc_min l0 (h - 1).toNat = m) ∧ Aside0 (wr.heap[g5]? = some (.cells #[.int .i64 m.f0, .int .i64 m.f1, .int .i64 m.f2, .int .i64 m.f3] 45 (0, 0))) ∧ Aside0 (wr.heap[g4]? = some (.cells #[.int .i64 0, .int .i64 0, .int .i64 0, .int .i64 0] 45 (0, 0))) ∧ Aside0 (Below w.heap.size w wr)) (fun v6 _ => l0.length - (intOf v6).toNat)
 case atStart => exact ⟨1, x0, rfl, by omega, by omega, HX0, BK, BL, HB⟩
 case round =>
  obtain ⟨h, m, rfl, q0, q1, HM, BK_w, BL_w, HB_w⟩ := hrel
  by_cases c4 : h < (l0.length : Int)
  ·obtain ⟨ad, e1, hx0, hx1, hx2, hx3⟩ := at_T45 HR0.out h (by omega) c4
   cases e1
   obtain ⟨x, hx⟩ : ∃ x, rd_T45 l0 h = x := ⟨_, rfl⟩
   rw [hx] at hx0 hx1 hx2 hx3
   obtain ⟨d, hd⟩ : ∃ d, wrap64 (x.f0 - m.f0) = d := ⟨_, rfl⟩
   have HM2 : Aside0 (acc_min l0 (h + 1 - 1).toNat = if d < 0 then x else m) := ⟨by
    rw [show (h + 1 - 1).toNat = (h - 1).toNat + 1 by omega, acc_min, HM.out, ← hd, ← hx]
    unfold sel_min rd_T45
    rw [show (h - 1).toNat + 1 = h.toNat by omega]⟩
   have AC := sd_ hd
   have HX := sd_ hx
   clear hx hd
   have CB : (decide (d < 0) = true ∧ d < 0) ∨ (decide (d < 0) = false ∧ ¬ d < 0) := (Decidable.em (d < 0)).elim (fun q => .inl ⟨dt_ q, q⟩) (fun q => .inr ⟨df_ q, q⟩)
   go_wp2
   have HB_d := sd_ (d1_ HB_w.out)
   have BK_d := sd_ (kd_ BK_w.out)
   have BL_d := sd_ (kd_ BL_w.out)
   have hc0_d := pw_cell_below HB_d.out hx0
   have hc1_d := pw_cell_below HB_d.out hx1
   have hc2_d := pw_cell_below HB_d.out hx2
   have hc3_d := pw_cell_below HB_d.out hx3
   have hc4_d : wr.drew.cell? ⟨g5, 0, none⟩ = some (.int .i64 m.f0) := (kc_ BK_d.out 0).trans rfl
   have hc5_d : wr.drew.cell? ⟨g5, 1, none⟩ = some (.int .i64 m.f1) := (kc_ BK_d.out 1).trans rfl
   have hc6_d : wr.drew.cell? ⟨g5, 2, none⟩ = some (.int .i64 m.f2) := (kc_ BK_d.out 2).trans rfl
   have hc7_d : wr.drew.cell? ⟨g5, 3, none⟩ = some (.int .i64 m.f3) := (kc_ BK_d.out 3).trans rfl
   clear hx0 hx1 hx2 hx3
   have p0 : 0 ≤ h := by omega
   refine start_ (n := 8) (S := fun w' => w'.cell? (ad.add (h.toNat * 4)) = some (.int .i64 x.f0) ∧ w'.cell? ⟨(ad.add (h.toNat * 4)).block, (ad.add (h.toNat * 4)).off + 1, none⟩ = some (.int .i64 x.f1) ∧ w'.cell? ⟨(ad.add (h.toNat * 4)).block, (ad.add (h.toNat * 4)).off + 2, none⟩ = some (.int .i64 x.f2) ∧ w'.cell? ⟨(ad.add (h.toNat * 4)).block, (ad.add (h.toNat * 4)).off + 3, none⟩ = some (.int .i64 x.f3) ∧ w'.cell? ⟨g5, 0, none⟩ = some (.int .i64 m.f0) ∧ w'.cell? ⟨g5, 1, none⟩ = some (.int .i64 m.f1) ∧ w'.cell? ⟨g5, 2, none⟩ = some (.int .i64 m.f2) ∧ w'.cell? ⟨g5, 3, none⟩ = some (.int .i64 m.f3)) (ds := []) #[false, false, false, false, false, false, false, false] (by kernel_rfl) rfl rfl ⟨hc0_d, hc1_d, hc2_d, hc3_d, hc4_d, hc5_d, hc6_d, hc7_d⟩ (fun hHeld => ?_)
   generalize wr.drew = W2 at *
   refine pure_ (i := 0) (N := some 20) (v := ?_) (a' := ?_) #[true, false, false, false, false, false, false, false] rfl rfl (by kernel_rfl) (fun _ _ _ h => h) (Or.inl ⟨by rfl, ?_⟩) ?_ ?_
   rotate_left; (intro w'; go_simp; with_reducible rfl); rotate_left; (simp only [Act.put, ls_, lz_, lc_, i64_w, i32_w]; rfl)
   refine pure_ (i := 1) (N := some 21) (v := ?_) (a' := ?_) #[true, true, false, false, false, false, false, false] rfl rfl (by kernel_rfl) (fun _ _ _ h => h) (Or.inl ⟨by rfl, ?_⟩) ?_ ?_
   rotate_left; (intro w'; go_simp; with_reducible rfl); rotate_left; (simp only [Act.put, ls_, lz_, lc_, i64_w, i32_w]; rfl)
   refine pure_ (i := 2) (N := some 22) (v := ?_) (a' := ?_) #[true, true, true, false, false, false, false, false] rfl rfl (by kernel_rfl) (fun _ _ _ h => h) (Or.inl ⟨by rfl, ?_⟩) ?_ ?_
   rotate_left; (intro w'; go_simp; with_reducible rfl); rotate_left; (simp only [Act.put, ls_, lz_, lc_, i64_w, i32_w]; rfl)
   refine pure_ (i := 3) (N := some 23) (v := ?_) (a' := ?_) #[true, true, true, true, false, false, false, false] rfl rfl (by kernel_rfl) (fun _ _ _ h => h) (Or.inl ⟨by rfl, ?_⟩) ?_ ?_
   rotate_left; (intro w'; go_simp; with_reducible rfl); rotate_left; (simp only [Act.put, ls_, lz_, lc_, i64_w, i32_w]; rfl)
   refine take_ (i := 4) (N := some 24) (v := ?_) (a' := ?_) #[true, true, true, true, true, false, false, false] rfl rfl (by kernel_rfl) (fun _ _ _ h => h) (Or.inl ⟨by rfl, ?_⟩) hHeld ?_ ?_
   rotate_left
   ·rintro w' ⟨s0, s1, s2, s3, s4, s5, s6, s7⟩
    go_simp
    with_reducible rfl
   rotate_left
   ·simp only [Act.put, ls_, lz_, lc_, i64_w, i32_w]
    rfl
   refine take_ (i := 5) (N := some 25) (v := ?_) (a' := ?_) #[true, true, true, true, true, true, false, false] rfl rfl (by kernel_rfl) (fun _ _ _ h => h) (Or.inl ⟨by rfl, ?_⟩) hHeld ?_ ?_
   rotate_left
   ·rintro w' ⟨s0, s1, s2, s3, s4, s5, s6, s7⟩
    go_simp
    with_reducible rfl
   rotate_left
   ·simp only [Act.put, ls_, lz_, lc_, i64_w, i32_w]
    rfl
   refine one_ (i := 6) (N := some 26) #[true, true, true, true, true, true, true, false] rfl rfl (by kernel_rfl) (by decide) (fun K hK => ?_)
   refine goesF_ Try.func28 (by kernel_rfl) #[.agg #[.int .i64 x.f0, .int .i64 x.f1, .int .i64 x.f2, .int .i64 x.f3], .agg #[.int .i64 m.f0, .int .i64 m.f1, .int .i64 m.f2, .int .i64 m.f3]] (by rfl) rfl rfl rfl (by rfl) (by (simp only [lm_, lq_, lx_]; rfl)) ?_
   with_reducible refine (clo_min x m _ AC.out).mono ?_
   rintro e w5 ⟨rfl, hb⟩
   refine ⟨_, rfl, ?_⟩
   have hc0_w5 := pw_cell_below hb hc0_d
   have hc1_w5 := pw_cell_below hb hc1_d
   have hc2_w5 := pw_cell_below hb hc2_d
   have hc3_w5 := pw_cell_below hb hc3_d
   have hc4_w5 := pw_cell_below hb hc4_d
   have hc5_w5 := pw_cell_below hb hc5_d
   have hc6_w5 := pw_cell_below hb hc6_d
   have hc7_w5 := pw_cell_below hb hc7_d
   have HB_w5 := sd_ (bt_ HB_d.out hb)
   have BK_w5 := sd_ (blk_below BK_d.out hb)
   have BL_w5 := sd_ (blk_below BL_d.out hb)
   clear hb
   refine hK.out _ _ ⟨hc0_w5, hc1_w5, hc2_w5, hc3_w5, hc4_w5, hc5_w5, hc6_w5, hc7_w5⟩ (fun hHeld => ?_)
   clear hK K
   refine norm_ (a' := ?_) ?_ ?_
   rotate_left
   ·show Act.put _ (some 26) _ = _
    simp only [Act.put, ls_, lz_, lc_, i64_w, i32_w]
    rfl
   refine pure_ (i := 7) (N := some 27) (v := ?_) (a' := ?_) #[true, true, true, true, true, true, true, true] rfl rfl (by kernel_rfl) (fun _ _ _ h => h) (Or.inl ⟨by rfl, ?_⟩) ?_ ?_
   rotate_left; (intro w'; go_simp; with_reducible rfl); rotate_left; (simp only [Act.put, ls_, lz_, lc_, i64_w, i32_w]; rfl)
   refine done_ (by kernel_rfl) ?_

   rcases CB with ⟨cb, cq⟩ | ⟨cb, cq⟩
   ·rw [if_pos cq] at HM2
    clear cq
    rw [cb]
    have hf0 := kf_ BK_w5.out 0
    have hf1 := kf_ BK_w5.out 1
    have hf2 := kf_ BK_w5.out 2
    have hf3 := kf_ BK_w5.out 3
    go_wp2
    go_roundw
    case rel => exact ⟨h + 1, x, rfl, by omega, by omega, HM2, ⟨blk_put (blk_put (blk_put (blk_put BK_w5.out 0 _ rfl) 1 _ rfl) 2 _ rfl) 3 _ rfl⟩, ⟨blk_far (blk_far (blk_far (blk_far BL_w5.out HNE _) HNE _) HNE _) HNE _⟩, ⟨bs_ (bs_ (bs_ (bs_ HB_w5.out G5) G5) G5) G5⟩⟩
    case measure => simp [intOf]; omega
   ·rw [if_neg (show ¬ d < 0 by omega)] at HM2
    clear cq
    rw [cb]
    go_wp2
    go_roundw
    case rel => exact ⟨h + 1, m, rfl, by omega, by omega, HM2, BK_w5, BL_w5, HB_w5⟩
    case measure => simp [intOf]; omega
  ·have hm0 : wr.cell? ⟨g5, 0, none⟩ = some (.int .i64 m.f0) := (kc_ BK_w.out 0).trans rfl
   have hm1 : wr.cell? ⟨g5, 1, none⟩ = some (.int .i64 m.f1) := (kc_ BK_w.out 1).trans rfl
   have hm2 : wr.cell? ⟨g5, 2, none⟩ = some (.int .i64 m.f2) := (kc_ BK_w.out 2).trans rfl
   have hm3 : wr.cell? ⟨g5, 3, none⟩ = some (.int .i64 m.f3) := (kc_ BK_w.out 3).trans rfl
   have hn0 : wr.cell? ⟨g4, 0, none⟩ = some (.int .i64 0) := (kc_ BL_w.out 0).trans rfl
   have hn1 : wr.cell? ⟨g4, 1, none⟩ = some (.int .i64 0) := (kc_ BL_w.out 1).trans rfl
   have hn2 : wr.cell? ⟨g4, 2, none⟩ = some (.int .i64 0) := (kc_ BL_w.out 2).trans rfl
   have hn3 : wr.cell? ⟨g4, 3, none⟩ = some (.int .i64 0) := (kc_ BL_w.out 3).trans rfl
   have hf0 := kf_ BL_w.out 0
   have hf1 := kf_ BL_w.out 1
   have hf2 := kf_ BL_w.out 2
   have hf3 := kf_ BL_w.out 3
   go_wp2
   refine bodyPost_ret (results_cell_row rfl _ _ g4 45 #[.int .i64 m.f0, .int .i64 m.f1, .int .i64 m.f2, .int .i64 m.f3] (0, 0) _ rfl (blk_put (blk_put (blk_put (blk_put BL_w.out 0 _ rfl) 1 _ rfl) 2 _ rfl) 3 _ rfl) Try.underlying45 rfl (by kernel_rfl)) rfl ?_
   have e : m = y := by rw [← HM.out, ← HY.out, show (h - 1).toNat = l0.length - 1 by omega]
   rw [e]
   exact ⟨rfl, bs_ (bs_ (bs_ (bs_ HB_w.out G4) G4) G4) G4⟩
def sel_max (m x : S45) : S45 := if wrap64 (x.f2 - m.f2) > 0 then x else m
def acc_max (l : List S45) : Nat → S45
 | 0 => l.getD 0 z45
 | n + 1 => sel_max (acc_max l n) (l.getD (n + 1) z45)
set_option maxHeartbeats 4000000 in
set_option maxRecDepth 100000 in
theorem clo_max (x m : S45) (w : World) {d : Int} (hd : wrap64 (x.f2 - m.f2) = d) : Calls Try.prog 30 #[.agg #[.int .i64 x.f0, .int .i64 x.f1, .int .i64 x.f2, .int .i64 x.f3], .agg #[.int .i64 m.f0, .int .i64 m.f1, .int .i64 m.f2, .int .i64 m.f3]] w fun e w' => e = .returned (.int .i64 d) ∧ Below w.heap.size w w' := by
 have HD := sd_ hd
 clear hd
 go_enter Try.func30, Try.ntmps30
 go_wp2
 go_ret
 exact ⟨by rw [← HD.out]; rfl, by repeat (first | exact Below.refl _ _ | apply ba_ | apply d1_)⟩
set_option maxHeartbeats 8000000 in
set_option maxRecDepth 100000 in
theorem mf_max (A0 : Option Addr) (c0 : Nat) (l0 : List S45) (w : World) (hr0 : Kd.C k45 w A0 l0.length l0) (h1 : 1 ≤ l0.length) (hl : l0.length ≤ 100000) {y : S45} (hy : acc_max l0 (l0.length - 1) = y) :
  Calls Try.prog 29 #[.slice A0 l0.length c0, .func (.func 30) #[] #[]] w fun e w' => e = .returned (.agg #[.int .i64 y.f0, .int .i64 y.f1, .int .i64 y.f2, .int .i64 y.f3]) ∧ Below w.heap.size w w' := by
 have HR0 := sd_ hr0
 have HY := sd_ hy
 clear hr0 hy
 obtain ⟨ad, e1, ha0, ha1, ha2, ha3⟩ := at_T45 HR0.out 0 (by omega) (by omega)
 cases e1
 obtain ⟨x0, hx0⟩ : ∃ x, rd_T45 l0 0 = x := ⟨_, rfl⟩
 rw [hx0] at ha0 ha1 ha2 ha3
 have HX0 : Aside0 (acc_max l0 0 = x0) := ⟨hx0⟩
 clear hx0
 simp only [Int.toNat_zero, Nat.zero_mul] at ha0 ha1 ha2 ha3
 go_enter Try.func29, Try.ntmps29
 go_upto_region 3 with fail
 obtain ⟨g4, hg4⟩ : ∃ g, g = w.heap.size := ⟨_, rfl⟩
 obtain ⟨w4, hw4⟩ : ∃ W, W = w.alloc (Obj.cells #[.int .i64 0, .int .i64 0, .int .i64 0, .int .i64 0] 45) := ⟨_, rfl⟩
 have HB4 : Aside0 (Below w.heap.size w w4) := ⟨by rw [hw4]; exact ba_ (Below.refl _ _) _⟩
 have BL4 : Aside0 (w4.heap[g4]? = some (.cells #[.int .i64 0, .int .i64 0, .int .i64 0, .int .i64 0] 45 (0, 0))) := ⟨by rw [hw4, hg4]; exact blk_new _ _⟩
 have G4 : w.heap.size ≤ g4 := by omega
 rw [← hw4, ← hg4]
 clear hw4 hg4
 have hb0 : w4.cell? ad = some (.int .i64 x0.f0) := pw_cell_below HB4.out ha0
 have hb1 : w4.cell? ⟨ad.block, ad.off + 1, none⟩ = some (.int .i64 x0.f1) := pw_cell_below HB4.out ha1
 have hb2 : w4.cell? ⟨ad.block, ad.off + 2, none⟩ = some (.int .i64 x0.f2) := pw_cell_below HB4.out ha2
 have hb3 : w4.cell? ⟨ad.block, ad.off + 3, none⟩ = some (.int .i64 x0.f3) := pw_cell_below HB4.out ha3
 clear ha0 ha1 ha2 ha3
 go_upto_region 4 with fail
 obtain ⟨g5, hg5⟩ : ∃ g, g = w4.heap.size := ⟨_, rfl⟩
 obtain ⟨wa, hwa⟩ : ∃ W, W = w4.alloc (Obj.cells #[.int .i64 x0.f0, .int .i64 x0.f1, .int .i64 x0.f2, .int .i64 x0.f3] 45) := ⟨_, rfl⟩
 have HB : Aside0 (Below w.heap.size w wa) := ⟨by rw [hwa]; exact ba_ HB4.out _⟩
 have BK : Aside0 (wa.heap[g5]? = some (.cells #[.int .i64 x0.f0, .int .i64 x0.f1, .int .i64 x0.f2, .int .i64 x0.f3] 45 (0, 0))) := ⟨by rw [hwa, hg5]; exact blk_new _ _⟩
 have BL : Aside0 (wa.heap[g4]? = some (.cells #[.int .i64 0, .int .i64 0, .int .i64 0, .int .i64 0] 45 (0, 0))) := ⟨by rw [hwa]; exact ka_ BL4.out _⟩
 have HNE : g4 ≠ g5 := by have := blk_lt BL4.out; omega
 have G5 : w.heap.size ≤ g5 := by have := HB4.out.size; omega
 rw [← hwa, ← hg5]
 clear hwa hg5 HB4 BL4 hb0 hb1 hb2 hb3
 go_wp2
 go_loopw [6] (fun v6 wr => ∃ (h : Int) (m : S45), v6 = .int .i64 h ∧ 1 ≤ h ∧ h ≤ (l0.length : Int) ∧ Aside0 (acc_max l0 (h - 1).toNat = m) ∧ Aside0 (wr.heap[g5]? = some (.cells #[.int .i64 m.f0, .int .i64 m.f1, .int .i64 m.f2, .int .i64 m.f3] 45 (0, 0))) ∧ Aside0 (wr.heap[g4]? = some (.cells #[.int .i64 0, .int .i64 0, .int .i64 0, .int .i64 0] 45 (0, 0))) ∧ Aside0 (Below w.heap.size w wr)) (fun v6 _ => l0.length - (intOf v6).toNat)
 case atStart => exact ⟨1, x0, rfl, by omega, by omega, HX0, BK, BL, HB⟩
 case round =>
  obtain ⟨h, m, rfl, q0, q1, HM, BK_w, BL_w, HB_w⟩ := hrel
  by_cases c4 : h < (l0.length : Int)
  ·obtain ⟨ad, e1, hx0, hx1, hx2, hx3⟩ := at_T45 HR0.out h (by omega) c4
   cases e1
   obtain ⟨x, hx⟩ : ∃ x, rd_T45 l0 h = x := ⟨_, rfl⟩
   rw [hx] at hx0 hx1 hx2 hx3
   obtain ⟨d, hd⟩ : ∃ d, wrap64 (x.f2 - m.f2) = d := ⟨_, rfl⟩
   have HM2 : Aside0 (acc_max l0 (h + 1 - 1).toNat = if d > 0 then x else m) := ⟨by
    rw [show (h + 1 - 1).toNat = (h - 1).toNat + 1 by omega, acc_max, HM.out, ← hd, ← hx]
    unfold sel_max rd_T45
    rw [show (h - 1).toNat + 1 = h.toNat by omega]⟩
   have AC := sd_ hd
   have HX := sd_ hx
   clear hx hd
   have CB : (decide (d > 0) = true ∧ d > 0) ∨ (decide (d > 0) = false ∧ ¬ d > 0) := (Decidable.em (d > 0)).elim (fun q => .inl ⟨dt_ q, q⟩) (fun q => .inr ⟨df_ q, q⟩)
   go_wp2
   have HB_d := sd_ (d1_ HB_w.out)
   have BK_d := sd_ (kd_ BK_w.out)
   have BL_d := sd_ (kd_ BL_w.out)
   have hc0_d := pw_cell_below HB_d.out hx0
   have hc1_d := pw_cell_below HB_d.out hx1
   have hc2_d := pw_cell_below HB_d.out hx2
   have hc3_d := pw_cell_below HB_d.out hx3
   have hc4_d : wr.drew.cell? ⟨g5, 0, none⟩ = some (.int .i64 m.f0) := (kc_ BK_d.out 0).trans rfl
   have hc5_d : wr.drew.cell? ⟨g5, 1, none⟩ = some (.int .i64 m.f1) := (kc_ BK_d.out 1).trans rfl
   have hc6_d : wr.drew.cell? ⟨g5, 2, none⟩ = some (.int .i64 m.f2) := (kc_ BK_d.out 2).trans rfl
   have hc7_d : wr.drew.cell? ⟨g5, 3, none⟩ = some (.int .i64 m.f3) := (kc_ BK_d.out 3).trans rfl
   clear hx0 hx1 hx2 hx3
   have p0 : 0 ≤ h := by omega
   refine start_ (n := 8) (S := fun w' => w'.cell? (ad.add (h.toNat * 4)) = some (.int .i64 x.f0) ∧ w'.cell? ⟨(ad.add (h.toNat * 4)).block, (ad.add (h.toNat * 4)).off + 1, none⟩ = some (.int .i64 x.f1) ∧ w'.cell? ⟨(ad.add (h.toNat * 4)).block, (ad.add (h.toNat * 4)).off + 2, none⟩ = some (.int .i64 x.f2) ∧ w'.cell? ⟨(ad.add (h.toNat * 4)).block, (ad.add (h.toNat * 4)).off + 3, none⟩ = some (.int .i64 x.f3) ∧ w'.cell? ⟨g5, 0, none⟩ = some (.int .i64 m.f0) ∧ w'.cell? ⟨g5, 1, none⟩ = some (.int .i64 m.f1) ∧ w'.cell? ⟨g5, 2, none⟩ = some (.int .i64 m.f2) ∧ w'.cell? ⟨g5, 3, none⟩ = some (.int .i64 m.f3)) (ds := []) #[false, false, false, false, false, false, false, false] (by kernel_rfl) rfl rfl ⟨hc0_d, hc1_d, hc2_d, hc3_d, hc4_d, hc5_d, hc6_d, hc7_d⟩ (fun hHeld => ?_)
   generalize wr.drew = W2 at *
   refine pure_ (i := 0) (N := some 20) (v := ?_) (a' := ?_) #[true, false, false, false, false, false, false, false] rfl rfl (by kernel_rfl) (fun _ _ _ h => h) (Or.inl ⟨by rfl, ?_⟩) ?_ ?_
   rotate_left; (intro w'; go_simp; with_reducible rfl); rotate_left; (simp only [Act.put, ls_, lz_, lc_, i64_w, i32_w]; rfl)
   refine pure_ (i := 1) (N := some 21) (v := ?_) (a' := ?_) #[true, true, false, false, false, false, false, false] rfl rfl (by kernel_rfl) (fun _ _ _ h => h) (Or.inl ⟨by rfl, ?_⟩) ?_ ?_
   rotate_left; (intro w'; go_simp; with_reducible rfl); rotate_left; (simp only [Act.put, ls_, lz_, lc_, i64_w, i32_w]; rfl)
   refine pure_ (i := 2) (N := some 22) (v := ?_) (a' := ?_) #[true, true, true, false, false, false, false, false] rfl rfl (by kernel_rfl) (fun _ _ _ h => h) (Or.inl ⟨by rfl, ?_⟩) ?_ ?_
   rotate_left; (intro w'; go_simp; with_reducible rfl); rotate_left; (simp only [Act.put, ls_, lz_, lc_, i64_w, i32_w]; rfl)
   refine pure_ (i := 3) (N := some 23) (v := ?_) (a' := ?_) #[true, true, true, true, false, false, false, false] rfl rfl (by kernel_rfl) (fun _ _ _ h => h) (Or.inl ⟨by rfl, ?_⟩) ?_ ?_
   rotate_left; (intro w'; go_simp; with_reducible rfl); rotate_left; (simp only [Act.put, ls_, lz_, lc_, i64_w, i32_w]; rfl)
   refine take_ (i := 4) (N := some 24) (v := ?_) (a' := ?_) #[true, true, true, true, true, false, false, false] rfl rfl (by kernel_rfl) (fun _ _ _ h => h) (Or.inl ⟨by rfl, ?_⟩) hHeld ?_ ?_
   rotate_left
   ·rintro w' ⟨s0, s1, s2, s3, s4, s5, s6, s7⟩
    go_simp
    with_reducible rfl
   rotate_left
   ·simp only [Act.put, ls_, lz_, lc_, i64_w, i32_w]
    rfl
   refine take_ (i := 5) (N := some 25) (v := ?_) (a' := ?_) #[true, true, true, true, true, true, false, false] rfl rfl (by kernel_rfl) (fun _ _ _ h => h) (Or.inl ⟨by rfl, ?_⟩) hHeld ?_ ?_
   rotate_left
   ·rintro w' ⟨s0, s1, s2, s3, s4, s5, s6, s7⟩
    go_simp
    with_reducible rfl
   rotate_left
   ·simp only [Act.put, ls_, lz_, lc_, i64_w, i32_w]
    rfl
   refine one_ (i := 6) (N := some 26) #[true, true, true, true, true, true, true, false] rfl rfl (by kernel_rfl) (by decide) (fun K hK => ?_)
   refine goesF_ Try.func30 (by kernel_rfl) #[.agg #[.int .i64 x.f0, .int .i64 x.f1, .int .i64 x.f2, .int .i64 x.f3], .agg #[.int .i64 m.f0, .int .i64 m.f1, .int .i64 m.f2, .int .i64 m.f3]] (by rfl) rfl rfl rfl (by rfl) (by (simp only [lm_, lq_, lx_]; rfl)) ?_
   with_reducible refine (clo_max x m _ AC.out).mono ?_
   rintro e w5 ⟨rfl, hb⟩
   refine ⟨_, rfl, ?_⟩
   have hc0_w5 := pw_cell_below hb hc0_d
   have hc1_w5 := pw_cell_below hb hc1_d
   have hc2_w5 := pw_cell_below hb hc2_d
   have hc3_w5 := pw_cell_below hb hc3_d
   have hc4_w5 := pw_cell_below hb hc4_d
   have hc5_w5 := pw_cell_below hb hc5_d
   have hc6_w5 := pw_cell_below hb hc6_d
   have hc7_w5 := pw_cell_below hb hc7_d
   have HB_w5 := sd_ (bt_ HB_d.out hb)
   have BK_w5 := sd_ (blk_below BK_d.out hb)
   have BL_w5 := sd_ (blk_below BL_d.out hb)
   clear hb
   refine hK.out _ _ ⟨hc0_w5, hc1_w5, hc2_w5, hc3_w5, hc4_w5, hc5_w5, hc6_w5, hc7_w5⟩ (fun hHeld => ?_)
   clear hK K
   refine norm_ (a' := ?_) ?_ ?_
   rotate_left
   ·show Act.put _ (some 26) _ = _
    simp only [Act.put, ls_, lz_, lc_, i64_w, i32_w]
    rfl
   refine pure_ (i := 7) (N := some 27) (v := ?_) (a' := ?_) #[true, true, true, true, true, true, true, true] rfl rfl (by kernel_rfl) (fun _ _ _ h => h) (Or.inl ⟨by rfl, ?_⟩) ?_ ?_
   rotate_left; (intro w'; go_simp; with_reducible rfl); rotate_left; (simp only [Act.put, ls_, lz_, lc_, i64_w, i32_w]; rfl)
   refine done_ (by kernel_rfl) ?_

   rcases CB with ⟨cb, cq⟩ | ⟨cb, cq⟩
   ·rw [if_pos cq] at HM2
    clear cq
    rw [cb]
    have hf0 := kf_ BK_w5.out 0
    have hf1 := kf_ BK_w5.out 1
    have hf2 := kf_ BK_w5.out 2
    have hf3 := kf_ BK_w5.out 3
    go_wp2
    go_roundw
    case rel => exact ⟨h + 1, x, rfl, by omega, by omega, HM2, ⟨blk_put (blk_put (blk_put (blk_put BK_w5.out 0 _ rfl) 1 _ rfl) 2 _ rfl) 3 _ rfl⟩, ⟨blk_far (blk_far (blk_far (blk_far BL_w5.out HNE _) HNE _) HNE _) HNE _⟩, ⟨bs_ (bs_ (bs_ (bs_ HB_w5.out G5) G5) G5) G5⟩⟩
    case measure => simp [intOf]; omega
   ·rw [if_neg (show ¬ d > 0 by omega)] at HM2
    clear cq
    rw [cb]
    go_wp2
    go_roundw
    case rel => exact ⟨h + 1, m, rfl, by omega, by omega, HM2, BK_w5, BL_w5, HB_w5⟩
    case measure => simp [intOf]; omega
  ·have hm0 : wr.cell? ⟨g5, 0, none⟩ = some (.int .i64 m.f0) := (kc_ BK_w.out 0).trans rfl
   have hm1 : wr.cell? ⟨g5, 1, none⟩ = some (.int .i64 m.f1) := (kc_ BK_w.out 1).trans rfl
   have hm2 : wr.cell? ⟨g5, 2, none⟩ = some (.int .i64 m.f2) := (kc_ BK_w.out 2).trans rfl
   have hm3 : wr.cell? ⟨g5, 3, none⟩ = some (.int .i64 m.f3) := (kc_ BK_w.out 3).trans rfl
   have hn0 : wr.cell? ⟨g4, 0, none⟩ = some (.int .i64 0) := (kc_ BL_w.out 0).trans rfl
   have hn1 : wr.cell? ⟨g4, 1, none⟩ = some (.int .i64 0) := (kc_ BL_w.out 1).trans rfl
   have hn2 : wr.cell? ⟨g4, 2, none⟩ = some (.int .i64 0) := (kc_ BL_w.out 2).trans rfl
   have hn3 : wr.cell? ⟨g4, 3, none⟩ = some (.int .i64 0) := (kc_ BL_w.out 3).trans rfl
   have hf0 := kf_ BL_w.out 0
   have hf1 := kf_ BL_w.out 1
   have hf2 := kf_ BL_w.out 2
   have hf3 := kf_ BL_w.out 3
   go_wp2
   refine bodyPost_ret (results_cell_row rfl _ _ g4 45 #[.int .i64 m.f0, .int .i64 m.f1, .int .i64 m.f2, .int .i64 m.f3] (0, 0) _ rfl (blk_put (blk_put (blk_put (blk_put BL_w.out 0 _ rfl) 1 _ rfl) 2 _ rfl) 3 _ rfl) Try.underlying45 rfl (by kernel_rfl)) rfl ?_
   have e : m = y := by rw [← HM.out, ← HY.out, show (h - 1).toNat = l0.length - 1 by omega]
   rw [e]
   exact ⟨rfl, bs_ (bs_ (bs_ (bs_ HB_w.out G4) G4) G4) G4⟩
def voices_Span.f (l0 : List S45) : Option (Int × Int) := if l0.length = 0 ∨ 2000 < l0.length then some (0, 0) else if l0.all nearB = true then some ((acc_min l0 (l0.length - 1)).f0, (acc_max l0 (l0.length - 1)).f2) else some (0, 0)
set_option maxHeartbeats 8000000 in
set_option maxRecDepth 100000 in
theorem voices_Span.calls (A0 : Option Addr) (c0 : Nat) (l0 : List S45) (r1 : Int) (r2 : Int) (w : World) (hr0 : Kd.C k45 w A0 l0.length l0) (hc0 : l0.length ≤ c0) (h : voices_Span.f l0 = some (r1, r2)) :
  Calls Try.prog 15 #[.slice A0 l0.length c0] w fun e w' => e = .returned (.tuple #[.int .i64 r1, .int .i64 r2]) ∧ Below w.heap.size w w' := by
 have HR0 := sd_ hr0
 have HC0 := sd_ hc0
 clear hr0 hc0
 have HB := sd_ (Below.refl w.heap.size w)
 unfold voices_Span.f at h
 by_cases c1 : l0.length = 0
 ·rw [if_pos (.inl c1)] at h
  obtain ⟨rfl, rfl⟩ := Prod.mk.inj (Option.some.inj h)
  clear h
  obtain ⟨n, hn⟩ : ∃ n, l0.length = n := ⟨_, rfl⟩
  rw [hn] at c1 ⊢
  subst c1
  clear hn
  go_enter Try.func15, Try.ntmps15
  go_wp2
  go_ret2
  exact ⟨rfl, HB.out⟩
 by_cases c3 : 2000 < l0.length
 ·rw [if_pos (.inr c3)] at h
  obtain ⟨rfl, rfl⟩ := Prod.mk.inj (Option.some.inj h)
  clear h
  have c2 : ((l0.length : Int) == 0) = false := by simp [c1]
  have c4 : decide ((l0.length : Int) > 2000) = true := dt_ (by omega)
  go_enter Try.func15, Try.ntmps15
  go_wp2
  go_ret2
  exact ⟨rfl, HB.out⟩
 rw [if_neg (by omega)] at h
 have c2 : ((l0.length : Int) == 0) = false := by simp [c1]
 have c4 : decide ((l0.length : Int) > 2000) = false := df_ (by omega)
 have hA : voices_all.f l0 = some (l0.all nearB) := by unfold voices_all.f; rw [if_pos (by omega)]
 obtain ⟨b, hb⟩ : ∃ b, l0.all nearB = b := ⟨_, rfl⟩
 rw [hb] at h hA
 clear hb
 have HA := sd_ hA
 clear hA
 cases b with
 | false =>
  rw [if_neg (by decide)] at h
  obtain ⟨rfl, rfl⟩ := Prod.mk.inj (Option.some.inj h)
  clear h
  go_enter Try.func15, Try.ntmps15
  go_wp2_with (go_at_call 26; (with_reducible refine (voices_all.calls _ _ l0 false _ HR0.out HC0.out HA.out).mono ?_); rintro e w5 ⟨rfl, hb⟩; replace HB := sd_ hb; clear hb)
  go_ret2
  exact ⟨rfl, HB.out⟩
 | true =>
  rw [if_pos rfl] at h
  obtain ⟨y1, hy1⟩ : ∃ y, acc_min l0 (l0.length - 1) = y := ⟨_, rfl⟩
  obtain ⟨y2, hy2⟩ : ∃ y, acc_max l0 (l0.length - 1) = y := ⟨_, rfl⟩
  rw [hy1, hy2] at h
  have HY1 := sd_ hy1
  have HY2 := sd_ hy2
  obtain ⟨rfl, rfl⟩ := Prod.mk.inj (Option.some.inj h)
  clear h hy1 hy2
  have hF1 : ∀ W, (Instr.field 45 (.agg #[.int .i64 y1.f0, .int .i64 y1.f1, .int .i64 y1.f2, .int .i64 y1.f3]) 0).run Try.prog W = .ok (.int .i64 y1.f0) W := by intro W; rfl
  have hF2 : ∀ W, (Instr.field 45 (.agg #[.int .i64 y2.f0, .int .i64 y2.f1, .int .i64 y2.f2, .int .i64 y2.f3]) 2).run Try.prog W = .ok (.int .i64 y2.f2) W := by intro W; rfl
  have HL1 : Aside0 (1 ≤ l0.length) := ⟨by omega⟩
  have HL2 : Aside0 (l0.length ≤ 100000) := ⟨by omega⟩
  go_enter Try.func15, Try.ntmps15
  go_wp2_with (first | (go_at_call 26; (with_reducible refine (voices_all.calls _ _ l0 true _ HR0.out HC0.out HA.out).mono ?_); rintro e w5 ⟨rfl, hb⟩; replace HB := sd_ hb; clear hb) | (go_at_call 27; refine (mf_min A0 c0 l0 _ (Kd.C_below HR0.out HB.out) HL1.out HL2.out HY1.out).mono ?_; rintro e w6 ⟨rfl, hb⟩; replace HB := sd_ (bt_ HB.out hb); clear hb) | (go_at_call 29; refine (mf_max A0 c0 l0 _ (Kd.C_below HR0.out HB.out) HL1.out HL2.out HY2.out).mono ?_; rintro e w7 ⟨rfl, hb⟩; replace HB := sd_ (bt_ HB.out hb); clear hb))
  go_ret2
  exact ⟨rfl, HB.out⟩

end Go.Proofs.Ytchmcljinkemaaa.P
