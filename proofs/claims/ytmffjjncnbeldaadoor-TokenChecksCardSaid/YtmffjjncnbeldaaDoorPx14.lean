-- Written by a program of this session (wip/tools/xprint.py, over the kit's print): Lean checks it.
import Derived.Test.YtmffjjncnbeldaaDoorPx0
import Derived.Test.YtmffjjncnbeldaaDoorPx3
import Derived.Test.YtmffjjncnbeldaaDoorPx5
import Derived.Test.YtmffjjncnbeldaaDoorPx6
import Derived.Test.YtmffjjncnbeldaaDoorPx11
import Derived.Test.YtmffjjncnbeldaaDoorPx12
import Derived.Test.YtmffjjncnbeldaaDoorPx13
namespace Go.Proofs.YtmffjjncnbeldaaDoor.P
open Go.RowKit Go.Proofs.YtmffjjncnbeldaaDoorW.PrintWords Go.Proofs.YtmffjjncnbeldaaDoorW.PrintLast Go.Proofs.YtmffjjncnbeldaaDoorW.PrintMore
attribute [local go_sem] max2_int min2_int max_two min_two max_three min_three max_four min_four   -- for this text's walks alone
set_option linter.unusedVariables false
set_option linter.unusedSimpArgs false

/-! ### neumeref08_Join: function 16 -/
def neumeref08_Join.l0 : Nat → List (S34) → ByteArray → Int → Option (ByteArray)
 | 0, _, _, _ => none
 | k + 1, x0, x3, x4 => if (wrap64 (x4 + 1)) < (x0.length : Int) then (if x4 > 0 then (if x3.size + 1 ≤ 9223372036854775807 then (if 0 ≤ x4 then (if x4 < (x0.length : Int) then ((neumeref08_raw.f ((rd_T34 x0 x4).f0) ((rd_T34 x0 x4).f1) ((rd_T34 x0 x4).f2)).bind fun t288 => (if x3.size + 1 + t288.size ≤ 9223372036854775807 then (neumeref08_Join.l0 k x0 ((x3 ++ (⟨#[32]⟩ : ByteArray)) ++ t288) (wrap64 (x4 + 1))) else (none))) else (none)) else (none)) else (none)) else (if 0 ≤ x4 then (if x4 < (x0.length : Int) then ((neumeref08_raw.f ((rd_T34 x0 x4).f0) ((rd_T34 x0 x4).f1) ((rd_T34 x0 x4).f2)).bind fun t290 => (if x3.size + t290.size ≤ 9223372036854775807 then (neumeref08_Join.l0 k x0 (x3 ++ t290) (wrap64 (x4 + 1))) else (none))) else (none)) else (none))) else (some x3)
def neumeref08_Join.f (k : Nat) (l0 : List (S34)) : Option (ByteArray) := (neumeref08_Check.f k l0).bind fun t286 => (if t286 = true then (neumeref08_Join.l0 k l0 (⟨#[]⟩ : ByteArray) 0) else (some (⟨#[]⟩ : ByteArray)))
theorem neumeref08_Join.mono_l : ∀ k, (∀ y0 y1 y2, LeO (neumeref08_Join.l0 k y0 y1 y2) (neumeref08_Join.l0 (k + 1) y0 y1 y2))
 | 0 => fun _ _ _ r h => by simp [neumeref08_Join.l0] at h
 | k + 1 => by
  have ih0 := neumeref08_Join.mono_l k
  ·intro y0 y1 y2
   unfold neumeref08_Join.l0
   repeat' first
   | (with_reducible exact ih0 _ _ _)
   | (with_reducible exact neumeref08_Check.mono _ _)
   | (with_reducible exact LeO.refl _)
   | (with_reducible exact LeO.none _)
   | (with_reducible refine LeO.ite ?_ ?_)
   | (with_reducible refine LeO.bind ?_ (fun _ => ?_))
   | exact ih0 _ _ _
   | exact neumeref08_Check.mono _ _
   | exact LeO.none _
   | refine LeO.ite ?_ ?_
   | refine LeO.bind ?_ (fun _ => ?_)
theorem neumeref08_Join.mono : ∀ a0 k, LeO (neumeref08_Join.f k a0) (neumeref08_Join.f (k + 1) a0) := by
 intro a0 k
 have ih0 := neumeref08_Join.mono_l k
 unfold neumeref08_Join.f
 repeat' first
   | (with_reducible exact ih0 _ _ _)
   | (with_reducible exact neumeref08_Check.mono _ _)
   | (with_reducible exact LeO.refl _)
   | (with_reducible exact LeO.none _)
   | (with_reducible refine LeO.ite ?_ ?_)
   | (with_reducible refine LeO.bind ?_ (fun _ => ?_))
   | exact ih0 _ _ _
   | exact neumeref08_Check.mono _ _
   | exact LeO.none _
   | refine LeO.ite ?_ ?_
   | refine LeO.bind ?_ (fun _ => ?_)
set_option maxHeartbeats 8000000 in
set_option maxRecDepth 100000 in
theorem neumeref08_Join.calls (k : Nat) (A0 : Option Addr) (c0 : Nat) (l0 : List (S34)) (r : ByteArray) (w : World) (hr0 : Kd.C k34 w A0 l0.length l0) (hc0 : l0.length ≤ c0) (h : neumeref08_Join.f k l0 = some r) :
  Calls Tryd.prog 16 #[.slice A0 l0.length c0] w fun e w' => e = .returned (.string r) ∧ Below w.heap.size w w' := by
 have hu34 := Tryd.underlying34
 have HR0 := sd_ hr0
 have HC0 := sd_ hc0
 clear hr0 hc0
 have HB := sd_ (Below.refl w.heap.size w)
 have H : ((neumeref08_Check.f k l0).bind fun t286 => (if t286 = true then (neumeref08_Join.l0 k l0 (⟨#[]⟩ : ByteArray) 0) else (some (⟨#[]⟩ : ByteArray)))) = some r := h
 clear h
 replace H := ob_ H
 obtain ⟨t286, A20, H⟩ := H
 replace H : (if t286 = true then (neumeref08_Join.l0 k l0 (⟨#[]⟩ : ByteArray) 0) else (some (⟨#[]⟩ : ByteArray))) = some r := H
 have A2 := sd_ A20
 clear A20
 by_cases c3 : t286 = true
 ·subst c3
  have H1 : (neumeref08_Join.l0 k l0 (⟨#[]⟩ : ByteArray) 0) = some r := by rw [if_pos rfl] at H; exact H
  clear H; have H := H1; clear H1
  have H' := sd_ H
  clear H
  go_enter Tryd.func16, Tryd.ntmps16
  go_wp2_with (first | ((with_reducible refine gate_callee (f := 14) rfl ?_); refine goesL_ (some 6) rfl rfl Tryd.func14 (by kernel_rfl) rfl #[.slice A0 l0.length c0] rfl (by (try simp only [lm_, lq_, lx_]); first | done | rfl | (simp only [ld_, lt_]; rfl)) ?_; (with_reducible refine (neumeref08_Check.calls k _ _ l0 true _ ?side1 ?side2 A2.out).mono ?_); (case side1 => repeat (first | exact HR0.out | (with_reducible refine Kd.C_alloc ?_ _) | (with_reducible refine Kd.C_drewN ?_ _) | (with_reducible refine Kd.C_drew ?_))); (case side2 => exact HC0.out); rintro e w4 ⟨rfl, hb⟩; refine ⟨_, rfl, ?_⟩; replace HB := hb_ HB e0_ hb; (try clear hb); (try clear hb2); (try clear hk); (try clear hi)))
  go_loopg [3, 4] k (fun kq v3 v4 w' => ∃ (x3_1 : ByteArray) (x4_1 : Int), v3 = .string x3_1 ∧ v4 = .int .i64 x4_1 ∧ Aside0 (neumeref08_Join.l0 kq l0 x3_1 x4_1 = some r) ∧ Aside0 (kq ≤ k) ∧ Aside0 (Below w.heap.size w w'))
  case atStart => exact ⟨((⟨#[]⟩ : ByteArray)), (0), (by first | rfl | (simp; done) | (simp [*]; done) | (simp [bne]; done)), (by first | rfl | (simp; done) | (simp [*]; done) | (simp [bne]; done)), H', ⟨Nat.le_refl _⟩, ⟨by repeat (first | (with_reducible first | exact HB.out | apply ba_ | apply pd_ | apply d1_) | exact HB.out)⟩⟩
  case round =>
   clear H'
   try clear c1; try clear p2; try clear c3
   obtain ⟨x3_1, x4_1, rfl, rfl, HA, HK1, HB⟩ := hrel
   cases gk with
   | zero => exact absurd HA.out (by simp [neumeref08_Join.l0])
   | succ k1 =>
    have H := HA.out
    clear HA
    simp only [neumeref08_Join.l0] at H
    by_cases c5 : (wrap64 (x4_1 + 1)) < (l0.length : Int)
    ·rw [if_pos c5] at H
     have c5b0 : decide ((wrap64 (x4_1 + 1)) < (l0.length : Int)) = true := dt_ c5
     clear c5
     by_cases c6 : x4_1 > 0
     ·rw [if_pos c6] at H
      have c6b0 : decide (0 < x4_1) = true := dt_ c6
      clear c6
      by_cases c7 : x3_1.size + 1 ≤ 9223372036854775807
      ·rw [if_pos c7] at H
       have c7b0 := eq_true c7
       have c7b1 : decide (x3_1.size + 1 ≤ 9223372036854775807) = true := dt_ c7
       try have c7b2 : (9223372036854775807 < x3_1.size + 1) = False := eq_false (Nat.not_lt.2 c7)
       by_cases c8 : 0 ≤ x4_1
       ·rw [if_pos c8] at H
        have c8b0 : decide (0 ≤ x4_1) = true := dt_ c8
        clear c8
        by_cases c9 : x4_1 < (l0.length : Int)
        ·rw [if_pos c9] at H
         have c9b0 : decide (x4_1 < (l0.length : Int)) = true := dt_ c9
         clear c9
         replace H := ob_ H
         obtain ⟨t288, A100, H⟩ := H
         replace H : (if x3_1.size + 1 + t288.size ≤ 9223372036854775807 then (neumeref08_Join.l0 k1 l0 ((x3_1 ++ (⟨#[32]⟩ : ByteArray)) ++ t288) (wrap64 (x4_1 + 1))) else (none)) = some r := H
         have A10 := sd_ A100
         clear A100
         by_cases c11 : x3_1.size + 1 + t288.size ≤ 9223372036854775807
         ·rw [if_pos c11] at H
          have c11b0 := eq_true c11
          have c11b1 : decide (x3_1.size + 1 + t288.size ≤ 9223372036854775807) = true := dt_ c11
          try have c11b2 : (9223372036854775807 < x3_1.size + 1 + t288.size) = False := eq_false (Nat.not_lt.2 c11)
          have H' := sd_ H
          clear H
          have p287 : 0 ≤ (x4_1 : Int) := od_ (by first | (with_reducible assumption) | assumption)
          have q287 : x4_1 < (l0.length : Int) := od_ (by first | (with_reducible assumption) | assumption)
          obtain ⟨ad287, e287, hx287_0, hx287_1, hx287_2⟩ := at_T34 HR0.out x4_1 p287 q287
          cases e287
          replace hx287_0 := (HB.out.cell (wb_ w _ hx287_0)).trans hx287_0
          replace hx287_1 := (HB.out.cell (wb_ w _ hx287_1)).trans hx287_1
          replace hx287_2 := (HB.out.cell (wb_ w _ hx287_2)).trans hx287_2
          replace p287 := eq_true p287
          replace q287 := eq_true q287
          go_wp2_with (first | ((with_reducible refine gate_callee (f := 27) rfl ?_); refine goesL_ (some 24) rfl rfl Tryd.func27 (by kernel_rfl) rfl #[.agg #[.int .i64 ((rd_T34 l0 x4_1).f0), .string ((rd_T34 l0 x4_1).f1), .int .i64 ((rd_T34 l0 x4_1).f2)]] rfl (by (try simp only [lm_, lq_, lx_]); first | done | rfl | (simp only [ld_, lt_]; rfl)) ?_; (with_reducible refine (neumeref08_raw.calls ((rd_T34 l0 x4_1).f0) ((rd_T34 l0 x4_1).f1) ((rd_T34 l0 x4_1).f2) t288 _ A10.out).mono ?_); rintro e w12 ⟨rfl, hb⟩; refine ⟨_, rfl, ?_⟩; replace HB := hb_ HB e0_ hb; (try clear hb); (try clear hb2); (try clear hk); (try clear hi)))
          go_roundg k1
          case measure => have := HK1.out; omega
          case rel => exact ⟨((x3_1 ++ (⟨#[32]⟩ : ByteArray)) ++ t288), (wrap64 (x4_1 + 1)), (by first | rfl | (simp; done) | (simp [*]; done) | (simp [bne]; done)), (by first | rfl | (simp; done) | (simp [*]; done) | (simp [bne]; done)), H', ⟨by have := HK1.out; omega⟩, ⟨by repeat (first | (with_reducible first | exact HB.out | apply ba_ | apply pd_ | apply d1_) | exact HB.out)⟩⟩
         ·rw [if_neg c11] at H
          exact absurd H (by simp)
        ·rw [if_neg c9] at H
         exact absurd H (by simp)
       ·rw [if_neg c8] at H
        exact absurd H (by simp)
      ·rw [if_neg c7] at H
       exact absurd H (by simp)
     ·rw [if_neg c6] at H
      have c6b0 : decide (0 < x4_1) = false := df_ c6
      clear c6
      by_cases c13 : 0 ≤ x4_1
      ·rw [if_pos c13] at H
       have c13b0 : decide (0 ≤ x4_1) = true := dt_ c13
       clear c13
       by_cases c14 : x4_1 < (l0.length : Int)
       ·rw [if_pos c14] at H
        have c14b0 : decide (x4_1 < (l0.length : Int)) = true := dt_ c14
        clear c14
        replace H := ob_ H
        obtain ⟨t290, A150, H⟩ := H
        replace H : (if x3_1.size + t290.size ≤ 9223372036854775807 then (neumeref08_Join.l0 k1 l0 (x3_1 ++ t290) (wrap64 (x4_1 + 1))) else (none)) = some r := H
        have A15 := sd_ A150
        clear A150
        by_cases c16 : x3_1.size + t290.size ≤ 9223372036854775807
        ·rw [if_pos c16] at H
         have c16b0 := eq_true c16
         have c16b1 : decide (x3_1.size + t290.size ≤ 9223372036854775807) = true := dt_ c16
         try have c16b2 : (9223372036854775807 < x3_1.size + t290.size) = False := eq_false (Nat.not_lt.2 c16)
         have H' := sd_ H
         clear H
         have p289 : 0 ≤ (x4_1 : Int) := od_ (by first | (with_reducible assumption) | assumption)
         have q289 : x4_1 < (l0.length : Int) := od_ (by first | (with_reducible assumption) | assumption)
         obtain ⟨ad289, e289, hx289_0, hx289_1, hx289_2⟩ := at_T34 HR0.out x4_1 p289 q289
         cases e289
         replace hx289_0 := (HB.out.cell (wb_ w _ hx289_0)).trans hx289_0
         replace hx289_1 := (HB.out.cell (wb_ w _ hx289_1)).trans hx289_1
         replace hx289_2 := (HB.out.cell (wb_ w _ hx289_2)).trans hx289_2
         replace p289 := eq_true p289
         replace q289 := eq_true q289
         go_wp2_with (first | ((with_reducible refine gate_callee (f := 27) rfl ?_); refine goesL_ (some 24) rfl rfl Tryd.func27 (by kernel_rfl) rfl #[.agg #[.int .i64 ((rd_T34 l0 x4_1).f0), .string ((rd_T34 l0 x4_1).f1), .int .i64 ((rd_T34 l0 x4_1).f2)]] rfl (by (try simp only [lm_, lq_, lx_]); first | done | rfl | (simp only [ld_, lt_]; rfl)) ?_; (with_reducible refine (neumeref08_raw.calls ((rd_T34 l0 x4_1).f0) ((rd_T34 l0 x4_1).f1) ((rd_T34 l0 x4_1).f2) t290 _ A15.out).mono ?_); rintro e w17 ⟨rfl, hb⟩; refine ⟨_, rfl, ?_⟩; replace HB := hb_ HB e0_ hb; (try clear hb); (try clear hb2); (try clear hk); (try clear hi)))
         go_roundg k1
         case measure => have := HK1.out; omega
         case rel => exact ⟨(x3_1 ++ t290), (wrap64 (x4_1 + 1)), (by first | rfl | (simp; done) | (simp [*]; done) | (simp [bne]; done)), (by first | rfl | (simp; done) | (simp [*]; done) | (simp [bne]; done)), H', ⟨by have := HK1.out; omega⟩, ⟨by repeat (first | (with_reducible first | exact HB.out | apply ba_ | apply pd_ | apply d1_) | exact HB.out)⟩⟩
        ·rw [if_neg c16] at H
         exact absurd H (by simp)
       ·rw [if_neg c14] at H
        exact absurd H (by simp)
      ·rw [if_neg c13] at H
       exact absurd H (by simp)
    ·rw [if_neg c5] at H
     have c5b0 : decide ((wrap64 (x4_1 + 1)) < (l0.length : Int)) = false := df_ c5
     clear c5
     obtain rfl := Option.some.inj H
     go_wp2
     go_ret
     exact ⟨by first | rfl | (simp [errW_none, errW_some] <;> rfl) | (simp [*, errW_none, errW_some] <;> rfl), by repeat (first | (with_reducible first | exact HB.out | apply ba_ | apply pd_ | apply d1_) | exact HB.out)⟩
 ·replace c3 := bf_ c3
  subst c3
  have H1 : (some (⟨#[]⟩ : ByteArray)) = some r := by rw [if_neg (show ¬ (false = true) by decide)] at H; exact H
  clear H; have H := H1; clear H1
  obtain rfl := Option.some.inj H
  go_enter Tryd.func16, Tryd.ntmps16
  go_wp2_with (first | ((with_reducible refine gate_callee (f := 14) rfl ?_); refine goesL_ (some 6) rfl rfl Tryd.func14 (by kernel_rfl) rfl #[.slice A0 l0.length c0] rfl (by (try simp only [lm_, lq_, lx_]); first | done | rfl | (simp only [ld_, lt_]; rfl)) ?_; (with_reducible refine (neumeref08_Check.calls k _ _ l0 false _ ?side1 ?side2 A2.out).mono ?_); (case side1 => repeat (first | exact HR0.out | (with_reducible refine Kd.C_alloc ?_ _) | (with_reducible refine Kd.C_drewN ?_ _) | (with_reducible refine Kd.C_drew ?_))); (case side2 => exact HC0.out); rintro e w18 ⟨rfl, hb⟩; refine ⟨_, rfl, ?_⟩; replace HB := hb_ HB e0_ hb; (try clear hb); (try clear hb2); (try clear hk); (try clear hi)))
  go_ret
  exact ⟨by first | rfl | (simp [errW_none, errW_some] <;> rfl) | (simp [*, errW_none, errW_some] <;> rfl), by repeat (first | (with_reducible first | exact HB.out | apply ba_ | apply pd_ | apply d1_) | exact HB.out)⟩

/-! ### neumelaw08_TokenChecks: function 4 -/
def neumelaw08_TokenChecks.f (k : Nat) (l0 : List (S34)) : Option (Bool) := (neumelaw08_few.f k l0).bind fun t291 => (if t291 = true then ((token_Check.f k l0).bind fun t293 => ((neumeref08_Check.f k l0).bind fun t294 => (if (t293 == t294) = true then ((token_Join.f k l0).bind fun t295 => ((neumeref08_Join.f k l0).bind fun t296 => (if t295.toList = t296.toList then ((neumelaw08_heads.f k).bind fun t297 => (some t297)) else (some false)))) else (some false)))) else ((neumelaw08_heads.f k).bind fun t292 => (some t292)))
theorem neumelaw08_TokenChecks.mono : ∀ a0 k, LeO (neumelaw08_TokenChecks.f k a0) (neumelaw08_TokenChecks.f (k + 1) a0) := by
 intro a0 k
 unfold neumelaw08_TokenChecks.f
 repeat' first
   | (with_reducible exact neumelaw08_few.mono _ _)
   | (with_reducible exact neumelaw08_heads.mono _)
   | (with_reducible exact neumeref08_Check.mono _ _)
   | (with_reducible exact neumeref08_Join.mono _ _)
   | (with_reducible exact token_Check.mono _ _)
   | (with_reducible exact token_Join.mono _ _)
   | (with_reducible exact LeO.refl _)
   | (with_reducible exact LeO.none _)
   | (with_reducible refine LeO.ite ?_ ?_)
   | (with_reducible refine LeO.bind ?_ (fun _ => ?_))
   | exact neumelaw08_few.mono _ _
   | exact neumelaw08_heads.mono _
   | exact neumeref08_Check.mono _ _
   | exact neumeref08_Join.mono _ _
   | exact token_Check.mono _ _
   | exact token_Join.mono _ _
   | exact LeO.none _
   | refine LeO.ite ?_ ?_
   | refine LeO.bind ?_ (fun _ => ?_)
set_option maxHeartbeats 8000000 in
set_option maxRecDepth 100000 in
theorem neumelaw08_TokenChecks.calls (k : Nat) (A0 : Option Addr) (c0 : Nat) (l0 : List (S34)) (r : Bool) (w : World) (hr0 : Kd.C k34 w A0 l0.length l0) (hc0 : l0.length ≤ c0) (hE : Aside0 (LaidE w)) (hxt : Aside0 (r = true)) (h : neumelaw08_TokenChecks.f k l0 = some r) :
  Calls Tryd.prog 4 #[.slice A0 l0.length c0] w fun e w' => e = .returned (.bool r) ∧ Below w.heap.size w w' := by
 have HR0 := sd_ hr0
 have HC0 := sd_ hc0
 clear hr0 hc0
 have HB := sd_ (Below.refl w.heap.size w)
 have H : ((neumelaw08_few.f k l0).bind fun t291 => (if t291 = true then ((token_Check.f k l0).bind fun t293 => ((neumeref08_Check.f k l0).bind fun t294 => (if (t293 == t294) = true then ((token_Join.f k l0).bind fun t295 => ((neumeref08_Join.f k l0).bind fun t296 => (if t295.toList = t296.toList then ((neumelaw08_heads.f k).bind fun t297 => (some t297)) else (some false)))) else (some false)))) else ((neumelaw08_heads.f k).bind fun t292 => (some t292)))) = some r := h
 clear h
 replace H := ob_ H
 obtain ⟨t291, A20, H⟩ := H
 replace H : (if t291 = true then ((token_Check.f k l0).bind fun t293 => ((neumeref08_Check.f k l0).bind fun t294 => (if (t293 == t294) = true then ((token_Join.f k l0).bind fun t295 => ((neumeref08_Join.f k l0).bind fun t296 => (if t295.toList = t296.toList then ((neumelaw08_heads.f k).bind fun t297 => (some t297)) else (some false)))) else (some false)))) else ((neumelaw08_heads.f k).bind fun t292 => (some t292))) = some r := H
 have A2 := sd_ A20
 clear A20
 by_cases c3 : t291 = true
 ·subst c3
  have H1 : ((token_Check.f k l0).bind fun t293 => ((neumeref08_Check.f k l0).bind fun t294 => (if (t293 == t294) = true then ((token_Join.f k l0).bind fun t295 => ((neumeref08_Join.f k l0).bind fun t296 => (if t295.toList = t296.toList then ((neumelaw08_heads.f k).bind fun t297 => (some t297)) else (some false)))) else (some false)))) = some r := by rw [if_pos rfl] at H; exact H
  clear H; have H := H1; clear H1
  replace H := ob_ H
  obtain ⟨t293, A40, H⟩ := H
  replace H : ((neumeref08_Check.f k l0).bind fun t294 => (if (t293 == t294) = true then ((token_Join.f k l0).bind fun t295 => ((neumeref08_Join.f k l0).bind fun t296 => (if t295.toList = t296.toList then ((neumelaw08_heads.f k).bind fun t297 => (some t297)) else (some false)))) else (some false))) = some r := H
  have A4 := sd_ A40
  clear A40
  replace H := ob_ H
  obtain ⟨t294, A50, H⟩ := H
  replace H : (if (t293 == t294) = true then ((token_Join.f k l0).bind fun t295 => ((neumeref08_Join.f k l0).bind fun t296 => (if t295.toList = t296.toList then ((neumelaw08_heads.f k).bind fun t297 => (some t297)) else (some false)))) else (some false)) = some r := H
  have A5 := sd_ A50
  clear A50
  by_cases c6 : (t293 == t294) = true
  ·rw [if_pos c6] at H
   have c6b0 : (t293 == t294) = true := c6
   (try (have c6b1 : decide (t293 = t294) = true := by simpa using c6))
   (try (have c6b2 : (t293 == t294) = true := by simpa using c6))
   clear c6
   replace H := ob_ H
   obtain ⟨t295, A70, H⟩ := H
   replace H : ((neumeref08_Join.f k l0).bind fun t296 => (if t295.toList = t296.toList then ((neumelaw08_heads.f k).bind fun t297 => (some t297)) else (some false))) = some r := H
   have A7 := sd_ A70
   clear A70
   replace H := ob_ H
   obtain ⟨t296, A80, H⟩ := H
   replace H : (if t295.toList = t296.toList then ((neumelaw08_heads.f k).bind fun t297 => (some t297)) else (some false)) = some r := H
   have A8 := sd_ A80
   clear A80
   by_cases c9 : t295.toList = t296.toList
   ·rw [if_pos c9] at H
    have c9b0 : (t295.toList == t296.toList) = true := beq_iff_eq.mpr c9
    have c9b1 : (t295.toList != t296.toList) = false := bne_eq_false_iff_eq.mpr c9
    clear c9
    replace H := ob_ H
    obtain ⟨t297, A100, H⟩ := H
    replace H : (some t297) = some r := H
    have A10 := sd_ A100
    clear A100
    obtain rfl := Option.some.inj H
    go_enter Tryd.func4, Tryd.ntmps4
    go_wp2_with (first | ((with_reducible refine gate_callee (f := 12) rfl ?_); refine goesL_ (some 4) rfl rfl Tryd.func12 (by kernel_rfl) rfl #[.slice A0 l0.length c0] rfl (by (try simp only [lm_, lq_, lx_]); first | done | rfl | (simp only [ld_, lt_]; rfl)) ?_; (with_reducible refine (neumelaw08_few.calls k _ _ l0 true _ ?side1 ?side2 A2.out).mono ?_); (case side1 => repeat (first | exact HR0.out | (with_reducible refine Kd.C_alloc ?_ _) | (with_reducible refine Kd.C_drewN ?_ _) | (with_reducible refine Kd.C_drew ?_))); (case side2 => exact HC0.out); rintro e w' ⟨rfl, ⟨nd, rfl⟩⟩; refine ⟨_, rfl, ?_⟩) | ((with_reducible refine gate_callee (f := 13) rfl ?_); refine goesL_ (some 8) rfl rfl Tryd.func13 (by kernel_rfl) rfl #[.slice A0 l0.length c0] rfl (by (try simp only [lm_, lq_, lx_]); first | done | rfl | (simp only [ld_, lt_]; rfl)) ?_; (with_reducible refine (token_Check.calls k _ _ l0 t293 _ ?side1 ?side2 ?side3 A4.out).mono ?_); (case side1 => repeat (first | exact HR0.out | (with_reducible refine Kd.C_alloc ?_ _) | (with_reducible refine Kd.C_drewN ?_ _) | (with_reducible refine Kd.C_drew ?_))); (case side2 => exact HC0.out); (case side3 => first | (with_reducible exact hE) | exact sd_ (LaidE.below hE.out (bb_ HB.out e0_))); rintro e w11 ⟨rfl, hb⟩; refine ⟨_, rfl, ?_⟩; replace HB := hb_ HB e0_ hb; (try clear hb); (try clear hb2); (try clear hk); (try clear hi)) | ((with_reducible refine gate_callee (f := 14) rfl ?_); refine goesL_ (some 10) rfl rfl Tryd.func14 (by kernel_rfl) rfl #[.slice A0 l0.length c0] rfl (by (try simp only [lm_, lq_, lx_]); first | done | rfl | (simp only [ld_, lt_]; rfl)) ?_; (with_reducible refine (neumeref08_Check.calls k _ _ l0 t294 _ ?side1 ?side2 A5.out).mono ?_); (case side1 => repeat (first | exact (Kd.C_below HR0.out HB.out) | (with_reducible refine Kd.C_alloc ?_ _) | (with_reducible refine Kd.C_drewN ?_ _) | (with_reducible refine Kd.C_drew ?_))); (case side2 => exact HC0.out); rintro e w12 ⟨rfl, hb⟩; refine ⟨_, rfl, ?_⟩; replace HB := hb_ HB e0_ hb; (try clear hb); (try clear hb2); (try clear hk); (try clear hi)) | (go_at_call 15; (with_reducible refine (token_Join.calls k _ _ l0 t295 _ ?side1 ?side2 ?side3 A7.out).mono ?_); (case side1 => repeat (first | exact (Kd.C_below HR0.out HB.out) | (with_reducible refine Kd.C_alloc ?_ _) | (with_reducible refine Kd.C_drewN ?_ _) | (with_reducible refine Kd.C_drew ?_))); (case side2 => exact HC0.out); (case side3 => first | (with_reducible exact hE) | exact sd_ (LaidE.below hE.out (bb_ HB.out e0_))); rintro e w13 ⟨rfl, hb⟩; replace HB := hb_ HB e0_ hb; (try clear hb); (try clear hb2); (try clear hk); (try clear hi)) | (go_at_call 16; (with_reducible refine (neumeref08_Join.calls k _ _ l0 t296 _ ?side1 ?side2 A8.out).mono ?_); (case side1 => repeat (first | exact (Kd.C_below HR0.out HB.out) | (with_reducible refine Kd.C_alloc ?_ _) | (with_reducible refine Kd.C_drewN ?_ _) | (with_reducible refine Kd.C_drew ?_))); (case side2 => exact HC0.out); rintro e w14 ⟨rfl, hb⟩; replace HB := hb_ HB e0_ hb; (try clear hb); (try clear hb2); (try clear hk); (try clear hi)) | (go_at_call 8; (with_reducible refine (neumelaw08_heads.calls k  t297 _ ?side1 A10.out).mono ?_); (case side1 => first | (with_reducible exact hE) | exact sd_ (LaidE.below hE.out (bb_ HB.out e0_))); rintro e w15 ⟨rfl, hb⟩; replace HB := hb_ HB e0_ hb; (try clear hb); (try clear hb2); (try clear hk); (try clear hi)))
    go_ret
    exact ⟨by first | rfl | (simp [errW_none, errW_some] <;> rfl) | (simp [*, errW_none, errW_some] <;> rfl), by repeat (first | (with_reducible first | exact HB.out | apply ba_ | apply pd_ | apply d1_) | exact HB.out)⟩
   ·rw [if_neg c9] at H
    have c9b0 : (t295.toList == t296.toList) = false := beq_eq_false_iff_ne.mpr c9
    have c9b1 : (t295.toList != t296.toList) = true := bne_iff_ne.mpr c9
    exact absurd ((Option.some.inj H).trans hxt.out) (by decide)
  ·rw [if_neg c6] at H
   have c6b0 : (t293 == t294) = false := by simpa using c6
   (try (have c6b1 : decide (t293 = t294) = false := by simpa using c6))
   (try (have c6b2 : (t293 == t294) = false := by simpa using c6))
   (try (have c6b3 : ¬ (t293 = t294) := by simpa using c6))
   clear c6
   exact absurd ((Option.some.inj H).trans hxt.out) (by decide)
 ·replace c3 := bf_ c3
  subst c3
  have H1 : ((neumelaw08_heads.f k).bind fun t292 => (some t292)) = some r := by rw [if_neg (show ¬ (false = true) by decide)] at H; exact H
  clear H; have H := H1; clear H1
  replace H := ob_ H
  obtain ⟨t292, A160, H⟩ := H
  replace H : (some t292) = some r := H
  have A16 := sd_ A160
  clear A160
  obtain rfl := Option.some.inj H
  go_enter Tryd.func4, Tryd.ntmps4
  go_wp2_with (first | ((with_reducible refine gate_callee (f := 12) rfl ?_); refine goesL_ (some 4) rfl rfl Tryd.func12 (by kernel_rfl) rfl #[.slice A0 l0.length c0] rfl (by (try simp only [lm_, lq_, lx_]); first | done | rfl | (simp only [ld_, lt_]; rfl)) ?_; (with_reducible refine (neumelaw08_few.calls k _ _ l0 false _ ?side1 ?side2 A2.out).mono ?_); (case side1 => repeat (first | exact HR0.out | (with_reducible refine Kd.C_alloc ?_ _) | (with_reducible refine Kd.C_drewN ?_ _) | (with_reducible refine Kd.C_drew ?_))); (case side2 => exact HC0.out); rintro e w' ⟨rfl, ⟨nd, rfl⟩⟩; refine ⟨_, rfl, ?_⟩) | ((with_reducible refine gate_callee (f := 8) rfl ?_); refine goesL_ (some 6) rfl rfl Tryd.func8 (by kernel_rfl) rfl #[] rfl (by (try simp only [lm_, lq_, lx_]); first | done | rfl | (simp only [ld_, lt_]; rfl)) ?_; (with_reducible refine (neumelaw08_heads.calls k  t292 _ ?side1 A16.out).mono ?_); (case side1 => first | (with_reducible exact hE) | exact sd_ (LaidE.below hE.out (bb_ HB.out e0_))); rintro e w17 ⟨rfl, hb⟩; refine ⟨_, rfl, ?_⟩; replace HB := hb_ HB e0_ hb; (try clear hb); (try clear hb2); (try clear hk); (try clear hi)))
  go_ret
  exact ⟨by first | rfl | (simp [errW_none, errW_some] <;> rfl) | (simp [*, errW_none, errW_some] <;> rfl), by repeat (first | (with_reducible first | exact HB.out | apply ba_ | apply pd_ | apply d1_) | exact HB.out)⟩

end Go.Proofs.YtmffjjncnbeldaaDoor.P
