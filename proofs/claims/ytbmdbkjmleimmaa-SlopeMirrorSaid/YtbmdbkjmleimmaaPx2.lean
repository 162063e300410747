-- Written by a program of this session (wip/tools/xprint.py, over the kit's print): Lean checks it.
import Derived.Test.YtbmdbkjmleimmaaPx0
import Derived.Test.YtbmdbkjmleimmaaPx1
namespace Go.Proofs.Ytbmdbkjmleimmaa.P
open Go.RowKit Go.Proofs.YtbmdbkjmleimmaaW.PrintWords Go.Proofs.YtbmdbkjmleimmaaW.PrintLast Go.Proofs.YtbmdbkjmleimmaaW.PrintMore
attribute [local go_sem] max2_int min2_int max_two min_two max_three min_three max_four min_four   -- for this text's walks alone
set_option linter.unusedVariables false
set_option linter.unusedSimpArgs false

/-! ### slope_mirrored: function 14 -/
def slope_mirrored.l0 : Nat → List Int → List Int → Int → Int → Option (List Int)
 | 0, _, _, _, _ => none
 | k + 1, x3, x9, x10, x11 => if x11 < x10 then (if 0 ≤ x11 then (if x11 < (x9.length : Int) then (if x11 < (x3.length : Int) then (slope_mirrored.l0 k (x3.set (x11 : Int).toNat (wrap64 (-(rd x9 x11)))) x9 x10 (wrap64 (x11 + 1))) else (none)) else (none)) else (none)) else (some x3)
def slope_mirrored.f (k : Nat) (l0 : List Int) : Option (List Int) := if 0 ≤ (l0.length : Int) then (if ((l0.length : Int) : Int).toNat ≤ 35184372088832 then (slope_mirrored.l0 k (List.replicate ((l0.length : Int) : Int).toNat 0) l0 (l0.length : Int) 0) else (none)) else (none)
theorem slope_mirrored.mono_l : ∀ k, (∀ y0 y1 y2 y3, LeO (slope_mirrored.l0 k y0 y1 y2 y3) (slope_mirrored.l0 (k + 1) y0 y1 y2 y3))
 | 0 => fun _ _ _ _ r h => by simp [slope_mirrored.l0] at h
 | k + 1 => by
  have ih0 := slope_mirrored.mono_l k
  ·intro y0 y1 y2 y3
   unfold slope_mirrored.l0
   repeat' first
   | (with_reducible exact ih0 _ _ _ _)
   | (with_reducible exact LeO.refl _)
   | (with_reducible exact LeO.none _)
   | (with_reducible refine LeO.ite ?_ ?_)
   | (with_reducible refine LeO.bind ?_ (fun _ => ?_))
   | exact ih0 _ _ _ _
   | exact LeO.none _
   | refine LeO.ite ?_ ?_
   | refine LeO.bind ?_ (fun _ => ?_)
theorem slope_mirrored.mono : ∀ a0 k, LeO (slope_mirrored.f k a0) (slope_mirrored.f (k + 1) a0) := by
 intro a0 k
 have ih0 := slope_mirrored.mono_l k
 unfold slope_mirrored.f
 repeat' first
   | (with_reducible exact ih0 _ _ _ _)
   | (with_reducible exact LeO.refl _)
   | (with_reducible exact LeO.none _)
   | (with_reducible refine LeO.ite ?_ ?_)
   | (with_reducible refine LeO.bind ?_ (fun _ => ?_))
   | exact ih0 _ _ _ _
   | exact LeO.none _
   | refine LeO.ite ?_ ?_
   | refine LeO.bind ?_ (fun _ => ?_)
set_option maxHeartbeats 8000000 in
set_option maxRecDepth 100000 in
theorem slope_mirrored.calls (k : Nat) (A0 : Option Addr) (c0 : Nat) (l0 : List Int) (r : List Int) (w : World) (hr0 : Kd.C (Kd.int .i64) w A0 l0.length l0) (hc0 : l0.length ≤ c0) (h : slope_mirrored.f k l0 = some r) :
  Calls Try.prog 14 #[.slice A0 l0.length c0] w fun e w' => ∃ v0_ : Value, e = .returned (v0_) ∧ Kd.R (Kd.int .i64) 3 w' w.heap.size (fun _ => True) v0_ r ∧ Below w.heap.size w w' := by
 have HR0 := sd_ hr0
 have HC0 := sd_ hc0
 clear hr0 hc0
 have HB := sd_ (Below.refl w.heap.size w)
 have H : (if 0 ≤ (l0.length : Int) then (if ((l0.length : Int) : Int).toNat ≤ 35184372088832 then (slope_mirrored.l0 k (List.replicate ((l0.length : Int) : Int).toNat 0) l0 (l0.length : Int) 0) else (none)) else (none)) = some r := h
 clear h
 by_cases c2 : 0 ≤ (l0.length : Int)
 ·rw [if_pos c2] at H
  have c2b0 := eq_true c2
  have c2b1 : decide (0 ≤ (l0.length : Int)) = true := dt_ c2
  clear c2
  by_cases c3 : ((l0.length : Int) : Int).toNat ≤ 35184372088832
  ·rw [if_pos c3] at H
   have c3b0 := eq_true c3
   have c3b1 : decide (((l0.length : Int) : Int).toNat ≤ 35184372088832) = true := dt_ c3
   clear c3
   obtain ⟨y106, hy106⟩ : ∃ y_ : List Int, y_ = (List.replicate ((l0.length : Int) : Int).toNat 0) := ⟨_, rfl⟩
   replace H : (slope_mirrored.l0 k y106 l0 (l0.length : Int) 0) = some r := by first | (rw [hy106]; with_reducible exact H) | (have H2_ := (Option.bind_some _ _).symm.trans H; rw [hy106]; with_reducible exact H2_) | (have H2_ := (Option.bind_some _ _).symm.trans H; with_reducible exact H2_) | with_reducible exact H | (rw [hy106]; exact H) | exact H
   have Ny106 := sd_ hy106
   clear hy106
   have H' := sd_ H
   clear H
   go_enter Try.func14, Try.ntmps14
   go_wp2_with (first | ((with_reducible refine gate_dst (N := 8) rfl ?_); refine Kd.R_make (Kd.int .i64) _ 3 rfl (N := 8) rfl 22 _ _ rfl (l0.length : Int) rfl rfl Try.underlying22 (.int .i64 0) 8 info3 rfl (by decide) (by omega) 0 (ok := fun _ => True) (okp := fun _ => True) rfl (fun _ hk => hk) trivial (od_ (by first | (with_reducible assumption) | assumption)) (Nat.le_trans (Nat.mul_le_mul_right _ (od_ (by first | (with_reducible assumption) | assumption) : (l0.length : Int).toNat ≤ 35184372088832)) (by omega)) (Below.refl _ _) (Nat.le_refl _) ?_; intro v107 w4 ho5 hb hg_ hnew_; clear hg_ hnew_; (first | rw [← Ny106.out] at ho5 | (simp only [Int.reduceToNat] at ho5; rw [← Ny106.out] at ho5)); have n0_ := sd_ (Kd.R_lower ho5 (bz_ (by repeat first | exact HB.out | apply ba_ | apply pd_ | apply d1_))); have n1_ := sd_ (bt_ (by repeat first | exact HB.out | apply ba_ | apply pd_ | apply d1_) hb); clear HB; have HO108 := n0_; have HB := n1_; clear n0_ n1_; clear hb ho5))
   go_loopg [11] k (fun kq v11 w' => ∃ (x3_1 : List Int) (x11_1 : Int), v11 = .int .i64 x11_1 ∧ Aside0 (slope_mirrored.l0 kq x3_1 l0 (l0.length : Int) x11_1 = some r) ∧ Aside0 (kq ≤ k) ∧ Aside0 (Kd.R (Kd.int .i64) 3 w' w.heap.size (fun _ => True) v107 x3_1) ∧ Aside0 (Below w.heap.size w w'))
   case atStart => exact ⟨(y106), (0), (by first | rfl | (simp; done) | (simp [*]; done)), H', ⟨Nat.le_refl _⟩, ⟨by (with_reducible repeat (first | apply Kd.R_alloc | apply Kd.R_drewN | apply Kd.R_drew)); exact HO108.out⟩, ⟨by repeat first | exact HB.out | apply ba_ | apply pd_ | apply d1_⟩⟩
   case round =>
    clear H'
    try clear c1; try clear c2; try clear c2b0; try clear c2b1; try clear p2; try clear c3; try clear c3b0; try clear c3b1
    obtain ⟨x3_1, x11_1, rfl, HA, HK1, HO_3, HB⟩ := hrel
    cases gk with
    | zero => exact absurd HA.out (by simp [slope_mirrored.l0])
    | succ k1 =>
     have H := HA.out
     clear HA
     simp only [slope_mirrored.l0] at H
     by_cases c6 : x11_1 < (l0.length : Int)
     ·rw [if_pos c6] at H
      have c6b0 : decide (x11_1 < (l0.length : Int)) = true := dt_ c6
      clear c6
      by_cases c7 : 0 ≤ x11_1
      ·rw [if_pos c7] at H
       have c7b0 : decide (0 ≤ x11_1) = true := dt_ c7
       clear c7
       by_cases c8 : x11_1 < (l0.length : Int)
       ·rw [if_pos c8] at H
        have c8b0 : decide (x11_1 < (l0.length : Int)) = true := dt_ c8
        clear c8
        by_cases c9 : x11_1 < (x3_1.length : Int)
        ·rw [if_pos c9] at H
         have c9b0 : decide (x11_1 < (x3_1.length : Int)) = true := dt_ c9
         clear c9
         obtain ⟨y110, hy110⟩ : ∃ y_ : List Int, y_ = (x3_1.set (x11_1 : Int).toNat (wrap64 (-(rd l0 x11_1)))) := ⟨_, rfl⟩
         replace H : (slope_mirrored.l0 k1 y110 l0 (l0.length : Int) (wrap64 (x11_1 + 1))) = some r := by first | (rw [hy110]; with_reducible exact H) | (have H2_ := (Option.bind_some _ _).symm.trans H; rw [hy110]; with_reducible exact H2_) | (have H2_ := (Option.bind_some _ _).symm.trans H; with_reducible exact H2_) | with_reducible exact H | (rw [hy110]; exact H) | exact H
         have Ny110 := sd_ hy110
         clear hy110
         have H' := sd_ H
         clear H
         have p109 : 0 ≤ (x11_1 : Int) := od_ (by first | (with_reducible assumption) | assumption)
         have q109 : x11_1 < (l0.length : Int) := od_ (by first | (with_reducible assumption) | assumption)
         obtain ⟨ad109, e109, hx109_0⟩ := Kd.at_int HR0.out x11_1 p109 q109
         cases e109
         replace hx109_0 := (HB.out.cell (wb_ w _ hx109_0)).trans hx109_0
         replace p109 := eq_true p109
         replace q109 := eq_true q109
         have p10 : 0 ≤ (x11_1 : Int) := od_ (by first | (with_reducible assumption) | assumption)
         have q10 : (x11_1 : Int) < ((x3_1.length : Int) : Int) := od_ (by first | (with_reducible assumption) | assumption)
         obtain ⟨go10, co10, eo10, gb10, gl10, cl10, HG10⟩ := Kd.R_form HO_3.out (by omega)
         (first | cases eo10 | (injection eo10 with ea_ en_ ec_; (first | subst ea_ | (injection ea_ with ea_; subst ea_)); subst ec_; clear en_))
         have GB10 := sd_ gb10
         have GG10 := sd_ HG10
         clear gb10 gl10 HG10
         obtain ⟨hx10_0, hf10_0⟩ := Kd.R_celln 0 HO_3.out (x11_1 : Int) p10 q10
         replace p10 := eq_true p10
         replace q10 := eq_true q10
         have HP11 := Kd.R_putg HO_3.out (x11_1 : Int) (wrap64 (-(rd l0 x11_1)))
         go_wp2_with (first | ((with_reducible refine gate_store (t := 3) (p := 20) rfl ?_); refine store_event (t := 3) (p := 20) (v := ?vo_w12) (w1 := (wr.setCell ⟨go10, (x11_1 : Int).toNat, none⟩ (.int .i64 (wrap64 (-(rd l0 x11_1)))))) ?hg ?ho ?hn ?hr ?_; (case ho => rfl); (case hg => rfl); (case hn => rfl); (case hr => first | (go_simp; done) | (go_simp; rfl)); intro w12 hw; have hg : wr.grownBy w12 (some go10) := (by rw [hw]; exact HP11.2); have hp_ : Kd.R (Kd.int .i64) 3 w12 w.heap.size (fun _ => True) (.slice (some ⟨go10, 0, none⟩) x3_1.length co10) y110 := (by rw [hw, Ny110.out]; exact HP11.1); clear HP11; have n0_ := sd_ (hp_); have n1_ := sd_ ((by rw [hw]; exact below_set (HB.out) GB10.out : Below w.heap.size w w12)); clear HO_3; clear HB; have HO_3 := n0_; have HB := n1_; clear n0_ n1_; clear hg hw hp_))
         go_roundg k1
         case measure => have := HK1.out; omega
         case rel => exact ⟨(y110), (wrap64 (x11_1 + 1)), (by first | rfl | (simp; done) | (simp [*]; done)), H', ⟨by have := HK1.out; omega⟩, ⟨by (with_reducible repeat (first | apply Kd.R_alloc | apply Kd.R_drewN | apply Kd.R_drew)); exact HO_3.out⟩, ⟨by repeat first | exact HB.out | apply ba_ | apply pd_ | apply d1_⟩⟩
        ·rw [if_neg c9] at H
         exact absurd H (by simp)
       ·rw [if_neg c8] at H
        exact absurd H (by simp)
      ·rw [if_neg c7] at H
       exact absurd H (by simp)
     ·rw [if_neg c6] at H
      have c6b0 : decide (x11_1 < (l0.length : Int)) = false := df_ c6
      clear c6
      obtain rfl := Option.some.inj H
      go_wp2
      go_ret
      exact ⟨_, by first | rfl | (simp [errW_none, errW_some] <;> rfl) | (simp [*, errW_none, errW_some] <;> rfl), by (with_reducible repeat (first | apply Kd.R_alloc | apply Kd.R_drewN | apply Kd.R_drew)); exact HO_3.out, by repeat first | exact HB.out | apply ba_ | apply pd_ | apply d1_⟩
  ·rw [if_neg c3] at H
   exact absurd H (by simp)
 ·rw [if_neg c2] at H
  exact absurd H (by simp)

/-! ### slope_Fit: function 7 -/
def slope_Fit.f (k : Nat) (l0 : List Int) (l1 : List Int) (a2 : Bool) : Option (List Int × Int) := (slope_fits.f k l0 l1).bind fun t111 => (if t111 = true then (if a2 = true then ((slope_upwards.f l0 l1).bind fun t112 => (some (t112, 0))) else ((slope_mirrored.f k l1).bind fun t115 => ((slope_upwards.f l0 t115).bind fun t118 => ((slope_mirrored.f k t118).bind fun t121 => (some (t121, 0)))))) else (some (([] : List Int), 2)))
theorem slope_Fit.mono : ∀ a0 a1 a2 k, LeO (slope_Fit.f k a0 a1 a2) (slope_Fit.f (k + 1) a0 a1 a2) := by
 intro a0 a1 a2 k
 unfold slope_Fit.f
 repeat' first
   | (with_reducible exact slope_fits.mono _ _ _)
   | (with_reducible exact slope_mirrored.mono _ _)
   | (with_reducible exact LeO.refl _)
   | (with_reducible exact LeO.none _)
   | (with_reducible refine LeO.ite ?_ ?_)
   | (with_reducible refine LeO.bind ?_ (fun _ => ?_))
   | exact slope_fits.mono _ _ _
   | exact slope_mirrored.mono _ _
   | exact LeO.none _
   | refine LeO.ite ?_ ?_
   | refine LeO.bind ?_ (fun _ => ?_)
set_option maxHeartbeats 8000000 in
set_option maxRecDepth 100000 in
theorem slope_Fit.calls (k : Nat) (A0 : Option Addr) (c0 : Nat) (l0 : List Int) (A1 : Option Addr) (c1 : Nat) (l1 : List Int) (a2 : Bool) (r1 : List Int) (r2 : Int) (w : World) (hr0 : Kd.C (Kd.int .i64) w A0 l0.length l0) (hc0 : l0.length ≤ c0) (hr1 : Kd.C (Kd.int .i64) w A1 l1.length l1) (hc1 : l1.length ≤ c1) (h : slope_Fit.f k l0 l1 a2 = some (r1, r2)) :
  Calls Try.prog 7 #[.slice A0 l0.length c0, .slice A1 l1.length c1, .bool a2] w fun e w' => ∃ v0_ : Value, e = .returned (.tuple #[v0_, .int .i64 r2]) ∧ Kd.R (Kd.int .i64) 3 w' w.heap.size (fun _ => True) v0_ r1 ∧ Below w.heap.size w w' := by
 have HR0 := sd_ hr0
 have HC0 := sd_ hc0
 clear hr0 hc0
 have HR1 := sd_ hr1
 have HC1 := sd_ hc1
 clear hr1 hc1
 have HB := sd_ (Below.refl w.heap.size w)
 have H : ((slope_fits.f k l0 l1).bind fun t111 => (if t111 = true then (if a2 = true then ((slope_upwards.f l0 l1).bind fun t112 => (some (t112, 0))) else ((slope_mirrored.f k l1).bind fun t115 => ((slope_upwards.f l0 t115).bind fun t118 => ((slope_mirrored.f k t118).bind fun t121 => (some (t121, 0)))))) else (some (([] : List Int), 2)))) = some (r1, r2) := h
 clear h
 replace H := ob_ H
 obtain ⟨t111, A40, H⟩ := H
 replace H : (if t111 = true then (if a2 = true then ((slope_upwards.f l0 l1).bind fun t112 => (some (t112, 0))) else ((slope_mirrored.f k l1).bind fun t115 => ((slope_upwards.f l0 t115).bind fun t118 => ((slope_mirrored.f k t118).bind fun t121 => (some (t121, 0)))))) else (some (([] : List Int), 2))) = some (r1, r2) := H
 have A4 := sd_ A40
 clear A40
 by_cases c5 : t111 = true
 ·subst c5
  have H1 : (if a2 = true then ((slope_upwards.f l0 l1).bind fun t112 => (some (t112, 0))) else ((slope_mirrored.f k l1).bind fun t115 => ((slope_upwards.f l0 t115).bind fun t118 => ((slope_mirrored.f k t118).bind fun t121 => (some (t121, 0)))))) = some (r1, r2) := by rw [if_pos rfl] at H; exact H
  clear H; have H := H1; clear H1
  by_cases c6 : a2 = true
  ·subst c6
   have H1 : ((slope_upwards.f l0 l1).bind fun t112 => (some (t112, 0))) = some (r1, r2) := by rw [if_pos rfl] at H; exact H
   clear H; have H := H1; clear H1
   replace H := ob_ H
   obtain ⟨t112, A70, H⟩ := H
   replace H : (some (t112, 0)) = some (r1, r2) := H
   have A7 := sd_ A70
   clear A70
   simp only [Option.some.injEq, Prod.mk.injEq] at H
   obtain ⟨rfl, rfl⟩ := H
   go_enter Try.func7, Try.ntmps7
   go_wp2_with (first | ((with_reducible refine gate_callee (f := 12) rfl ?_); refine goesL_ (some 11) rfl rfl Try.func12 (by kernel_rfl) rfl #[.slice A0 l0.length c0, .slice A1 l1.length c1] rfl (by (try simp only [lm_, lq_, lx_]); first | done | rfl | (simp only [ld_, lt_]; rfl)) ?_; (with_reducible refine (slope_fits.calls k _ _ l0 _ _ l1 true _ ?side1 ?side2 ?side3 ?side4 A4.out).mono ?_); (case side1 => repeat (first | exact HR0.out | (with_reducible refine Kd.C_alloc ?_ _) | (with_reducible refine Kd.C_drewN ?_ _) | (with_reducible refine Kd.C_drew ?_))); (case side2 => exact HC0.out); (case side3 => repeat (first | exact HR1.out | (with_reducible refine Kd.C_alloc ?_ _) | (with_reducible refine Kd.C_drewN ?_ _) | (with_reducible refine Kd.C_drew ?_))); (case side4 => exact HC1.out); rintro e w' ⟨rfl, ⟨nd, rfl⟩⟩; refine ⟨_, rfl, ?_⟩) | ((with_reducible refine gate_callee (f := 13) rfl ?_); refine goesL_ (some 17) rfl rfl Try.func13 (by kernel_rfl) rfl #[.slice A0 l0.length c0, .slice A1 l1.length c1] rfl (by (try simp only [lm_, lq_, lx_]); first | done | rfl | (simp only [ld_, lt_]; rfl)) ?_; (with_reducible refine (slope_upwards.calls _ _ l0 _ _ l1 t112 _ ?side1 ?side2 ?side3 ?side4 A7.out).mono ?_); (case side1 => repeat (first | exact HR0.out | (with_reducible refine Kd.C_alloc ?_ _) | (with_reducible refine Kd.C_drewN ?_ _) | (with_reducible refine Kd.C_drew ?_))); (case side2 => exact HC0.out); (case side3 => repeat (first | exact HR1.out | (with_reducible refine Kd.C_alloc ?_ _) | (with_reducible refine Kd.C_drewN ?_ _) | (with_reducible refine Kd.C_drew ?_))); (case side4 => exact HC1.out); rintro e w8 ⟨v113, rfl, ho0, hb⟩; refine ⟨_, rfl, ?_⟩; have n0_ := sd_ (Kd.R_lower ho0 (bz_ (by repeat first | exact HB.out | apply ba_ | apply pd_ | apply d1_))); have n1_ := sd_ (bt_ (by repeat first | exact HB.out | apply ba_ | apply pd_ | apply d1_) hb); clear HB; have HO114 := n0_; have HB := n1_; clear n0_ n1_; (try clear hb); (try clear hb2); (try clear hk); (try clear hi); (try clear ho0)))
   go_ret2
   exact ⟨_, by first | rfl | (simp [errW_none, errW_some] <;> rfl) | (simp [*, errW_none, errW_some] <;> rfl), by (with_reducible repeat (first | apply Kd.R_alloc | apply Kd.R_drewN | apply Kd.R_drew)); exact HO114.out, by repeat first | exact HB.out | apply ba_ | apply pd_ | apply d1_⟩
  ·replace c6 := bf_ c6
   subst c6
   have H1 : ((slope_mirrored.f k l1).bind fun t115 => ((slope_upwards.f l0 t115).bind fun t118 => ((slope_mirrored.f k t118).bind fun t121 => (some (t121, 0))))) = some (r1, r2) := by rw [if_neg (show ¬ (false = true) by decide)] at H; exact H
   clear H; have H := H1; clear H1
   replace H := ob_ H
   obtain ⟨t115, A90, H⟩ := H
   replace H : ((slope_upwards.f l0 t115).bind fun t118 => ((slope_mirrored.f k t118).bind fun t121 => (some (t121, 0)))) = some (r1, r2) := H
   have A9 := sd_ A90
   clear A90
   replace H := ob_ H
   obtain ⟨t118, A100, H⟩ := H
   replace H : ((slope_mirrored.f k t118).bind fun t121 => (some (t121, 0))) = some (r1, r2) := H
   have A10 := sd_ A100
   clear A100
   replace H := ob_ H
   obtain ⟨t121, A110, H⟩ := H
   replace H : (some (t121, 0)) = some (r1, r2) := H
   have A11 := sd_ A110
   clear A110
   simp only [Option.some.injEq, Prod.mk.injEq] at H
   obtain ⟨rfl, rfl⟩ := H
   go_enter Try.func7, Try.ntmps7
   go_wp2_with (first | ((with_reducible refine gate_callee (f := 12) rfl ?_); refine goesL_ (some 11) rfl rfl Try.func12 (by kernel_rfl) rfl #[.slice A0 l0.length c0, .slice A1 l1.length c1] rfl (by (try simp only [lm_, lq_, lx_]); first | done | rfl | (simp only [ld_, lt_]; rfl)) ?_; (with_reducible refine (slope_fits.calls k _ _ l0 _ _ l1 true _ ?side1 ?side2 ?side3 ?side4 A4.out).mono ?_); (case side1 => repeat (first | exact HR0.out | (with_reducible refine Kd.C_alloc ?_ _) | (with_reducible refine Kd.C_drewN ?_ _) | (with_reducible refine Kd.C_drew ?_))); (case side2 => exact HC0.out); (case side3 => repeat (first | exact HR1.out | (with_reducible refine Kd.C_alloc ?_ _) | (with_reducible refine Kd.C_drewN ?_ _) | (with_reducible refine Kd.C_drew ?_))); (case side4 => exact HC1.out); rintro e w' ⟨rfl, ⟨nd, rfl⟩⟩; refine ⟨_, rfl, ?_⟩) | ((with_reducible refine gate_callee (f := 14) rfl ?_); refine goesL_ (some 20) rfl rfl Try.func14 (by kernel_rfl) rfl #[.slice A1 l1.length c1] rfl (by (try simp only [lm_, lq_, lx_]); first | done | rfl | (simp only [ld_, lt_]; rfl)) ?_; (with_reducible refine (slope_mirrored.calls k _ _ l1 t115 _ ?side1 ?side2 A9.out).mono ?_); (case side1 => repeat (first | exact HR1.out | (with_reducible refine Kd.C_alloc ?_ _) | (with_reducible refine Kd.C_drewN ?_ _) | (with_reducible refine Kd.C_drew ?_))); (case side2 => exact HC1.out); rintro e w12 ⟨v116, rfl, ho0, hb⟩; refine ⟨_, rfl, ?_⟩; have n0_ := sd_ (Kd.R_lower ho0 (bz_ (by repeat first | exact HB.out | apply ba_ | apply pd_ | apply d1_))); have n1_ := sd_ (bt_ (by repeat first | exact HB.out | apply ba_ | apply pd_ | apply d1_) hb); clear HB; have HO117 := n0_; have HB := n1_; clear n0_ n1_; (try clear hb); (try clear hb2); (try clear hk); (try clear hi); (try clear ho0); obtain ⟨Ao13, co13, eo13⟩ := Kd.R_slice HO117.out; subst eo13) | ((with_reducible refine gate_callee (f := 13) rfl ?_); refine goesL_ (some 21) rfl rfl Try.func13 (by kernel_rfl) rfl #[.slice A0 l0.length c0, .slice Ao13 t115.length co13] rfl (by (try simp only [lm_, lq_, lx_]); first | done | rfl | (simp only [ld_, lt_]; rfl)) ?_; (with_reducible refine (slope_upwards.calls _ _ l0 _ _ t115 t118 _ ?side1 ?side2 ?side3 ?side4 A10.out).mono ?_); (case side1 => repeat (first | exact (Kd.C_below HR0.out HB.out) | (with_reducible refine Kd.C_alloc ?_ _) | (with_reducible refine Kd.C_drewN ?_ _) | (with_reducible refine Kd.C_drew ?_))); (case side2 => exact HC0.out); (case side3 => repeat (first | exact (Kd.R_reads' HO117.out).2.2 | (with_reducible refine Kd.C_alloc ?_ _) | (with_reducible refine Kd.C_drewN ?_ _) | (with_reducible refine Kd.C_drew ?_))); (case side4 => exact (Kd.R_reads' HO117.out).2.1); rintro e w14 ⟨v119, rfl, ho0, hb⟩; refine ⟨_, rfl, ?_⟩; have n0_ := sd_ (Kd.R_elder' (by (with_reducible repeat (first | apply Kd.R_alloc | apply Kd.R_drewN | apply Kd.R_drew)); exact HO117.out) (Kd.R_base ho0) hb); have n1_ := sd_ (Kd.R_lower (Kd.R_new' ho0 (Kd.R_lt (by (with_reducible repeat (first | apply Kd.R_alloc | apply Kd.R_drewN | apply Kd.R_drew)); exact HO117.out))) (bz_ (by repeat first | exact HB.out | apply ba_ | apply pd_ | apply d1_))); have n2_ := sd_ (bt_ (by repeat first | exact HB.out | apply ba_ | apply pd_ | apply d1_) hb); clear HO117; clear HB; have HO117 := n0_; have HO120 := n1_; have HB := n2_; clear n0_ n1_ n2_; (try clear hb); (try clear hb2); (try clear hk); (try clear hi); (try clear ho0); obtain ⟨Ao15, co15, eo15⟩ := Kd.R_slice HO120.out; subst eo15) | ((with_reducible refine gate_callee (f := 14) rfl ?_); refine goesL_ (some 22) rfl rfl Try.func14 (by kernel_rfl) rfl #[.slice Ao15 t118.length co15] rfl (by (try simp only [lm_, lq_, lx_]); first | done | rfl | (simp only [ld_, lt_]; rfl)) ?_; (with_reducible refine (slope_mirrored.calls k _ _ t118 t121 _ ?side1 ?side2 A11.out).mono ?_); (case side1 => repeat (first | exact (Kd.R_reads' HO120.out).2.2 | (with_reducible refine Kd.C_alloc ?_ _) | (with_reducible refine Kd.C_drewN ?_ _) | (with_reducible refine Kd.C_drew ?_))); (case side2 => exact (Kd.R_reads' HO120.out).2.1); rintro e w16 ⟨v122, rfl, ho0, hb⟩; refine ⟨_, rfl, ?_⟩; have n0_ := sd_ (Kd.R_elder' (by (with_reducible repeat (first | apply Kd.R_alloc | apply Kd.R_drewN | apply Kd.R_drew)); exact HO117.out) (Kd.R_base ho0) hb); have n1_ := sd_ (Kd.R_elder' (by (with_reducible repeat (first | apply Kd.R_alloc | apply Kd.R_drewN | apply Kd.R_drew)); exact HO120.out) (Kd.R_base ho0) hb); have n2_ := sd_ (Kd.R_lower (Kd.R_new' (Kd.R_new' ho0 (Kd.R_lt (by (with_reducible repeat (first | apply Kd.R_alloc | apply Kd.R_drewN | apply Kd.R_drew)); exact HO117.out))) (Kd.R_lt (by (with_reducible repeat (first | apply Kd.R_alloc | apply Kd.R_drewN | apply Kd.R_drew)); exact HO120.out))) (bz_ (by repeat first | exact HB.out | apply ba_ | apply pd_ | apply d1_))); have n3_ := sd_ (bt_ (by repeat first | exact HB.out | apply ba_ | apply pd_ | apply d1_) hb); clear HO117; clear HO120; clear HB; have HO117 := n0_; have HO120 := n1_; have HO123 := n2_; have HB := n3_; clear n0_ n1_ n2_ n3_; (try clear hb); (try clear hb2); (try clear hk); (try clear hi); (try clear ho0)))
   go_ret2
   exact ⟨_, by first | rfl | (simp [errW_none, errW_some] <;> rfl) | (simp [*, errW_none, errW_some] <;> rfl), by (with_reducible repeat (first | apply Kd.R_alloc | apply Kd.R_drewN | apply Kd.R_drew)); exact Kd.R_mono HO123.out (fun _ hk => trivial), by repeat first | exact HB.out | apply ba_ | apply pd_ | apply d1_⟩
 ·replace c5 := bf_ c5
  subst c5
  have H1 : (some (([] : List Int), 2)) = some (r1, r2) := by rw [if_neg (show ¬ (false = true) by decide)] at H; exact H
  clear H; have H := H1; clear H1
  simp only [Option.some.injEq, Prod.mk.injEq] at H
  obtain ⟨rfl, rfl⟩ := H
  go_enter Try.func7, Try.ntmps7
  go_wp2_with (first | ((with_reducible refine gate_callee (f := 12) rfl ?_); refine goesL_ (some 11) rfl rfl Try.func12 (by kernel_rfl) rfl #[.slice A0 l0.length c0, .slice A1 l1.length c1] rfl (by (try simp only [lm_, lq_, lx_]); first | done | rfl | (simp only [ld_, lt_]; rfl)) ?_; (with_reducible refine (slope_fits.calls k _ _ l0 _ _ l1 false _ ?side1 ?side2 ?side3 ?side4 A4.out).mono ?_); (case side1 => repeat (first | exact HR0.out | (with_reducible refine Kd.C_alloc ?_ _) | (with_reducible refine Kd.C_drewN ?_ _) | (with_reducible refine Kd.C_drew ?_))); (case side2 => exact HC0.out); (case side3 => repeat (first | exact HR1.out | (with_reducible refine Kd.C_alloc ?_ _) | (with_reducible refine Kd.C_drewN ?_ _) | (with_reducible refine Kd.C_drew ?_))); (case side4 => exact HC1.out); rintro e w' ⟨rfl, ⟨nd, rfl⟩⟩; refine ⟨_, rfl, ?_⟩))
  go_ret2
  exact ⟨_, by first | rfl | (simp [errW_none, errW_some] <;> rfl) | (simp [*, errW_none, errW_some] <;> rfl), by first | exact Kd.R_nil _ _ _ _ _ | exact Kd.N_nil _ _ _ _ _ | exact Kd.V_nil _ _ _ _ _ | exact Kd.Q_nil _ _ _ _ _ | exact Kd.S_nil _ _ _ _ _, by repeat first | exact HB.out | apply ba_ | apply pd_ | apply d1_⟩

-- NOT PRINTED: function 23 (slices_IndexFunc_int_int)

-- NOT PRINTED: function 15 (slices_ContainsFunc_int_int)

/-! ### slope_Slant: function 8 -/
theorem fix_Ok.calls (x : Int) (w : World) : Calls Try.prog 17 #[.int .i64 x] w fun e w' => e = .returned (.bool (decide (-1099511627776 ≤ x ∧ x ≤ 1099511627776))) ∧ w' = w := by
 by_cases c : -1099511627776 ≤ x
 ·go_enter Try.func17, Try.ntmps17
  go_wp2
  go_ret
  exact ⟨yret_bool (by simp [c]), rfl⟩
 ·go_enter Try.func17, Try.ntmps17
  go_wp2
  go_ret
  exact ⟨yret_bool (by have q : decide (-1099511627776 ≤ x) = false := df_ (by omega); rw [q]; rfl), rfl⟩
/-- Is a tip no length? -/
def slope_Slant.bad (x : Int) : Bool := !(decide (-1099511627776 ≤ x ∧ x ≤ 1099511627776))
theorem slope_Slant1.calls (x : Int) (w : World) : Calls Try.prog 16 #[.int .i64 x] w fun e w' => e = .returned (.bool (slope_Slant.bad x)) ∧ w' = w := by
 obtain ⟨b, hb⟩ : ∃ b, decide (-1099511627776 ≤ x ∧ x ≤ 1099511627776) = b := ⟨_, rfl⟩
 have hO := sd_ (fix_Ok.calls x)
 unfold slope_Slant.bad
 rw [hb] at hO ⊢
 clear hb
 go_enter Try.func16, Try.ntmps16
 go_wp2_with (go_at_call 17; refine (hO.out _).mono ?_; rintro e w' ⟨rfl, rfl⟩)
 go_ret
 exact ⟨rfl, rfl⟩
/-- Where the first one is that is out of bounds, from i on. -/
def slope_Slant.idx (l : List Int) (i : Nat) : Int := match l with
 | [] => -1
 | x :: r => if slope_Slant.bad x = true then i else slope_Slant.idx r (i + 1)
theorem slope_Slant.idx_any : ∀ (l : List Int) (i : Nat), (0 ≤ slope_Slant.idx l i) ↔ l.any slope_Slant.bad = true
 | [], i => by simp [slope_Slant.idx]
 | x :: r, i => by
  simp only [List.any_cons, Bool.or_eq_true]
  by_cases c : slope_Slant.bad x = true
  ·have e : slope_Slant.idx (x :: r) i = i := if_pos c
   rw [e]
   exact ⟨fun _ => .inl c, fun _ => by omega⟩
  ·have e : slope_Slant.idx (x :: r) i = slope_Slant.idx r (i + 1) := if_neg c
   rw [e, slope_Slant.idx_any r (i + 1)]
   exact ⟨.inr, fun h => h.resolve_left c⟩
theorem slope_Index.calls (A0 : Option Addr) (c0 : Nat) (l0 : List Int) (w : World) (hr0 : Kd.C (Kd.int .i64) w A0 l0.length l0) :
  Calls Try.prog 23 #[.slice A0 l0.length c0, .func (.func 16) #[] #[]] w fun e w' => e = .returned (.int .i64 (slope_Slant.idx l0 0)) ∧ w' = w := by
 have hlen : l0.length ≤ 9223372036854775807 := hr0.2.1
 have HR0 := sd_ hr0
 clear hr0
 go_enter Try.func23, Try.ntmps23
 go_wp2
 go_loop [8] (fun v8 => ∃ j : Nat, j ≤ l0.length ∧ v8 = .int .i64 j ∧ Aside0 (slope_Slant.idx (l0.drop j) j = slope_Slant.idx l0 0)) (fun v8 => l0.length - (intOf v8).toNat)
 case atStart => exact ⟨0, Nat.zero_le _, rfl, ⟨rfl⟩⟩
 case round =>
  obtain ⟨j, hj, rfl, hA⟩ := hrel
  by_cases hlt : j < l0.length
  ·obtain ⟨ad, e, hcell⟩ := Kd.at_int HR0.out (j : Int) (by omega) (by omega)
   cases e
   obtain ⟨x, hx⟩ : ∃ x, rd l0 (j : Int) = x := ⟨_, rfl⟩
   rw [hx] at hcell
   simp only [Int.toNat_natCast] at hcell
   have hd : slope_Slant.idx (l0.drop j) j = if slope_Slant.bad x = true then (j : Int) else slope_Slant.idx (l0.drop (j + 1)) (j + 1) := by
    rw [← hx]
    unfold rd
    rw [List.drop_eq_getElem_cons hlt, Int.toNat_natCast, List.getD_eq_getElem?_getD, List.getElem?_eq_getElem hlt]
    rfl
   clear hx
   have HD := sd_ hd
   clear hd
   by_cases cb : slope_Slant.bad x = true
   ·go_wp2_with (go_at_call 16; refine (slope_Slant1.calls x _).mono ?_; rintro e w' ⟨rfl, rfl⟩)
    go_ret
    refine ⟨yret_int ?_, rfl⟩
    rw [← hA.out, HD.out, if_pos cb]
   ·go_wp2_with (go_at_call 16; refine (slope_Slant1.calls x _).mono ?_; rintro e w' ⟨rfl, rfl⟩)
    go_round
    case rel => exact ⟨j + 1, by omega, by go_num, ⟨by rw [← hA.out, HD.out, if_neg cb]⟩⟩
    case measure => simp [intOf]; omega
  ·obtain rfl : j = l0.length := by omega
   go_wp2
   go_ret
   refine ⟨yret_int ?_, rfl⟩
   rw [← hA.out, List.drop_length]
   rfl
theorem slope_Contains.calls (A0 : Option Addr) (c0 : Nat) (l0 : List Int) (w : World) (hr0 : Kd.C (Kd.int .i64) w A0 l0.length l0) :
  Calls Try.prog 15 #[.slice A0 l0.length c0, .func (.func 16) #[] #[]] w fun e w' => e = .returned (.bool (l0.any slope_Slant.bad)) ∧ w' = w := by
 have HR0 := sd_ hr0
 clear hr0
 go_enter Try.func15, Try.ntmps15
 go_wp2_with (go_at_call 23; refine (slope_Index.calls A0 c0 l0 _ HR0.out).mono ?_; rintro e w' ⟨rfl, rfl⟩)
 go_ret
 refine ⟨yret_bool ?_, rfl⟩
 have h := slope_Slant.idx_any l0 0
 by_cases c : l0.any slope_Slant.bad = true
 ·rw [c, dt_ (h.2 c)]
 ·rw [bf_ c, df_ (fun q => c (h.1 q))]
def slope_Slant.f (l0 : List Int) (a1 : Bool) : Option Int :=
 if (l0.length : Int) < 2 then some 0 else if (l0.length : Int) > 4096 then some 0 else if l0.any slope_Slant.bad = true then some 0 else slope_slant.f l0 a1
set_option maxHeartbeats 800000 in
set_option maxRecDepth 100000 in
theorem slope_Slant.calls (A0 : Option Addr) (c0 : Nat) (l0 : List Int) (a1 : Bool) (r : Int) (w : World) (hr0 : Kd.C (Kd.int .i64) w A0 l0.length l0) (hc0 : l0.length ≤ c0) (h : slope_Slant.f l0 a1 = some r) :
  Calls Try.prog 8 #[.slice A0 l0.length c0, .bool a1] w fun e w' => e = .returned (.int .i64 r) ∧ Below w.heap.size w w' := by
 have HR0 := sd_ hr0
 have HC0 := sd_ hc0
 have H := sd_ h
 clear hr0 hc0 h
 unfold slope_Slant.f at H
 by_cases c : (l0.length : Int) < 2
 ·obtain rfl : 0 = r := by have q := H.out; rw [if_pos c] at q; exact Option.some.inj q
  have cb : decide ((l0.length : Int) < 2) = true := dt_ c
  go_enter Try.func8, Try.ntmps8
  go_wp2
  go_ret
  exact ⟨rfl, Below.refl _ _⟩
 ·have cb : decide ((l0.length : Int) < 2) = false := df_ c
  by_cases c2 : (l0.length : Int) > 4096
  ·obtain rfl : 0 = r := by have q := H.out; rw [if_neg c, if_pos c2] at q; exact Option.some.inj q
   have cb2 : decide ((4096 : Int) < (l0.length : Int)) = true := dt_ c2
   clear c c2
   go_enter Try.func8, Try.ntmps8
   go_wp2
   go_ret
   exact ⟨rfl, Below.refl _ _⟩
  ·have cb2 : decide ((4096 : Int) < (l0.length : Int)) = false := df_ c2
   have H1 : Aside0 ((if l0.any slope_Slant.bad = true then some 0 else slope_slant.f l0 a1) = some r) := ⟨by have q := H.out; rwa [if_neg c, if_neg c2] at q⟩
   clear H c c2
   by_cases c3 : l0.any slope_Slant.bad = true
   ·obtain rfl : 0 = r := by have q := H1.out; rw [if_pos c3] at q; exact Option.some.inj q
    go_enter Try.func8, Try.ntmps8
    go_wp2_with (go_at_call 15; refine (slope_Contains.calls A0 c0 l0 _ HR0.out).mono ?_; rintro e w' ⟨rfl, rfl⟩)
    go_ret
    exact ⟨rfl, Below.refl _ _⟩
   ·have H2 : Aside0 (slope_slant.f l0 a1 = some r) := ⟨by have q := H1.out; rwa [if_neg c3] at q⟩
    clear H1
    go_enter Try.func8, Try.ntmps8
    go_wp2_with (first | (go_at_call 15; refine (slope_Contains.calls A0 c0 l0 _ HR0.out).mono ?_; rintro e w' ⟨rfl, rfl⟩) | (go_at_call 18; refine (slope_slant.calls A0 c0 l0 a1 r _ HR0.out HC0.out H2.out).mono ?_; rintro e w' ⟨rfl, hb⟩))
    go_ret
    exact ⟨rfl, by assumption⟩

/-! ### slope_Thick: function 9 -/
def slope_Thick.j0 : Nat → Int → Bool → Bool → Option (Int × Int)
 | 0, _, _, _ => none
 | k + 1, x0, x1, x12 => if x12 = true then (some (0, 0)) else (if x1 = true then (some (wrap64 ((wrap64 (-(wrap64 (768 * (wrap64 (x0 - 1)))))) - 512), wrap64 (-(wrap64 (768 * (wrap64 (x0 - 1))))))) else (some (wrap64 (768 * (wrap64 (x0 - 1))), wrap64 ((wrap64 (768 * (wrap64 (x0 - 1)))) + 512))))
def slope_Thick.f (k : Nat) (a0 : Int) (a1 : Bool) : Option (Int × Int) := if a0 < 1 then (slope_Thick.j0 k a0 a1 true) else (slope_Thick.j0 k a0 a1 (decide (a0 > 4)))
theorem slope_Thick.mono_l : ∀ k, (∀ y0 y1 y2, LeO (slope_Thick.j0 k y0 y1 y2) (slope_Thick.j0 (k + 1) y0 y1 y2))
 | 0 => fun _ _ _ r h => by simp [slope_Thick.j0] at h
 | k + 1 => by
  have ih0 := slope_Thick.mono_l k
  ·intro y0 y1 y2
   unfold slope_Thick.j0
   repeat' first
   | (with_reducible exact ih0 _ _ _)
   | (with_reducible exact LeO.refl _)
   | (with_reducible exact LeO.none _)
   | (with_reducible refine LeO.ite ?_ ?_)
   | (with_reducible refine LeO.bind ?_ (fun _ => ?_))
   | exact ih0 _ _ _
   | exact LeO.none _
   | refine LeO.ite ?_ ?_
   | refine LeO.bind ?_ (fun _ => ?_)
theorem slope_Thick.mono : ∀ a0 a1 k, LeO (slope_Thick.f k a0 a1) (slope_Thick.f (k + 1) a0 a1) := by
 intro a0 a1 k
 have ih0 := slope_Thick.mono_l k
 unfold slope_Thick.f
 repeat' first
   | (with_reducible exact ih0 _ _ _)
   | (with_reducible exact LeO.refl _)
   | (with_reducible exact LeO.none _)
   | (with_reducible refine LeO.ite ?_ ?_)
   | (with_reducible refine LeO.bind ?_ (fun _ => ?_))
   | exact ih0 _ _ _
   | exact LeO.none _
   | refine LeO.ite ?_ ?_
   | refine LeO.bind ?_ (fun _ => ?_)
set_option maxHeartbeats 8000000 in
set_option maxRecDepth 100000 in
theorem slope_Thick.calls (k : Nat) (a0 : Int) (a1 : Bool) (r1 : Int) (r2 : Int) (w : World) (h : slope_Thick.f k a0 a1 = some (r1, r2)) :
  Calls Try.prog 9 #[.int .i64 a0, .bool a1] w fun e w' => e = .returned (.tuple #[.int .i64 r1, .int .i64 r2]) ∧ Drawn0 w w' := by
 have H : (if a0 < 1 then (slope_Thick.j0 k a0 a1 true) else (slope_Thick.j0 k a0 a1 (decide (a0 > 4)))) = some (r1, r2) := h
 clear h
 have HC3 := sd_ H
 clear H
 go_enter Try.func9, Try.ntmps9
 go_upto_region 1 with (fail)
 go_cut [12] (fun v12 wc => ∃ (kq : Nat) (x12_2 : Bool), v12 = .bool x12_2 ∧ Aside0 (slope_Thick.j0 kq a0 a1 x12_2 = some (r1, r2)) ∧ Aside0 (kq ≤ k) ∧ Drawn0 w wc)
 case first =>
  have H := HC3.out
  clear HC3
  by_cases c4 : a0 < 1
  ·rw [if_pos c4] at H
   have c4b0 : decide (a0 < 1) = true := dt_ c4
   clear c4
   (first | rw [c4b0] | (simp only [i64_w, i32_w]; rw [c4b0]) | skip)
   have H' := sd_ H
   clear H
   go_wp2
   go_meet
   case rel => exact ⟨_, (true), (by first | rfl | (simp; done) | (simp [*]; done)), H', ⟨by first | omega | exact Nat.le_refl _⟩, by repeat (first | exact Drawn0.refl _ | apply Drawn0.step)⟩
  ·rw [if_neg c4] at H
   have c4b0 : decide (a0 < 1) = false := df_ c4
   clear c4
   (first | rw [c4b0] | (simp only [i64_w, i32_w]; rw [c4b0]) | skip)
   have H' := sd_ H
   clear H
   go_wp2
   go_meet
   case rel => exact ⟨_, (decide (a0 > 4)), (by first | rfl | (simp; done) | (simp [*]; done)), H', ⟨by first | omega | exact Nat.le_refl _⟩, by repeat (first | exact Drawn0.refl _ | apply Drawn0.step)⟩
 case rest =>
  clear HC3
  try clear p2; try clear c4; try clear c4b0
  obtain ⟨kq, x12_2, rfl, HA, HJ2, ⟨mc2, rfl⟩⟩ := hcut
  cases kq with
  | zero => exact absurd HA.out (by simp [slope_Thick.j0])
  | succ kj2 =>
   have H := HA.out
   clear HA
   simp only [slope_Thick.j0] at H
   by_cases c5 : x12_2 = true
   ·subst c5
    have H1 : (some (0, 0)) = some (r1, r2) := by rw [if_pos rfl] at H; exact H
    clear H; have H := H1; clear H1
    simp only [Option.some.injEq, Prod.mk.injEq] at H
    obtain ⟨rfl, rfl⟩ := H
    go_wp2
    go_ret2
    exact ⟨by first | rfl | (simp; done) | (simp [*]; done), by repeat (first | exact Drawn0.refl _ | apply Drawn0.step)⟩
   ·replace c5 := bf_ c5
    subst c5
    have H1 : (if a1 = true then (some (wrap64 ((wrap64 (-(wrap64 (768 * (wrap64 (a0 - 1)))))) - 512), wrap64 (-(wrap64 (768 * (wrap64 (a0 - 1))))))) else (some (wrap64 (768 * (wrap64 (a0 - 1))), wrap64 ((wrap64 (768 * (wrap64 (a0 - 1)))) + 512)))) = some (r1, r2) := by rw [if_neg (show ¬ (false = true) by decide)] at H; exact H
    clear H; have H := H1; clear H1
    by_cases c6 : a1 = true
    ·subst c6
     have H1 : (some (wrap64 ((wrap64 (-(wrap64 (768 * (wrap64 (a0 - 1)))))) - 512), wrap64 (-(wrap64 (768 * (wrap64 (a0 - 1))))))) = some (r1, r2) := by rw [if_pos rfl] at H; exact H
     clear H; have H := H1; clear H1
     simp only [Option.some.injEq, Prod.mk.injEq] at H
     obtain ⟨rfl, rfl⟩ := H
     go_wp2
     go_ret2
     exact ⟨by first | rfl | (simp; done) | (simp [*]; done), by repeat (first | exact Drawn0.refl _ | apply Drawn0.step)⟩
    ·replace c6 := bf_ c6
     subst c6
     have H1 : (some (wrap64 (768 * (wrap64 (a0 - 1))), wrap64 ((wrap64 (768 * (wrap64 (a0 - 1)))) + 512))) = some (r1, r2) := by rw [if_neg (show ¬ (false = true) by decide)] at H; exact H
     clear H; have H := H1; clear H1
     simp only [Option.some.injEq, Prod.mk.injEq] at H
     obtain ⟨rfl, rfl⟩ := H
     go_wp2
     go_ret2
     exact ⟨by first | rfl | (simp; done) | (simp [*]; done), by repeat (first | exact Drawn0.refl _ | apply Drawn0.step)⟩

/-! ### neumeref18_Numbers: function 10 -/
def neumeref18_Numbers.l0 : Nat → List Int → List Int → Int → Option (Bool)
 | 0, _, _, _ => none
 | k + 1, x0, x1, x5 => if x5 < (x0.length : Int) then (if 0 ≤ x5 then (if x5 < (x1.length : Int) then (if (rd x0 x5) = (rd x1 x5) then (neumeref18_Numbers.l0 k x0 x1 (wrap64 (x5 + 1))) else (some false)) else (none)) else (none)) else (some true)
def neumeref18_Numbers.f (k : Nat) (l0 : List Int) (l1 : List Int) : Option (Bool) := if (l0.length : Int) = (l1.length : Int) then (neumeref18_Numbers.l0 k l0 l1 0) else (some false)
theorem neumeref18_Numbers.mono_l : ∀ k, (∀ y0 y1 y2, LeO (neumeref18_Numbers.l0 k y0 y1 y2) (neumeref18_Numbers.l0 (k + 1) y0 y1 y2))
 | 0 => fun _ _ _ r h => by simp [neumeref18_Numbers.l0] at h
 | k + 1 => by
  have ih0 := neumeref18_Numbers.mono_l k
  ·intro y0 y1 y2
   unfold neumeref18_Numbers.l0
   repeat' first
   | (with_reducible exact ih0 _ _ _)
   | (with_reducible exact LeO.refl _)
   | (with_reducible exact LeO.none _)
   | (with_reducible refine LeO.ite ?_ ?_)
   | (with_reducible refine LeO.bind ?_ (fun _ => ?_))
   | exact ih0 _ _ _
   | exact LeO.none _
   | refine LeO.ite ?_ ?_
   | refine LeO.bind ?_ (fun _ => ?_)
theorem neumeref18_Numbers.mono : ∀ a0 a1 k, LeO (neumeref18_Numbers.f k a0 a1) (neumeref18_Numbers.f (k + 1) a0 a1) := by
 intro a0 a1 k
 have ih0 := neumeref18_Numbers.mono_l k
 unfold neumeref18_Numbers.f
 repeat' first
   | (with_reducible exact ih0 _ _ _)
   | (with_reducible exact LeO.refl _)
   | (with_reducible exact LeO.none _)
   | (with_reducible refine LeO.ite ?_ ?_)
   | (with_reducible refine LeO.bind ?_ (fun _ => ?_))
   | exact ih0 _ _ _
   | exact LeO.none _
   | refine LeO.ite ?_ ?_
   | refine LeO.bind ?_ (fun _ => ?_)
set_option maxHeartbeats 8000000 in
set_option maxRecDepth 100000 in
theorem neumeref18_Numbers.calls (k : Nat) (A0 : Option Addr) (c0 : Nat) (l0 : List Int) (A1 : Option Addr) (c1 : Nat) (l1 : List Int) (r : Bool) (w : World) (hr0 : Kd.C (Kd.int .i64) w A0 l0.length l0) (hc0 : l0.length ≤ c0) (hr1 : Kd.C (Kd.int .i64) w A1 l1.length l1) (hc1 : l1.length ≤ c1) (h : neumeref18_Numbers.f k l0 l1 = some r) :
  Calls Try.prog 10 #[.slice A0 l0.length c0, .slice A1 l1.length c1] w fun e w' => e = .returned (.bool r) ∧ Drawn0 w w' := by
 have HR0 := sd_ hr0
 have HC0 := sd_ hc0
 clear hr0 hc0
 have HR1 := sd_ hr1
 have HC1 := sd_ hc1
 clear hr1 hc1
 have H : (if (l0.length : Int) = (l1.length : Int) then (neumeref18_Numbers.l0 k l0 l1 0) else (some false)) = some r := h
 clear h
 by_cases c3 : (l0.length : Int) = (l1.length : Int)
 ·rw [if_pos c3] at H
  have c3b0 : ((l0.length : Int) == (l1.length : Int)) = true := beq_iff_eq.mpr c3
  have c3b1 : ((l0.length : Int) != (l1.length : Int)) = false := bne_eq_false_iff_eq.mpr c3
  have c3b2 : (l0.length == l1.length) = true := by first | simpa using c3 | (simp at c3 ⊢; omega)
  clear c3
  have H' := sd_ H
  clear H
  go_enter Try.func10, Try.ntmps10
  go_wp2
  repeat (go_quiet (fail); try go_wp2)
  go_loopg [5] k (fun kq v5 w' => ∃ (x5_1 : Int), v5 = .int .i64 x5_1 ∧ Aside0 (neumeref18_Numbers.l0 kq l0 l1 x5_1 = some r) ∧ Aside0 (kq ≤ k) ∧ Drawn0 w w')
  case atStart => exact ⟨(0), (by first | rfl | (simp; done) | (simp [*]; done)), H', ⟨Nat.le_refl _⟩, by repeat (first | exact Drawn0.refl _ | apply Drawn0.step)⟩
  case round =>
   clear H'
   try clear c1; try clear p2; try clear c3; try clear c3b0; try clear c3b1; try clear c3b2
   obtain ⟨x5_1, rfl, HA, HK1, ⟨m1, rfl⟩⟩ := hrel
   cases gk with
   | zero => exact absurd HA.out (by simp [neumeref18_Numbers.l0])
   | succ k1 =>
    have H := HA.out
    clear HA
    simp only [neumeref18_Numbers.l0] at H
    by_cases c4 : x5_1 < (l0.length : Int)
    ·rw [if_pos c4] at H
     have c4b0 : decide (x5_1 < (l0.length : Int)) = true := dt_ c4
     clear c4
     by_cases c5 : 0 ≤ x5_1
     ·rw [if_pos c5] at H
      have c5b0 : decide (0 ≤ x5_1) = true := dt_ c5
      clear c5
      by_cases c6 : x5_1 < (l1.length : Int)
      ·rw [if_pos c6] at H
       have c6b0 : decide (x5_1 < (l1.length : Int)) = true := dt_ c6
       clear c6
       by_cases c7 : (rd l0 x5_1) = (rd l1 x5_1)
       ·rw [if_pos c7] at H
        have c7b0 : ((rd l0 x5_1) == (rd l1 x5_1)) = true := beq_iff_eq.mpr c7
        have c7b1 : ((rd l0 x5_1) != (rd l1 x5_1)) = false := bne_eq_false_iff_eq.mpr c7
        clear c7
        have H' := sd_ H
        clear H
        have p124 : 0 ≤ (x5_1 : Int) := od_ (by first | (with_reducible assumption) | assumption)
        have q124 : x5_1 < (l0.length : Int) := od_ (by first | (with_reducible assumption) | assumption)
        obtain ⟨ad124, e124, hx124_0⟩ := Kd.at_int HR0.out x5_1 p124 q124
        cases e124
        replace p124 := eq_true p124
        replace q124 := eq_true q124
        have p125 : 0 ≤ (x5_1 : Int) := od_ (by first | (with_reducible assumption) | assumption)
        have q125 : x5_1 < (l1.length : Int) := od_ (by first | (with_reducible assumption) | assumption)
        obtain ⟨ad125, e125, hx125_0⟩ := Kd.at_int HR1.out x5_1 p125 q125
        cases e125
        replace p125 := eq_true p125
        replace q125 := eq_true q125
        go_wp2
        repeat (go_quiet (fail); try go_wp2)
        go_roundg k1
        case measure => have := HK1.out; omega
        case rel => exact ⟨(wrap64 (x5_1 + 1)), (by first | rfl | (simp; done) | (simp [*]; done)), H', ⟨by have := HK1.out; omega⟩, by repeat (first | exact Drawn0.refl _ | apply Drawn0.step)⟩
       ·rw [if_neg c7] at H
        have c7b0 : ((rd l0 x5_1) == (rd l1 x5_1)) = false := beq_eq_false_iff_ne.mpr c7
        have c7b1 : ((rd l0 x5_1) != (rd l1 x5_1)) = true := bne_iff_ne.mpr c7
        obtain rfl := Option.some.inj H
        have p124 : 0 ≤ (x5_1 : Int) := od_ (by first | (with_reducible assumption) | assumption)
        have q124 : x5_1 < (l0.length : Int) := od_ (by first | (with_reducible assumption) | assumption)
        obtain ⟨ad124, e124, hx124_0⟩ := Kd.at_int HR0.out x5_1 p124 q124
        cases e124
        replace p124 := eq_true p124
        replace q124 := eq_true q124
        have p125 : 0 ≤ (x5_1 : Int) := od_ (by first | (with_reducible assumption) | assumption)
        have q125 : x5_1 < (l1.length : Int) := od_ (by first | (with_reducible assumption) | assumption)
        obtain ⟨ad125, e125, hx125_0⟩ := Kd.at_int HR1.out x5_1 p125 q125
        cases e125
        replace p125 := eq_true p125
        replace q125 := eq_true q125
        go_wp2
        repeat (go_quiet (fail); try go_wp2)
        go_ret
        exact ⟨by first | rfl | (simp; done) | (simp [*]; done), by repeat (first | exact Drawn0.refl _ | apply Drawn0.step)⟩
      ·rw [if_neg c6] at H
       exact absurd H (by simp)
     ·rw [if_neg c5] at H
      exact absurd H (by simp)
    ·rw [if_neg c4] at H
     have c4b0 : decide (x5_1 < (l0.length : Int)) = false := df_ c4
     clear c4
     obtain rfl := Option.some.inj H
     go_wp2
     repeat (go_quiet (fail); try go_wp2)
     go_ret
     exact ⟨by first | rfl | (simp; done) | (simp [*]; done), by repeat (first | exact Drawn0.refl _ | apply Drawn0.step)⟩
 ·rw [if_neg c3] at H
  have c3b0 : ((l0.length : Int) == (l1.length : Int)) = false := beq_eq_false_iff_ne.mpr c3
  have c3b1 : ((l0.length : Int) != (l1.length : Int)) = true := bne_iff_ne.mpr c3
  have c3b2 : (l0.length == l1.length) = false := by first | simpa using c3 | (simp at c3 ⊢; omega)
  obtain rfl := Option.some.inj H
  go_enter Try.func10, Try.ntmps10
  go_wp2
  repeat (go_quiet (fail); try go_wp2)
  go_ret
  exact ⟨by first | rfl | (simp; done) | (simp [*]; done), by repeat (first | exact Drawn0.refl _ | apply Drawn0.step)⟩

/-! ### slices_Max_int_int: function 19 -/
def slices_Max_int_int.f (l0 : List Int) : Option Int := match l0 with
 | [] => none
 | x :: r => some (r.foldl (fun a b => mx a b) x)
theorem slices_Max_int_int.snoc (l : List Int) (x : Int) (j : Nat) (h1 : 1 ≤ j) (h : j < l.length) : ((l.take (j + 1)).drop 1).foldl (fun a b => mx a b) x = mx (((l.take j).drop 1).foldl (fun a b => mx a b) x) (rd l j) := by
 rw [List.take_succ_eq_append_getElem h, List.drop_append_of_le_length (by rw [lt_]; omega), List.foldl_append]
 unfold rd
 rw [Int.toNat_natCast, List.getD_eq_getElem?_getD, List.getElem?_eq_getElem h]
 rfl
theorem slices_Max_int_int.calls (A0 : Option Addr) (c0 : Nat) (l0 : List Int) (r : Int) (w : World) (hr0 : Kd.C (Kd.int .i64) w A0 l0.length l0) (hc0 : l0.length ≤ c0) (h : slices_Max_int_int.f l0 = some r) :
  Calls Try.prog 19 #[.slice A0 l0.length c0] w fun e w' => e = .returned (.int .i64 r) ∧ Drawn0 w w' := by
 have hlen : l0.length ≤ 9223372036854775807 := hr0.2.1
 have hpos : 1 ≤ l0.length := by
  cases l0 with
  | nil => simp [slices_Max_int_int.f] at h
  | cons x t => simp
 obtain ⟨ad, e, hc00⟩ := Kd.at_int hr0 (0 : Int) (by omega) (by omega)
 cases e
 obtain ⟨x, hx⟩ : ∃ x, rd l0 0 = x := ⟨_, rfl⟩
 rw [hx] at hc00
 have H := sd_ (show (l0.drop 1).foldl (fun a b => mx a b) x = r by
  cases l0 with
  | nil => simp [slices_Max_int_int.f] at h
  | cons y t => simp [slices_Max_int_int.f] at h; rw [← hx]; exact h)
 clear h hx
 have HR0 := sd_ hr0
 clear hr0 hc0
 have hc0 : w.cell? ad = some (.int .i64 x) := by have q := hc00; rw [show ((0 : Int)).toNat = 0 from rfl, Addr.add_zero'] at q; exact q
 clear hc00
 have hn : decide (l0.length < 1) = false := df_ (by omega)
 have hn2 : decide ((l0.length : Int) < 1) = false := df_ (by omega)
 have hp : (0 : Int) < l0.length := by omega
 go_enter Try.func19, Try.ntmps19
 go_wp2
 go_loop [3, 4] (fun v3 v4 => ∃ j : Nat, 1 ≤ j ∧ j ≤ l0.length ∧ v4 = .int .i64 j ∧ v3 = .int .i64 (((l0.take j).drop 1).foldl (fun a b => mx a b) x)) (fun _ v4 => l0.length - (intOf v4).toNat)
 case atStart => exact ⟨1, Nat.le_refl _, hpos, rfl, by rw [show (l0.take 1).drop 1 = [] from by cases l0 <;> rfl]; rfl⟩
 case round =>
  obtain ⟨j, h1, hj, rfl, rfl⟩ := hrel
  by_cases hlt : j < l0.length
  ·obtain ⟨ad2, e, hcell⟩ := Kd.at_int HR0.out (j : Int) (by omega) (by omega)
   cases e
   have HS := sd_ (slices_Max_int_int.snoc l0 x j h1 hlt)
   obtain ⟨y, hy⟩ : ∃ y, rd l0 (j : Int) = y := ⟨_, rfl⟩
   rw [hy] at hcell HS
   clear hy
   simp only [Int.toNat_natCast] at hcell
   obtain ⟨z, hz⟩ : ∃ z, ((l0.take j).drop 1).foldl (fun a b => mx a b) x = z := ⟨_, rfl⟩
   rw [hz] at HS ⊢
   clear hz
   go_wp2
   go_round
   case rel => exact ⟨j + 1, by omega, by omega, by go_num, by rw [HS.out]; rfl⟩
   case measure => simp [intOf]; omega
  ·obtain rfl : j = l0.length := by omega
   rw [List.take_length, H.out]
   go_wp2
   go_ret
   exact ⟨rfl, Drawn0.refl _⟩

end Go.Proofs.Ytbmdbkjmleimmaa.P
