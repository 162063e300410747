-- Written by a program of this session (wip/tools/xprint.py, over the kit's print): Lean checks it.
import Derived.Test.YtochpedmjpidkaaPx0
import Derived.Test.YtochpedmjpidkaaPx2
import Derived.Test.YtochpedmjpidkaaPx3
import Derived.Test.YtochpedmjpidkaaPx4
import Derived.Test.YtochpedmjpidkaaPx5
import Derived.Test.YtochpedmjpidkaaPx6
namespace Go.Proofs.Ytochpedmjpidkaa.P
open Go.RowKit Go.Proofs.YtochpedmjpidkaaW.PrintWords Go.Proofs.YtochpedmjpidkaaW.PrintLast Go.Proofs.YtochpedmjpidkaaW.PrintMore
attribute [local go_sem] max2_int min2_int max_two min_two max_three min_three max_four min_four   -- for this text's walks alone
set_option linter.unusedVariables false
set_option linter.unusedSimpArgs false

/-! ### neumeref01_Ok: function 32 -/
def neumeref01_Ok.f (a0 : Int) : Option (Bool) := if a0 ≥ (-1099511627776) then (some (decide (a0 ≤ 1099511627776))) else (some false)
set_option maxHeartbeats 8000000 in
set_option maxRecDepth 100000 in
theorem neumeref01_Ok.calls (a0 : Int) (r : Bool) (w : World) (h : neumeref01_Ok.f a0 = some r) :
  Calls Try.prog 32 #[.int .i64 a0] w fun e w' => e = .returned (.bool r) ∧ Drawn0 w w' := by
 have H : (if a0 ≥ (-1099511627776) then (some (decide (a0 ≤ 1099511627776))) else (some false)) = some r := h
 clear h
 by_cases c2 : a0 ≥ (-1099511627776)
 ·rw [if_pos c2] at H
  have c2b0 : decide ((-1099511627776) ≤ a0) = true := dt_ c2
  clear c2
  obtain rfl := Option.some.inj H
  go_enter Try.func32, Try.ntmps32
  go_wp2
  go_ret
  exact ⟨by first | rfl | (simp; done) | (simp [*]; done), by repeat (first | exact Drawn0.refl _ | apply Drawn0.step)⟩
 ·rw [if_neg c2] at H
  have c2b0 : decide ((-1099511627776) ≤ a0) = false := df_ c2
  clear c2
  obtain rfl := Option.some.inj H
  go_enter Try.func32, Try.ntmps32
  go_wp2
  go_ret
  exact ⟨by first | rfl | (simp; done) | (simp [*]; done), by repeat (first | exact Drawn0.refl _ | apply Drawn0.step)⟩

/-! ### neumeref20_Row: function 15 -/
mutual
def neumeref20_Row.j0 : Nat → Int → Int → Bool → Bool → Option (List Int)
 | 0, _, _, _, _ => none
 | k + 1, x0, x1, x2, x20 => if x20 = true then (some ([] : List Int)) else (if x2 = true then (neumeref20_Row.j1 k x0 x1 334) else (neumeref20_Row.j1 k x0 x1 500))
def neumeref20_Row.j1 : Nat → Int → Int → Int → Option (List Int)
 | 0, _, _, _ => none
 | k + 1, x0, x1, x7 => neumeref20_Row.l0 k x0 x1 x7 ([] : List Int) 0
def neumeref20_Row.l0 : Nat → Int → Int → Int → List Int → Int → Option (List Int)
 | 0, _, _, _, _, _ => none
 | k + 1, x0, x1, x7, x8, x9 => if x9 < x0 then (if x8.length < 17592186044416 then (neumeref20_Row.l0 k x0 x1 x7 (x8 ++ [wrap64 (x1 + (wrap64 (x9 * x7)))]) (wrap64 (x9 + 1))) else (none)) else (some x8)
end
def neumeref20_Row.f (k : Nat) (a0 : Int) (a1 : Int) (a2 : Bool) : Option (List Int) := if a0 < 0 then (neumeref20_Row.j0 k a0 a1 a2 true) else (if a0 > 3 then (neumeref20_Row.j0 k a0 a1 a2 true) else ((neumeref01_Ok.f a1).bind fun t200 => (neumeref20_Row.j0 k a0 a1 a2 (!t200))))
theorem neumeref20_Row.mono_l : ∀ k, (∀ y0 y1 y2 y3, LeO (neumeref20_Row.j0 k y0 y1 y2 y3) (neumeref20_Row.j0 (k + 1) y0 y1 y2 y3)) ∧ (∀ y0 y1 y2, LeO (neumeref20_Row.j1 k y0 y1 y2) (neumeref20_Row.j1 (k + 1) y0 y1 y2)) ∧ (∀ y0 y1 y2 y3 y4, LeO (neumeref20_Row.l0 k y0 y1 y2 y3 y4) (neumeref20_Row.l0 (k + 1) y0 y1 y2 y3 y4))
 | 0 => ⟨fun _ _ _ _ r h => by simp [neumeref20_Row.j0] at h, fun _ _ _ r h => by simp [neumeref20_Row.j1] at h, fun _ _ _ _ _ r h => by simp [neumeref20_Row.l0] at h⟩
 | k + 1 => by
  obtain ⟨ih0, ih1, ih2⟩ := neumeref20_Row.mono_l k
  refine ⟨?_, ?_, ?_⟩
  ·intro y0 y1 y2 y3
   unfold neumeref20_Row.j0
   repeat' first
   | (with_reducible exact ih0 _ _ _ _)
   | (with_reducible exact ih1 _ _ _)
   | (with_reducible exact ih2 _ _ _ _ _)
   | (with_reducible exact LeO.refl _)
   | (with_reducible exact LeO.none _)
   | (with_reducible refine LeO.ite ?_ ?_)
   | (with_reducible refine LeO.bind ?_ (fun _ => ?_))
   | exact ih0 _ _ _ _
   | exact ih1 _ _ _
   | exact ih2 _ _ _ _ _
   | exact LeO.none _
   | refine LeO.ite ?_ ?_
   | refine LeO.bind ?_ (fun _ => ?_)
  ·intro y0 y1 y2
   unfold neumeref20_Row.j1
   repeat' first
   | (with_reducible exact ih0 _ _ _ _)
   | (with_reducible exact ih1 _ _ _)
   | (with_reducible exact ih2 _ _ _ _ _)
   | (with_reducible exact LeO.refl _)
   | (with_reducible exact LeO.none _)
   | (with_reducible refine LeO.ite ?_ ?_)
   | (with_reducible refine LeO.bind ?_ (fun _ => ?_))
   | exact ih0 _ _ _ _
   | exact ih1 _ _ _
   | exact ih2 _ _ _ _ _
   | exact LeO.none _
   | refine LeO.ite ?_ ?_
   | refine LeO.bind ?_ (fun _ => ?_)
  ·intro y0 y1 y2 y3 y4
   unfold neumeref20_Row.l0
   repeat' first
   | (with_reducible exact ih0 _ _ _ _)
   | (with_reducible exact ih1 _ _ _)
   | (with_reducible exact ih2 _ _ _ _ _)
   | (with_reducible exact LeO.refl _)
   | (with_reducible exact LeO.none _)
   | (with_reducible refine LeO.ite ?_ ?_)
   | (with_reducible refine LeO.bind ?_ (fun _ => ?_))
   | exact ih0 _ _ _ _
   | exact ih1 _ _ _
   | exact ih2 _ _ _ _ _
   | exact LeO.none _
   | refine LeO.ite ?_ ?_
   | refine LeO.bind ?_ (fun _ => ?_)
theorem neumeref20_Row.mono : ∀ a0 a1 a2 k, LeO (neumeref20_Row.f k a0 a1 a2) (neumeref20_Row.f (k + 1) a0 a1 a2) := by
 intro a0 a1 a2 k
 obtain ⟨ih0, ih1, ih2⟩ := neumeref20_Row.mono_l k
 unfold neumeref20_Row.f
 repeat' first
   | (with_reducible exact ih0 _ _ _ _)
   | (with_reducible exact ih1 _ _ _)
   | (with_reducible exact ih2 _ _ _ _ _)
   | (with_reducible exact LeO.refl _)
   | (with_reducible exact LeO.none _)
   | (with_reducible refine LeO.ite ?_ ?_)
   | (with_reducible refine LeO.bind ?_ (fun _ => ?_))
   | exact ih0 _ _ _ _
   | exact ih1 _ _ _
   | exact ih2 _ _ _ _ _
   | exact LeO.none _
   | refine LeO.ite ?_ ?_
   | refine LeO.bind ?_ (fun _ => ?_)
set_option maxHeartbeats 8000000 in
set_option maxRecDepth 100000 in
theorem neumeref20_Row.calls (k : Nat) (a0 : Int) (a1 : Int) (a2 : Bool) (r : List Int) (w : World) (h : neumeref20_Row.f k a0 a1 a2 = some r) :
  Calls Try.prog 15 #[.int .i64 a0, .int .i64 a1, .bool a2] w fun e w' => ∃ v0_ : Value, e = .returned (v0_) ∧ Kd.R (Kd.int .i64) 3 w' w.heap.size (fun _ => True) v0_ r ∧ Below w.heap.size w w' := by
 have HB := sd_ (Below.refl w.heap.size w)
 have H : (if a0 < 0 then (neumeref20_Row.j0 k a0 a1 a2 true) else (if a0 > 3 then (neumeref20_Row.j0 k a0 a1 a2 true) else ((neumeref01_Ok.f a1).bind fun t200 => (neumeref20_Row.j0 k a0 a1 a2 (!t200))))) = some r := h
 clear h
 have HC4 := sd_ H
 clear H
 go_enter Try.func15, Try.ntmps15
 go_upto_region 1 with (fail)
 go_cut [20] (fun v20 wc => ∃ (kq : Nat) (x20_3 : Bool), v20 = .bool x20_3 ∧ Aside0 (neumeref20_Row.j0 kq a0 a1 a2 x20_3 = some r) ∧ Aside0 (kq ≤ k) ∧ Aside0 (Below w.heap.size w wc))
 case first =>
  have H := HC4.out
  clear HC4
  by_cases c5 : a0 < 0
  ·rw [if_pos c5] at H
   have c5b0 : decide (a0 < 0) = true := dt_ c5
   clear c5
   (first | rw [c5b0] | (simp only [i64_w, i32_w]; rw [c5b0]) | skip)
   have H' := sd_ H
   clear H
   go_wp2
   go_meet
   case rel => exact ⟨_, (true), (by first | rfl | (simp; done) | (simp [*]; done) | (simp [bne]; done)), H', ⟨by first | omega | exact Nat.le_refl _⟩, ⟨by repeat (first | (with_reducible first | exact HB.out | apply ba_ | apply pd_ | apply d1_) | exact HB.out)⟩⟩
  ·rw [if_neg c5] at H
   have c5b0 : decide (a0 < 0) = false := df_ c5
   clear c5
   (first | rw [c5b0] | (simp only [i64_w, i32_w]; rw [c5b0]) | skip)
   by_cases c6 : a0 > 3
   ·rw [if_pos c6] at H
    have c6b0 : decide (3 < a0) = true := dt_ c6
    clear c6
    have H' := sd_ H
    clear H
    go_wp2
    go_meet
    case rel => exact ⟨_, (true), (by first | rfl | (simp; done) | (simp [*]; done) | (simp [bne]; done)), H', ⟨by first | omega | exact Nat.le_refl _⟩, ⟨by repeat (first | (with_reducible first | exact HB.out | apply ba_ | apply pd_ | apply d1_) | exact HB.out)⟩⟩
   ·rw [if_neg c6] at H
    have c6b0 : decide (3 < a0) = false := df_ c6
    clear c6
    replace H := ob_ H
    obtain ⟨t200, A70, H⟩ := H
    replace H : (neumeref20_Row.j0 k a0 a1 a2 (!t200)) = some r := H
    have A7 := sd_ A70
    clear A70
    have H' := sd_ H
    clear H
    go_wp2_with (first | (go_at_call 32; (with_reducible refine (neumeref01_Ok.calls a1 t200 _ A7.out).mono ?_); rintro e w' ⟨rfl, ⟨nd, rfl⟩⟩))
    go_meet
    case rel => exact ⟨_, (!t200), (by first | rfl | (simp; done) | (simp [*]; done) | (simp [bne]; done)), H', ⟨by first | omega | exact Nat.le_refl _⟩, ⟨by repeat (first | (with_reducible first | exact HB.out | apply ba_ | apply pd_ | apply d1_) | exact HB.out)⟩⟩
 case rest =>
  clear HC4
  try clear c1; try clear p2; try clear c5; try clear c5b0; try clear c6; try clear c6b0
  obtain ⟨kq, x20_3, rfl, HA, HJ3, HB⟩ := hcut
  cases kq with
  | zero => exact absurd HA.out (by simp [neumeref20_Row.j0])
  | succ kj3 =>
   have H := HA.out
   clear HA
   simp only [neumeref20_Row.j0] at H
   by_cases c8 : x20_3 = true
   ·subst c8
    have H1 : (some ([] : List Int)) = some r := by rw [if_pos rfl] at H; exact H
    clear H; have H := H1; clear H1
    obtain rfl := Option.some.inj H
    go_wp2
    go_ret
    exact ⟨_, by first | rfl | (simp [errW_none, errW_some] <;> rfl) | (simp [*, errW_none, errW_some] <;> rfl), by first | exact Kd.R_nil _ _ _ _ _ | exact Kd.N_nil _ _ _ _ _ | exact Kd.V_nil _ _ _ _ _ | exact Kd.Q_nil _ _ _ _ _ | exact Kd.S_nil _ _ _ _ _, by repeat (first | (with_reducible first | exact HB.out | apply ba_ | apply pd_ | apply d1_) | exact HB.out)⟩
   ·replace c8 := bf_ c8
    subst c8
    have H1 : (if a2 = true then (neumeref20_Row.j1 kj3 a0 a1 334) else (neumeref20_Row.j1 kj3 a0 a1 500)) = some r := by rw [if_neg (show ¬ (false = true) by decide)] at H; exact H
    clear H; have H := H1; clear H1
    have HC9 := sd_ H
    clear H
    go_upto_if 21 with (fail)
    go_cut [7] (fun v7 wc => ∃ (kq : Nat) (x7_8 : Int), v7 = .int .i64 x7_8 ∧ Aside0 (neumeref20_Row.j1 kq a0 a1 x7_8 = some r) ∧ Aside0 (kq ≤ kj3) ∧ Aside0 (Below w.heap.size w wc))
    case first =>
     have H := HC9.out
     clear HC9
     by_cases c10 : a2 = true
     ·subst c10
      have H1 : (neumeref20_Row.j1 kj3 a0 a1 334) = some r := by rw [if_pos rfl] at H; exact H
      clear H; have H := H1; clear H1
      have H' := sd_ H
      clear H
      go_wp2
      go_meet
      case rel => exact ⟨_, (334), (by first | rfl | (simp; done) | (simp [*]; done) | (simp [bne]; done)), H', ⟨by have := HJ3.out; first | omega | exact Nat.le_refl _⟩, ⟨by repeat (first | (with_reducible first | exact HB.out | apply ba_ | apply pd_ | apply d1_) | exact HB.out)⟩⟩
     ·replace c10 := bf_ c10
      subst c10
      have H1 : (neumeref20_Row.j1 kj3 a0 a1 500) = some r := by rw [if_neg (show ¬ (false = true) by decide)] at H; exact H
      clear H; have H := H1; clear H1
      have H' := sd_ H
      clear H
      go_wp2
      go_meet
      case rel => exact ⟨_, (500), (by first | rfl | (simp; done) | (simp [*]; done) | (simp [bne]; done)), H', ⟨by have := HJ3.out; first | omega | exact Nat.le_refl _⟩, ⟨by repeat (first | (with_reducible first | exact HB.out | apply ba_ | apply pd_ | apply d1_) | exact HB.out)⟩⟩
    case rest =>
     clear HC9
     try clear c1; try clear p2; try clear c5; try clear c5b0; try clear c6; try clear c6b0; try clear c8; try clear c10; try clear p2
     obtain ⟨kq, x7_8, rfl, HA, HJ8, HB⟩ := hcut
     cases kq with
     | zero => exact absurd HA.out (by simp [neumeref20_Row.j1])
     | succ kj8 =>
      have H := HA.out
      clear HA
      simp only [neumeref20_Row.j1] at H
      have H' := sd_ H
      clear H
      go_wp2
      go_loopg [8, 9] kj8 (fun kq v8 v9 w' => ∃ (x8_3 : List Int) (x9_3 : Int), v9 = .int .i64 x9_3 ∧ Aside0 (neumeref20_Row.l0 kq a0 a1 x7_8 x8_3 x9_3 = some r) ∧ Aside0 (kq ≤ kj8) ∧ Aside0 (Kd.R (Kd.int .i64) 3 w' w.heap.size (fun _ => True) v8 x8_3) ∧ Aside0 (Below w.heap.size w w'))
      case atStart => exact ⟨(([] : List Int)), (0), (by first | rfl | (simp; done) | (simp [*]; done) | (simp [bne]; done)), H', ⟨Nat.le_refl _⟩, ⟨by first | exact Kd.R_nil _ _ _ _ _ | exact Kd.N_nil _ _ _ _ _ | exact Kd.V_nil _ _ _ _ _ | exact Kd.Q_nil _ _ _ _ _ | exact Kd.S_nil _ _ _ _ _⟩, ⟨by repeat (first | (with_reducible first | exact HB.out | apply ba_ | apply pd_ | apply d1_) | exact HB.out)⟩⟩
      case round =>
       clear H'
       try clear c1; try clear p2; try clear c5; try clear c5b0; try clear c6; try clear c6b0; try clear c8; try clear c10; try clear p2
       obtain ⟨x8_3, x9_3, rfl, HA, HK3, HO_8, HB⟩ := hrel
       cases gk with
       | zero => exact absurd HA.out (by simp [neumeref20_Row.l0])
       | succ k3 =>
        have H := HA.out
        clear HA
        simp only [neumeref20_Row.l0] at H
        by_cases c11 : x9_3 < a0
        ·rw [if_pos c11] at H
         have c11b0 : decide (x9_3 < a0) = true := dt_ c11
         clear c11
         by_cases c12 : x8_3.length < 17592186044416
         ·rw [if_pos c12] at H
          have LMc12 := sd_ c12
          clear c12
          obtain ⟨y201, hy201⟩ : ∃ y_ : List Int, y_ = (x8_3 ++ [wrap64 (a1 + (wrap64 (x9_3 * x7_8)))]) := ⟨_, rfl⟩
          replace H : (neumeref20_Row.l0 k3 a0 a1 x7_8 y201 (wrap64 (x9_3 + 1))) = some r := by first | (rw [hy201]; with_reducible exact H) | (have H2_ := (Option.bind_some _ _).symm.trans H; rw [hy201]; with_reducible exact H2_) | (have H2_ := (Option.bind_some _ _).symm.trans H; with_reducible exact H2_) | with_reducible exact H | (rw [hy201]; exact H) | exact H
          have Ny201 := sd_ hy201
          clear hy201
          have H' := sd_ H
          clear H
          go_wp2_with (first | ((with_reducible refine gate_builtin (b := .append) (xs := #[.tmp 27, .tmp 33]) rfl ?_); at_builtin; refine Kd.R_append (Kd.int .i64) (w0 := w) w.heap.size rfl (.tmp 27) (.tmp 33) 22 3 (.int .i64 0) 8 rfl Try.underlying22 info3 rfl (by decide) (by omega) u8 x8_3 (wrap64 (a1 + (wrap64 (x9_3 * x7_8)))) [.int .i64 (wrap64 (a1 + (wrap64 (x9_3 * x7_8))))] (fun _ => True) (fun _ => False) rfl rfl ?aP (fun _ hk => hk.elim) ?aF ?aO ?aB ?aS ?aL ?_; (case aP => exact rfl); (case aB => exact (bb_ HB.out e0_)); (case aF => exact (fun _ _ => trivial)); (case aO => exact (by (with_reducible repeat (first | apply Kd.R_alloc | apply Kd.R_drewN | apply Kd.R_drew)); exact HO_8.out)); (case aS => exact (bz_ (bb_ HB.out e0_))); (case aL => have := LMc12.out; omega); intro v202 w13 ho hb hg hat; rw [← Ny201.out] at ho; have HO203 := sd_ (ho); replace HB := sd_ (hb); clear HO_8; clear ho hb hg hat))
          go_roundg k3
          case measure => have := HJ3.out; have := HJ8.out; have := HK3.out; omega
          case rel => exact ⟨(y201), (wrap64 (x9_3 + 1)), (by first | rfl | (simp; done) | (simp [*]; done) | (simp [bne]; done)), H', ⟨by have := HJ3.out; have := HJ8.out; have := HK3.out; omega⟩, ⟨by (with_reducible repeat (first | apply Kd.R_alloc | apply Kd.R_drewN | apply Kd.R_drew)); exact HO203.out⟩, ⟨by repeat (first | (with_reducible first | exact HB.out | apply ba_ | apply pd_ | apply d1_) | exact HB.out)⟩⟩
         ·rw [if_neg c12] at H
          exact absurd H (by simp)
        ·rw [if_neg c11] at H
         have c11b0 : decide (x9_3 < a0) = false := df_ c11
         clear c11
         obtain rfl := Option.some.inj H
         go_wp2
         go_ret
         exact ⟨_, by first | rfl | (simp [errW_none, errW_some] <;> rfl) | (simp [*, errW_none, errW_some] <;> rfl), by (with_reducible repeat (first | apply Kd.R_alloc | apply Kd.R_drewN | apply Kd.R_drew)); exact HO_8.out, by repeat (first | (with_reducible first | exact HB.out | apply ba_ | apply pd_ | apply d1_) | exact HB.out)⟩

/-! ### neumelaw20_DotsTell: function 3 -/
def neumelaw20_DotsTell.f (k : Nat) (l0 : List Int) (a1_0 : Int) (a1_1 : Int) (a2 : Bool) (a3 : Int) (a4 : Int) : Option (Bool) := if (l0.length : Int) > 100 then ((neumelaw20_heads.f k).bind fun t205 => (some t205)) else ((dots_Dots.f k l0).bind fun bt206 => ((neumeref20_Dots.f k l0).bind fun bt210 => ((dots_Rest.f k a1_0 a1_1 a2 a3).bind fun bt214 => ((neumeref20_Rest.f k a1_0 a1_1 a2 a3).bind fun bt216 => ((neumeref18_Numbers.f k bt206.1 bt210.1).bind fun t218 => (if t218 = true then (if bt206.2 = bt210.2 then (if bt214.1 = bt216.1 then (if bt214.2 = bt216.2 then ((dots_Ledgers.f k l0).bind fun t219 => ((neumeref20_Ledgers.f k l0).bind fun t222 => ((neumeref18_Numbers.f k t219 t222).bind fun t225 => (if t225 = true then ((dots_Row.f k a3 a4 a2).bind fun t226 => ((neumeref20_Row.f k a3 a4 a2).bind fun t229 => ((neumeref18_Numbers.f k t226 t229).bind fun t232 => (if t232 = true then ((neumelaw20_heads.f k).bind fun t233 => (some t233)) else (some false))))) else (some false))))) else (some false)) else (some false)) else (some false)) else (some false)))))))
theorem neumelaw20_DotsTell.mono : ∀ a0 a1 a2 a3 a4 a5 k, LeO (neumelaw20_DotsTell.f k a0 a1 a2 a3 a4 a5) (neumelaw20_DotsTell.f (k + 1) a0 a1 a2 a3 a4 a5) := by
 intro a0 a1 a2 a3 a4 a5 k
 unfold neumelaw20_DotsTell.f
 repeat' first
   | (with_reducible exact dots_Dots.mono _ _)
   | (with_reducible exact dots_Ledgers.mono _ _)
   | (with_reducible exact dots_Rest.mono _ _ _ _ _)
   | (with_reducible exact dots_Row.mono _ _ _ _)
   | (with_reducible exact neumelaw20_heads.mono _)
   | (with_reducible exact neumeref18_Numbers.mono _ _ _)
   | (with_reducible exact neumeref20_Dots.mono _ _)
   | (with_reducible exact neumeref20_Ledgers.mono _ _)
   | (with_reducible exact neumeref20_Rest.mono _ _ _ _ _)
   | (with_reducible exact neumeref20_Row.mono _ _ _ _)
   | (with_reducible exact LeO.refl _)
   | (with_reducible exact LeO.none _)
   | (with_reducible refine LeO.ite ?_ ?_)
   | (with_reducible refine LeO.bind ?_ (fun _ => ?_))
   | exact dots_Dots.mono _ _
   | exact dots_Ledgers.mono _ _
   | exact dots_Rest.mono _ _ _ _ _
   | exact dots_Row.mono _ _ _ _
   | exact neumelaw20_heads.mono _
   | exact neumeref18_Numbers.mono _ _ _
   | exact neumeref20_Dots.mono _ _
   | exact neumeref20_Ledgers.mono _ _
   | exact neumeref20_Rest.mono _ _ _ _ _
   | exact neumeref20_Row.mono _ _ _ _
   | exact LeO.none _
   | refine LeO.ite ?_ ?_
   | refine LeO.bind ?_ (fun _ => ?_)
set_option maxHeartbeats 8000000 in
set_option maxRecDepth 100000 in
theorem neumelaw20_DotsTell.calls (k : Nat) (A0 : Option Addr) (c0 : Nat) (l0 : List Int) (a1_0 : Int) (a1_1 : Int) (a2 : Bool) (a3 : Int) (a4 : Int) (r : Bool) (w : World) (hr0 : Kd.C (Kd.int .i64) w A0 l0.length l0) (hc0 : l0.length ≤ c0) (hxt : Aside0 (r = true)) (h : neumelaw20_DotsTell.f k l0 a1_0 a1_1 a2 a3 a4 = some r) :
  Calls Try.prog 3 #[.slice A0 l0.length c0, .agg #[.int .i64 a1_0, .int .i64 a1_1], .bool a2, .int .i64 a3, .int .i64 a4] w fun e w' => e = .returned (.bool r) ∧ Below w.heap.size w w' := by
 have hu24 := Try.underlying24
 have HR0 := sd_ hr0
 have HC0 := sd_ hc0
 clear hr0 hc0
 have HB := sd_ (Below.refl w.heap.size w)
 have H : (if (l0.length : Int) > 100 then ((neumelaw20_heads.f k).bind fun t205 => (some t205)) else ((dots_Dots.f k l0).bind fun bt206 => ((neumeref20_Dots.f k l0).bind fun bt210 => ((dots_Rest.f k a1_0 a1_1 a2 a3).bind fun bt214 => ((neumeref20_Rest.f k a1_0 a1_1 a2 a3).bind fun bt216 => ((neumeref18_Numbers.f k bt206.1 bt210.1).bind fun t218 => (if t218 = true then (if bt206.2 = bt210.2 then (if bt214.1 = bt216.1 then (if bt214.2 = bt216.2 then ((dots_Ledgers.f k l0).bind fun t219 => ((neumeref20_Ledgers.f k l0).bind fun t222 => ((neumeref18_Numbers.f k t219 t222).bind fun t225 => (if t225 = true then ((dots_Row.f k a3 a4 a2).bind fun t226 => ((neumeref20_Row.f k a3 a4 a2).bind fun t229 => ((neumeref18_Numbers.f k t226 t229).bind fun t232 => (if t232 = true then ((neumelaw20_heads.f k).bind fun t233 => (some t233)) else (some false))))) else (some false))))) else (some false)) else (some false)) else (some false)) else (some false)))))))) = some r := h
 clear h
 by_cases c6 : (l0.length : Int) > 100
 ·rw [if_pos c6] at H
  have c6b0 : decide (100 < (l0.length : Int)) = true := dt_ c6
  have c6b1 : decide (100 < l0.length) = true := dt_ (by omega)
  clear c6
  replace H := ob_ H
  obtain ⟨t205, A70, H⟩ := H
  replace H : (some t205) = some r := H
  have A7 := sd_ A70
  clear A70
  obtain rfl := Option.some.inj H
  go_enter Try.func3, Try.ntmps3
  go_wp2_with (first | ((with_reducible refine gate_dst (N := 6) rfl ?_); refine box_event ?hg (N := 6) ?hd (cs := #[.int .i64 a1_0, .int .i64 a1_1]) (t := 24) ?hr ?_; (case hd => rfl); (case hg => rfl); (case hr => first | (go_simp; done) | (go_simp; rfl)); intro gb204 hg w8 hbox hb; have BK204 := sd_ hbox; have GW204 := gw_ HB e0_ hg; have GE204 := GW204; replace HB := hb_ HB e0_ hb; clear hb hbox hg) | ((with_reducible refine gate_callee (f := 6) rfl ?_); refine goesL_ (some 22) rfl rfl Try.func6 (by kernel_rfl) rfl #[] rfl (by (try simp only [lm_, lq_, lx_]); first | done | rfl | (simp only [ld_, lt_]; rfl)) ?_; (with_reducible refine (neumelaw20_heads.calls k  t205 _ A7.out).mono ?_); rintro e w9 ⟨rfl, hb⟩; refine ⟨_, rfl, ?_⟩; replace BK204 := kb_ BK204 hb; replace HB := hb_ HB (e_ GE204 e0_) hb; (try clear hb); (try clear hb2); (try clear hk); (try clear hi)))
  go_ret
  exact ⟨by first | rfl | (simp [errW_none, errW_some] <;> rfl) | (simp [*, errW_none, errW_some] <;> rfl), by repeat (first | (with_reducible first | exact HB.out | apply ba_ | apply pd_ | apply d1_ | refine bs_ ?_ GE204.out) | exact HB.out)⟩
 ·rw [if_neg c6] at H
  have c6b0 : decide (100 < (l0.length : Int)) = false := df_ c6
  have c6b1 : decide (100 < l0.length) = false := df_ (by omega)
  clear c6
  replace H := ob_ H
  obtain ⟨⟨t206, t207⟩, A100, H⟩ := H
  replace H : ((neumeref20_Dots.f k l0).bind fun bt210 => ((dots_Rest.f k a1_0 a1_1 a2 a3).bind fun bt214 => ((neumeref20_Rest.f k a1_0 a1_1 a2 a3).bind fun bt216 => ((neumeref18_Numbers.f k t206 bt210.1).bind fun t218 => (if t218 = true then (if t207 = bt210.2 then (if bt214.1 = bt216.1 then (if bt214.2 = bt216.2 then ((dots_Ledgers.f k l0).bind fun t219 => ((neumeref20_Ledgers.f k l0).bind fun t222 => ((neumeref18_Numbers.f k t219 t222).bind fun t225 => (if t225 = true then ((dots_Row.f k a3 a4 a2).bind fun t226 => ((neumeref20_Row.f k a3 a4 a2).bind fun t229 => ((neumeref18_Numbers.f k t226 t229).bind fun t232 => (if t232 = true then ((neumelaw20_heads.f k).bind fun t233 => (some t233)) else (some false))))) else (some false))))) else (some false)) else (some false)) else (some false)) else (some false)))))) = some r := H
  have A10 := sd_ A100
  clear A100
  replace H := ob_ H
  obtain ⟨⟨t210, t211⟩, A110, H⟩ := H
  replace H : ((dots_Rest.f k a1_0 a1_1 a2 a3).bind fun bt214 => ((neumeref20_Rest.f k a1_0 a1_1 a2 a3).bind fun bt216 => ((neumeref18_Numbers.f k t206 t210).bind fun t218 => (if t218 = true then (if t207 = t211 then (if bt214.1 = bt216.1 then (if bt214.2 = bt216.2 then ((dots_Ledgers.f k l0).bind fun t219 => ((neumeref20_Ledgers.f k l0).bind fun t222 => ((neumeref18_Numbers.f k t219 t222).bind fun t225 => (if t225 = true then ((dots_Row.f k a3 a4 a2).bind fun t226 => ((neumeref20_Row.f k a3 a4 a2).bind fun t229 => ((neumeref18_Numbers.f k t226 t229).bind fun t232 => (if t232 = true then ((neumelaw20_heads.f k).bind fun t233 => (some t233)) else (some false))))) else (some false))))) else (some false)) else (some false)) else (some false)) else (some false))))) = some r := H
  have A11 := sd_ A110
  clear A110
  replace H := ob_ H
  obtain ⟨⟨t214, t215⟩, A120, H⟩ := H
  replace H : ((neumeref20_Rest.f k a1_0 a1_1 a2 a3).bind fun bt216 => ((neumeref18_Numbers.f k t206 t210).bind fun t218 => (if t218 = true then (if t207 = t211 then (if t214 = bt216.1 then (if t215 = bt216.2 then ((dots_Ledgers.f k l0).bind fun t219 => ((neumeref20_Ledgers.f k l0).bind fun t222 => ((neumeref18_Numbers.f k t219 t222).bind fun t225 => (if t225 = true then ((dots_Row.f k a3 a4 a2).bind fun t226 => ((neumeref20_Row.f k a3 a4 a2).bind fun t229 => ((neumeref18_Numbers.f k t226 t229).bind fun t232 => (if t232 = true then ((neumelaw20_heads.f k).bind fun t233 => (some t233)) else (some false))))) else (some false))))) else (some false)) else (some false)) else (some false)) else (some false)))) = some r := H
  have A12 := sd_ A120
  clear A120
  replace H := ob_ H
  obtain ⟨⟨t216, t217⟩, A130, H⟩ := H
  replace H : ((neumeref18_Numbers.f k t206 t210).bind fun t218 => (if t218 = true then (if t207 = t211 then (if t214 = t216 then (if t215 = t217 then ((dots_Ledgers.f k l0).bind fun t219 => ((neumeref20_Ledgers.f k l0).bind fun t222 => ((neumeref18_Numbers.f k t219 t222).bind fun t225 => (if t225 = true then ((dots_Row.f k a3 a4 a2).bind fun t226 => ((neumeref20_Row.f k a3 a4 a2).bind fun t229 => ((neumeref18_Numbers.f k t226 t229).bind fun t232 => (if t232 = true then ((neumelaw20_heads.f k).bind fun t233 => (some t233)) else (some false))))) else (some false))))) else (some false)) else (some false)) else (some false)) else (some false))) = some r := H
  have A13 := sd_ A130
  clear A130
  replace H := ob_ H
  obtain ⟨t218, A140, H⟩ := H
  replace H : (if t218 = true then (if t207 = t211 then (if t214 = t216 then (if t215 = t217 then ((dots_Ledgers.f k l0).bind fun t219 => ((neumeref20_Ledgers.f k l0).bind fun t222 => ((neumeref18_Numbers.f k t219 t222).bind fun t225 => (if t225 = true then ((dots_Row.f k a3 a4 a2).bind fun t226 => ((neumeref20_Row.f k a3 a4 a2).bind fun t229 => ((neumeref18_Numbers.f k t226 t229).bind fun t232 => (if t232 = true then ((neumelaw20_heads.f k).bind fun t233 => (some t233)) else (some false))))) else (some false))))) else (some false)) else (some false)) else (some false)) else (some false)) = some r := H
  have A14 := sd_ A140
  clear A140
  by_cases c15 : t218 = true
  ·subst c15
   have H1 : (if t207 = t211 then (if t214 = t216 then (if t215 = t217 then ((dots_Ledgers.f k l0).bind fun t219 => ((neumeref20_Ledgers.f k l0).bind fun t222 => ((neumeref18_Numbers.f k t219 t222).bind fun t225 => (if t225 = true then ((dots_Row.f k a3 a4 a2).bind fun t226 => ((neumeref20_Row.f k a3 a4 a2).bind fun t229 => ((neumeref18_Numbers.f k t226 t229).bind fun t232 => (if t232 = true then ((neumelaw20_heads.f k).bind fun t233 => (some t233)) else (some false))))) else (some false))))) else (some false)) else (some false)) else (some false)) = some r := by rw [if_pos rfl] at H; exact H
   clear H; have H := H1; clear H1
   by_cases c16 : t207 = t211
   ·rw [if_pos c16] at H
    have c16b0 : (t207 == t211) = true := beq_iff_eq.mpr c16
    have c16b1 : (t207 != t211) = false := bne_eq_false_iff_eq.mpr c16
    clear c16
    by_cases c17 : t214 = t216
    ·rw [if_pos c17] at H
     have c17b0 : (t214 == t216) = true := beq_iff_eq.mpr c17
     have c17b1 : (t214 != t216) = false := bne_eq_false_iff_eq.mpr c17
     clear c17
     by_cases c18 : t215 = t217
     ·rw [if_pos c18] at H
      have c18b0 : (t215 == t217) = true := beq_iff_eq.mpr c18
      have c18b1 : (t215 != t217) = false := bne_eq_false_iff_eq.mpr c18
      clear c18
      replace H := ob_ H
      obtain ⟨t219, A190, H⟩ := H
      replace H : ((neumeref20_Ledgers.f k l0).bind fun t222 => ((neumeref18_Numbers.f k t219 t222).bind fun t225 => (if t225 = true then ((dots_Row.f k a3 a4 a2).bind fun t226 => ((neumeref20_Row.f k a3 a4 a2).bind fun t229 => ((neumeref18_Numbers.f k t226 t229).bind fun t232 => (if t232 = true then ((neumelaw20_heads.f k).bind fun t233 => (some t233)) else (some false))))) else (some false)))) = some r := H
      have A19 := sd_ A190
      clear A190
      replace H := ob_ H
      obtain ⟨t222, A200, H⟩ := H
      replace H : ((neumeref18_Numbers.f k t219 t222).bind fun t225 => (if t225 = true then ((dots_Row.f k a3 a4 a2).bind fun t226 => ((neumeref20_Row.f k a3 a4 a2).bind fun t229 => ((neumeref18_Numbers.f k t226 t229).bind fun t232 => (if t232 = true then ((neumelaw20_heads.f k).bind fun t233 => (some t233)) else (some false))))) else (some false))) = some r := H
      have A20 := sd_ A200
      clear A200
      replace H := ob_ H
      obtain ⟨t225, A210, H⟩ := H
      replace H : (if t225 = true then ((dots_Row.f k a3 a4 a2).bind fun t226 => ((neumeref20_Row.f k a3 a4 a2).bind fun t229 => ((neumeref18_Numbers.f k t226 t229).bind fun t232 => (if t232 = true then ((neumelaw20_heads.f k).bind fun t233 => (some t233)) else (some false))))) else (some false)) = some r := H
      have A21 := sd_ A210
      clear A210
      by_cases c22 : t225 = true
      ·subst c22
       have H1 : ((dots_Row.f k a3 a4 a2).bind fun t226 => ((neumeref20_Row.f k a3 a4 a2).bind fun t229 => ((neumeref18_Numbers.f k t226 t229).bind fun t232 => (if t232 = true then ((neumelaw20_heads.f k).bind fun t233 => (some t233)) else (some false))))) = some r := by rw [if_pos rfl] at H; exact H
       clear H; have H := H1; clear H1
       replace H := ob_ H
       obtain ⟨t226, A230, H⟩ := H
       replace H : ((neumeref20_Row.f k a3 a4 a2).bind fun t229 => ((neumeref18_Numbers.f k t226 t229).bind fun t232 => (if t232 = true then ((neumelaw20_heads.f k).bind fun t233 => (some t233)) else (some false)))) = some r := H
       have A23 := sd_ A230
       clear A230
       replace H := ob_ H
       obtain ⟨t229, A240, H⟩ := H
       replace H : ((neumeref18_Numbers.f k t226 t229).bind fun t232 => (if t232 = true then ((neumelaw20_heads.f k).bind fun t233 => (some t233)) else (some false))) = some r := H
       have A24 := sd_ A240
       clear A240
       replace H := ob_ H
       obtain ⟨t232, A250, H⟩ := H
       replace H : (if t232 = true then ((neumelaw20_heads.f k).bind fun t233 => (some t233)) else (some false)) = some r := H
       have A25 := sd_ A250
       clear A250
       by_cases c26 : t232 = true
       ·subst c26
        have H1 : ((neumelaw20_heads.f k).bind fun t233 => (some t233)) = some r := by rw [if_pos rfl] at H; exact H
        clear H; have H := H1; clear H1
        replace H := ob_ H
        obtain ⟨t233, A270, H⟩ := H
        replace H : (some t233) = some r := H
        have A27 := sd_ A270
        clear A270
        obtain rfl := Option.some.inj H
        go_enter Try.func3, Try.ntmps3
        go_wp2_with (first | ((with_reducible refine gate_dst (N := 6) rfl ?_); refine box_event ?hg (N := 6) ?hd (cs := #[.int .i64 a1_0, .int .i64 a1_1]) (t := 24) ?hr ?_; (case hd => rfl); (case hg => rfl); (case hr => first | (go_simp; done) | (go_simp; rfl)); intro gb204 hg w28 hbox hb; have BK204 := sd_ hbox; have GW204 := gw_ HB e0_ hg; have GE204 := GW204; replace HB := hb_ HB e0_ hb; clear hb hbox hg) | ((with_reducible refine gate_callee (f := 7) rfl ?_); refine goesL_ (some 25) rfl rfl Try.func7 (by kernel_rfl) rfl #[.slice A0 l0.length c0] rfl (by (try simp only [lm_, lq_, lx_]); first | done | rfl | (simp only [ld_, lt_]; rfl)) ?_; (with_reducible refine (dots_Dots.calls k _ _ l0 t206 t207 _ ?side1 ?side2 A10.out).mono ?_); (case side1 => repeat (first | exact (Kd.C_below HR0.out HB.out) | (with_reducible refine Kd.C_alloc ?_ _) | (with_reducible refine Kd.C_drewN ?_ _) | (with_reducible refine Kd.C_drew ?_))); (case side2 => exact HC0.out); rintro e w29 ⟨v208, rfl, ho0, hb⟩; refine ⟨_, rfl, ?_⟩; have HO209 := sd_ (Kd.R_lower ho0 (bz_ (bb_ HB.out (e_ GE204 e0_)))); replace BK204 := kb_ BK204 hb; replace HB := hb_ HB (e_ GE204 e0_) hb; (try clear hb); (try clear hb2); (try clear hk); (try clear hi); (try clear ho0)) | ((with_reducible refine gate_callee (f := 8) rfl ?_); refine goesL_ (some 30) rfl rfl Try.func8 (by kernel_rfl) rfl #[.slice A0 l0.length c0] rfl (by (try simp only [lm_, lq_, lx_]); first | done | rfl | (simp only [ld_, lt_]; rfl)) ?_; (with_reducible refine (neumeref20_Dots.calls k _ _ l0 t210 t211 _ ?side1 ?side2 A11.out).mono ?_); (case side1 => repeat (first | exact (Kd.C_below HR0.out HB.out) | (with_reducible refine Kd.C_alloc ?_ _) | (with_reducible refine Kd.C_drewN ?_ _) | (with_reducible refine Kd.C_drew ?_))); (case side2 => exact HC0.out); rintro e w30 ⟨v212, rfl, ho0, hb⟩; refine ⟨_, rfl, ?_⟩; have HO213 := sd_ (Kd.R_lower (Kd.R_new' ho0 (Kd.R_lt (by (with_reducible repeat (first | apply Kd.R_alloc | apply Kd.R_drewN | apply Kd.R_drew)); exact HO209.out))) (bz_ (bb_ HB.out (e_ GE204 e0_)))); replace HO209 := sd_ (Kd.R_elder' (by (with_reducible repeat (first | apply Kd.R_alloc | apply Kd.R_drewN | apply Kd.R_drew)); exact HO209.out) (Kd.R_base ho0) hb); replace BK204 := kb_ BK204 hb; replace HB := hb_ HB (e_ GE204 e0_) hb; (try clear hb); (try clear hb2); (try clear hk); (try clear hi); (try clear ho0); have hcz31_0 : w30.cell? ⟨gb204, 0, none⟩ = some (.int .i64 a1_0) := (kc_ BK204.out 0).trans rfl; have hcz31_1 : w30.cell? ⟨gb204, 1, none⟩ = some (.int .i64 a1_1) := (kc_ BK204.out 1).trans rfl; have hfz31_0 := kf_ BK204.out 0; have hfz31_1 := kf_ BK204.out 1) | ((with_reducible refine gate_callee (f := 9) rfl ?_); refine goesL_ (some 37) rfl rfl Try.func9 (by kernel_rfl) rfl #[.agg #[.int .i64 a1_0, .int .i64 a1_1], .bool a2, .int .i64 a3] rfl (by (try simp only [lm_, lq_, lx_]); first | done | rfl | (simp only [ld_, lt_]; rfl)) ?_; (with_reducible refine (dots_Rest.calls k a1_0 a1_1 a2 a3 t214 t215 _ A12.out).mono ?_); rintro e w32 ⟨rfl, hb⟩; refine ⟨_, rfl, ?_⟩; replace HO209 := sd_ (Kd.R_below (by (with_reducible repeat (first | apply Kd.R_alloc | apply Kd.R_drewN | apply Kd.R_drew)); exact HO209.out) hb); replace HO213 := sd_ (Kd.R_below (by (with_reducible repeat (first | apply Kd.R_alloc | apply Kd.R_drewN | apply Kd.R_drew)); exact HO213.out) hb); replace BK204 := kb_ BK204 hb; replace HB := hb_ HB (e_ GE204 e0_) hb; (try clear hb); (try clear hb2); (try clear hk); (try clear hi); have hcz33_0 : w32.cell? ⟨gb204, 0, none⟩ = some (.int .i64 a1_0) := (kc_ BK204.out 0).trans rfl; have hcz33_1 : w32.cell? ⟨gb204, 1, none⟩ = some (.int .i64 a1_1) := (kc_ BK204.out 1).trans rfl; have hfz33_0 := kf_ BK204.out 0; have hfz33_1 := kf_ BK204.out 1) | ((with_reducible refine gate_callee (f := 10) rfl ?_); refine goesL_ (some 44) rfl rfl Try.func10 (by kernel_rfl) rfl #[.agg #[.int .i64 a1_0, .int .i64 a1_1], .bool a2, .int .i64 a3] rfl (by (try simp only [lm_, lq_, lx_]); first | done | rfl | (simp only [ld_, lt_]; rfl)) ?_; (with_reducible refine (neumeref20_Rest.calls k a1_0 a1_1 a2 a3 t216 t217 _ A13.out).mono ?_); rintro e w34 ⟨rfl, hb⟩; refine ⟨_, rfl, ?_⟩; replace HO209 := sd_ (Kd.R_below (by (with_reducible repeat (first | apply Kd.R_alloc | apply Kd.R_drewN | apply Kd.R_drew)); exact HO209.out) hb); replace HO213 := sd_ (Kd.R_below (by (with_reducible repeat (first | apply Kd.R_alloc | apply Kd.R_drewN | apply Kd.R_drew)); exact HO213.out) hb); replace BK204 := kb_ BK204 hb; replace HB := hb_ HB (e_ GE204 e0_) hb; (try clear hb); (try clear hb2); (try clear hk); (try clear hi); obtain ⟨Ao35, co35, eo35⟩ := Kd.R_slice HO209.out; subst eo35; obtain ⟨Ao36, co36, eo36⟩ := Kd.R_slice HO213.out; subst eo36) | ((with_reducible refine gate_callee (f := 11) rfl ?_); refine goesL_ (some 49) rfl rfl Try.func11 (by kernel_rfl) rfl #[.slice Ao35 t206.length co35, .slice Ao36 t210.length co36] rfl (by (try simp only [lm_, lq_, lx_]); first | done | rfl | (simp only [ld_, lt_]; rfl)) ?_; (with_reducible refine (neumeref18_Numbers.calls k _ _ t206 _ _ t210 true _ ?side1 ?side2 ?side3 ?side4 A14.out).mono ?_); (case side1 => repeat (first | exact (Kd.R_reads' HO209.out).2.2 | (with_reducible refine Kd.C_alloc ?_ _) | (with_reducible refine Kd.C_drewN ?_ _) | (with_reducible refine Kd.C_drew ?_))); (case side2 => exact (Kd.R_reads' HO209.out).2.1); (case side3 => repeat (first | exact (Kd.R_reads' HO213.out).2.2 | (with_reducible refine Kd.C_alloc ?_ _) | (with_reducible refine Kd.C_drewN ?_ _) | (with_reducible refine Kd.C_drew ?_))); (case side4 => exact (Kd.R_reads' HO213.out).2.1); rintro e w' ⟨rfl, ⟨nd, rfl⟩⟩; refine ⟨_, rfl, ?_⟩) | (go_at_call 12; (with_reducible refine (dots_Ledgers.calls k _ _ l0 t219 _ ?side1 ?side2 A19.out).mono ?_); (case side1 => repeat (first | exact (Kd.C_below HR0.out (bb_ HB.out (e_ GE204 e0_))) | (with_reducible refine Kd.C_alloc ?_ _) | (with_reducible refine Kd.C_drewN ?_ _) | (with_reducible refine Kd.C_drew ?_))); (case side2 => exact HC0.out); rintro e w37 ⟨v220, rfl, ho0, hb⟩; have HO221 := sd_ (Kd.R_lower (Kd.R_new' (Kd.R_new' ho0 (Kd.R_lt (by (with_reducible repeat (first | apply Kd.R_alloc | apply Kd.R_drewN | apply Kd.R_drew)); exact HO209.out))) (Kd.R_lt (by (with_reducible repeat (first | apply Kd.R_alloc | apply Kd.R_drewN | apply Kd.R_drew)); exact HO213.out))) (bz_ (bb_ HB.out (e_ GE204 e0_)))); replace HO209 := sd_ (Kd.R_elder' (by (with_reducible repeat (first | apply Kd.R_alloc | apply Kd.R_drewN | apply Kd.R_drew)); exact HO209.out) (Kd.R_base ho0) hb); replace HO213 := sd_ (Kd.R_elder' (by (with_reducible repeat (first | apply Kd.R_alloc | apply Kd.R_drewN | apply Kd.R_drew)); exact HO213.out) (Kd.R_base ho0) hb); replace BK204 := kb_ BK204 hb; replace HB := hb_ HB (e_ GE204 e0_) hb; (try clear hb); (try clear hb2); (try clear hk); (try clear hi); (try clear ho0)) | (go_at_call 13; (with_reducible refine (neumeref20_Ledgers.calls k _ _ l0 t222 _ ?side1 ?side2 A20.out).mono ?_); (case side1 => repeat (first | exact (Kd.C_below HR0.out HB.out) | (with_reducible refine Kd.C_alloc ?_ _) | (with_reducible refine Kd.C_drewN ?_ _) | (with_reducible refine Kd.C_drew ?_))); (case side2 => exact HC0.out); rintro e w38 ⟨v223, rfl, ho0, hb⟩; have HO224 := sd_ (Kd.R_lower (Kd.R_new' (Kd.R_new' (Kd.R_new' ho0 (Kd.R_lt (by (with_reducible repeat (first | apply Kd.R_alloc | apply Kd.R_drewN | apply Kd.R_drew)); exact HO209.out))) (Kd.R_lt (by (with_reducible repeat (first | apply Kd.R_alloc | apply Kd.R_drewN | apply Kd.R_drew)); exact HO213.out))) (Kd.R_lt (by (with_reducible repeat (first | apply Kd.R_alloc | apply Kd.R_drewN | apply Kd.R_drew)); exact HO221.out))) (bz_ (bb_ HB.out (e_ GE204 e0_)))); replace HO209 := sd_ (Kd.R_elder' (by (with_reducible repeat (first | apply Kd.R_alloc | apply Kd.R_drewN | apply Kd.R_drew)); exact HO209.out) (Kd.R_base ho0) hb); replace HO213 := sd_ (Kd.R_elder' (by (with_reducible repeat (first | apply Kd.R_alloc | apply Kd.R_drewN | apply Kd.R_drew)); exact HO213.out) (Kd.R_base ho0) hb); replace HO221 := sd_ (Kd.R_elder' (by (with_reducible repeat (first | apply Kd.R_alloc | apply Kd.R_drewN | apply Kd.R_drew)); exact HO221.out) (Kd.R_base ho0) hb); replace BK204 := kb_ BK204 hb; replace HB := hb_ HB (e_ GE204 e0_) hb; (try clear hb); (try clear hb2); (try clear hk); (try clear hi); (try clear ho0); obtain ⟨Ao39, co39, eo39⟩ := Kd.R_slice HO221.out; subst eo39; obtain ⟨Ao40, co40, eo40⟩ := Kd.R_slice HO224.out; subst eo40) | (go_at_call 11; (with_reducible refine (neumeref18_Numbers.calls k _ _ t219 _ _ t222 true _ ?side1 ?side2 ?side3 ?side4 A21.out).mono ?_); (case side1 => repeat (first | exact (Kd.R_reads' HO221.out).2.2 | (with_reducible refine Kd.C_alloc ?_ _) | (with_reducible refine Kd.C_drewN ?_ _) | (with_reducible refine Kd.C_drew ?_))); (case side2 => exact (Kd.R_reads' HO221.out).2.1); (case side3 => repeat (first | exact (Kd.R_reads' HO224.out).2.2 | (with_reducible refine Kd.C_alloc ?_ _) | (with_reducible refine Kd.C_drewN ?_ _) | (with_reducible refine Kd.C_drew ?_))); (case side4 => exact (Kd.R_reads' HO224.out).2.1); rintro e w' ⟨rfl, ⟨nd, rfl⟩⟩) | (go_at_call 14; (with_reducible refine (dots_Row.calls k a3 a4 a2 t226 _ A23.out).mono ?_); rintro e w41 ⟨v227, rfl, ho0, hb⟩; have HO228 := sd_ (Kd.R_lower (Kd.R_new' (Kd.R_new' (Kd.R_new' (Kd.R_new' ho0 (Kd.R_lt (by (with_reducible repeat (first | apply Kd.R_alloc | apply Kd.R_drewN | apply Kd.R_drew)); exact HO209.out))) (Kd.R_lt (by (with_reducible repeat (first | apply Kd.R_alloc | apply Kd.R_drewN | apply Kd.R_drew)); exact HO213.out))) (Kd.R_lt (by (with_reducible repeat (first | apply Kd.R_alloc | apply Kd.R_drewN | apply Kd.R_drew)); exact HO221.out))) (Kd.R_lt (by (with_reducible repeat (first | apply Kd.R_alloc | apply Kd.R_drewN | apply Kd.R_drew)); exact HO224.out))) (bz_ (bb_ HB.out (e_ GE204 e0_)))); replace HO209 := sd_ (Kd.R_elder' (by (with_reducible repeat (first | apply Kd.R_alloc | apply Kd.R_drewN | apply Kd.R_drew)); exact HO209.out) (Kd.R_base ho0) hb); replace HO213 := sd_ (Kd.R_elder' (by (with_reducible repeat (first | apply Kd.R_alloc | apply Kd.R_drewN | apply Kd.R_drew)); exact HO213.out) (Kd.R_base ho0) hb); replace HO221 := sd_ (Kd.R_elder' (by (with_reducible repeat (first | apply Kd.R_alloc | apply Kd.R_drewN | apply Kd.R_drew)); exact HO221.out) (Kd.R_base ho0) hb); replace HO224 := sd_ (Kd.R_elder' (by (with_reducible repeat (first | apply Kd.R_alloc | apply Kd.R_drewN | apply Kd.R_drew)); exact HO224.out) (Kd.R_base ho0) hb); replace BK204 := kb_ BK204 hb; replace HB := hb_ HB (e_ GE204 e0_) hb; (try clear hb); (try clear hb2); (try clear hk); (try clear hi); (try clear ho0)) | (go_at_call 15; (with_reducible refine (neumeref20_Row.calls k a3 a4 a2 t229 _ A24.out).mono ?_); rintro e w42 ⟨v230, rfl, ho0, hb⟩; have HO231 := sd_ (Kd.R_lower (Kd.R_new' (Kd.R_new' (Kd.R_new' (Kd.R_new' (Kd.R_new' ho0 (Kd.R_lt (by (with_reducible repeat (first | apply Kd.R_alloc | apply Kd.R_drewN | apply Kd.R_drew)); exact HO209.out))) (Kd.R_lt (by (with_reducible repeat (first | apply Kd.R_alloc | apply Kd.R_drewN | apply Kd.R_drew)); exact HO213.out))) (Kd.R_lt (by (with_reducible repeat (first | apply Kd.R_alloc | apply Kd.R_drewN | apply Kd.R_drew)); exact HO221.out))) (Kd.R_lt (by (with_reducible repeat (first | apply Kd.R_alloc | apply Kd.R_drewN | apply Kd.R_drew)); exact HO224.out))) (Kd.R_lt (by (with_reducible repeat (first | apply Kd.R_alloc | apply Kd.R_drewN | apply Kd.R_drew)); exact HO228.out))) (bz_ (bb_ HB.out (e_ GE204 e0_)))); replace HO209 := sd_ (Kd.R_elder' (by (with_reducible repeat (first | apply Kd.R_alloc | apply Kd.R_drewN | apply Kd.R_drew)); exact HO209.out) (Kd.R_base ho0) hb); replace HO213 := sd_ (Kd.R_elder' (by (with_reducible repeat (first | apply Kd.R_alloc | apply Kd.R_drewN | apply Kd.R_drew)); exact HO213.out) (Kd.R_base ho0) hb); replace HO221 := sd_ (Kd.R_elder' (by (with_reducible repeat (first | apply Kd.R_alloc | apply Kd.R_drewN | apply Kd.R_drew)); exact HO221.out) (Kd.R_base ho0) hb); replace HO224 := sd_ (Kd.R_elder' (by (with_reducible repeat (first | apply Kd.R_alloc | apply Kd.R_drewN | apply Kd.R_drew)); exact HO224.out) (Kd.R_base ho0) hb); replace HO228 := sd_ (Kd.R_elder' (by (with_reducible repeat (first | apply Kd.R_alloc | apply Kd.R_drewN | apply Kd.R_drew)); exact HO228.out) (Kd.R_base ho0) hb); replace BK204 := kb_ BK204 hb; replace HB := hb_ HB (e_ GE204 e0_) hb; (try clear hb); (try clear hb2); (try clear hk); (try clear hi); (try clear ho0); obtain ⟨Ao43, co43, eo43⟩ := Kd.R_slice HO228.out; subst eo43; obtain ⟨Ao44, co44, eo44⟩ := Kd.R_slice HO231.out; subst eo44) | (go_at_call 11; (with_reducible refine (neumeref18_Numbers.calls k _ _ t226 _ _ t229 true _ ?side1 ?side2 ?side3 ?side4 A25.out).mono ?_); (case side1 => repeat (first | exact (Kd.R_reads' HO228.out).2.2 | (with_reducible refine Kd.C_alloc ?_ _) | (with_reducible refine Kd.C_drewN ?_ _) | (with_reducible refine Kd.C_drew ?_))); (case side2 => exact (Kd.R_reads' HO228.out).2.1); (case side3 => repeat (first | exact (Kd.R_reads' HO231.out).2.2 | (with_reducible refine Kd.C_alloc ?_ _) | (with_reducible refine Kd.C_drewN ?_ _) | (with_reducible refine Kd.C_drew ?_))); (case side4 => exact (Kd.R_reads' HO231.out).2.1); rintro e w' ⟨rfl, ⟨nd, rfl⟩⟩) | (go_at_call 6; (with_reducible refine (neumelaw20_heads.calls k  t233 _ A27.out).mono ?_); rintro e w45 ⟨rfl, hb⟩; replace HO209 := sd_ (Kd.R_below (by (with_reducible repeat (first | apply Kd.R_alloc | apply Kd.R_drewN | apply Kd.R_drew)); exact HO209.out) hb); replace HO213 := sd_ (Kd.R_below (by (with_reducible repeat (first | apply Kd.R_alloc | apply Kd.R_drewN | apply Kd.R_drew)); exact HO213.out) hb); replace HO221 := sd_ (Kd.R_below (by (with_reducible repeat (first | apply Kd.R_alloc | apply Kd.R_drewN | apply Kd.R_drew)); exact HO221.out) hb); replace HO224 := sd_ (Kd.R_below (by (with_reducible repeat (first | apply Kd.R_alloc | apply Kd.R_drewN | apply Kd.R_drew)); exact HO224.out) hb); replace HO228 := sd_ (Kd.R_below (by (with_reducible repeat (first | apply Kd.R_alloc | apply Kd.R_drewN | apply Kd.R_drew)); exact HO228.out) hb); replace HO231 := sd_ (Kd.R_below (by (with_reducible repeat (first | apply Kd.R_alloc | apply Kd.R_drewN | apply Kd.R_drew)); exact HO231.out) hb); replace BK204 := kb_ BK204 hb; replace HB := hb_ HB (e_ GE204 e0_) hb; (try clear hb); (try clear hb2); (try clear hk); (try clear hi)))
        go_ret
        exact ⟨by first | rfl | (simp [errW_none, errW_some] <;> rfl) | (simp [*, errW_none, errW_some] <;> rfl), by repeat (first | (with_reducible first | exact HB.out | apply ba_ | apply pd_ | apply d1_ | refine bs_ ?_ GE204.out) | exact HB.out)⟩
       ·replace c26 := bf_ c26
        subst c26
        have H1 : (some false) = some r := by rw [if_neg (show ¬ (false = true) by decide)] at H; exact H
        clear H; have H := H1; clear H1
        exact absurd ((Option.some.inj H).trans hxt.out) (by decide)
      ·replace c22 := bf_ c22
       subst c22
       have H1 : (some false) = some r := by rw [if_neg (show ¬ (false = true) by decide)] at H; exact H
       clear H; have H := H1; clear H1
       exact absurd ((Option.some.inj H).trans hxt.out) (by decide)
     ·rw [if_neg c18] at H
      have c18b0 : (t215 == t217) = false := beq_eq_false_iff_ne.mpr c18
      have c18b1 : (t215 != t217) = true := bne_iff_ne.mpr c18
      exact absurd ((Option.some.inj H).trans hxt.out) (by decide)
    ·rw [if_neg c17] at H
     have c17b0 : (t214 == t216) = false := beq_eq_false_iff_ne.mpr c17
     have c17b1 : (t214 != t216) = true := bne_iff_ne.mpr c17
     exact absurd ((Option.some.inj H).trans hxt.out) (by decide)
   ·rw [if_neg c16] at H
    have c16b0 : (t207 == t211) = false := beq_eq_false_iff_ne.mpr c16
    have c16b1 : (t207 != t211) = true := bne_iff_ne.mpr c16
    exact absurd ((Option.some.inj H).trans hxt.out) (by decide)
  ·replace c15 := bf_ c15
   subst c15
   have H1 : (some false) = some r := by rw [if_neg (show ¬ (false = true) by decide)] at H; exact H
   clear H; have H := H1; clear H1
   exact absurd ((Option.some.inj H).trans hxt.out) (by decide)

end Go.Proofs.Ytochpedmjpidkaa.P
