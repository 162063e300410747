-- Written by a program of this session (wip/tools/xprint.py, over the kit's print): Lean checks it.
import Derived.Test.YtmffjjncnbeldaaDoorPx0
import Derived.Test.YtmffjjncnbeldaaDoorPx1
import Derived.Test.YtmffjjncnbeldaaDoorPx2
import Derived.Test.YtmffjjncnbeldaaDoorPx3
import Derived.Test.YtmffjjncnbeldaaDoorPx4
import Derived.Test.YtmffjjncnbeldaaDoorPx6
import Derived.Test.YtmffjjncnbeldaaDoorPx7
import Derived.Test.YtmffjjncnbeldaaDoorPx9
namespace Go.Proofs.YtmffjjncnbeldaaDoor.P
open Go.RowKit Go.Proofs.YtmffjjncnbeldaaDoorW.PrintWords Go.Proofs.YtmffjjncnbeldaaDoorW.PrintLast Go.Proofs.YtmffjjncnbeldaaDoorW.PrintMore
attribute [local go_sem] max2_int min2_int max_two min_two max_three min_three max_four min_four   -- for this text's walks alone
set_option linter.unusedVariables false
set_option linter.unusedSimpArgs false

attribute [local go_sem high] eqA26 eqA34
/-! ### neumeref08_Scan: function 10 -/
def neumeref08_Scan.l0 : Nat → ByteArray → List (S34) → Int → Option ((List (S34)) × Int × Int)
 | 0, _, _, _ => none
 | k + 1, x0, x4, x5 => if x5 < (x0.size : Int) then ((neumeref08_next.f k x0 x5).bind fun bt240 => (if bt240.2.2.1 = 0 then (if 0 ≤ x5 then (if x5 ≤ bt240.2.1 then (if bt240.2.1 ≤ (x0.size : Int) then (if bt240.1 = 5 then (if 0 ≤ (wrap64 (x5 + 1)) then (if (wrap64 (x5 + 1)) ≤ (wrap64 (bt240.2.1 - 1)) then (if (wrap64 (bt240.2.1 - 1)) ≤ (x0.size : Int) then (if x4.length < 4398046511104 then ((neumeref08_skip.f k x0 bt240.2.1).bind fun t248 => (neumeref08_Scan.l0 k x0 (x4 ++ [(⟨bt240.1, x0.extract ((wrap64 (x5 + 1)) : Int).toNat ((wrap64 (bt240.2.1 - 1)) : Int).toNat, x5⟩ : S34)]) t248)) else (none)) else (none)) else (none)) else (none)) else (if x4.length < 4398046511104 then ((neumeref08_skip.f k x0 bt240.2.1).bind fun t252 => (neumeref08_Scan.l0 k x0 (x4 ++ [(⟨bt240.1, x0.extract (x5 : Int).toNat (bt240.2.1 : Int).toNat, x5⟩ : S34)]) t252)) else (none))) else (none)) else (none)) else (none)) else (some (([] : List (S34)), bt240.2.2.1, bt240.2.2.2)))) else (if x4.length < 4398046511104 then (some ((x4 ++ [(⟨8, (⟨#[]⟩ : ByteArray), (x0.size : Int)⟩ : S34)]), 0, 0)) else (none))
def neumeref08_Scan.f (k : Nat) (a0 : ByteArray) : Option ((List (S34)) × Int × Int) := if (a0.size : Int) > 65536 then ((neumeref08_fault.f 4 65536).bind fun bt234 => (some (([] : List (S34)), bt234.1, bt234.2))) else ((neumeref08_skip.f k a0 0).bind fun t236 => (neumeref08_Scan.l0 k a0 ([] : List (S34)) t236))
theorem neumeref08_Scan.mono_l : ∀ k, (∀ y0 y1 y2, LeO (neumeref08_Scan.l0 k y0 y1 y2) (neumeref08_Scan.l0 (k + 1) y0 y1 y2))
 | 0 => fun _ _ _ r h => by simp [neumeref08_Scan.l0] at h
 | k + 1 => by
  have ih0 := neumeref08_Scan.mono_l k
  ·intro y0 y1 y2
   unfold neumeref08_Scan.l0
   repeat' first
   | (with_reducible exact ih0 _ _ _)
   | (with_reducible exact neumeref08_next.mono _ _ _)
   | (with_reducible exact neumeref08_skip.mono _ _ _)
   | (with_reducible exact LeO.refl _)
   | (with_reducible exact LeO.none _)
   | (with_reducible refine LeO.ite ?_ ?_)
   | (with_reducible refine LeO.bind ?_ (fun _ => ?_))
   | exact ih0 _ _ _
   | exact neumeref08_next.mono _ _ _
   | exact neumeref08_skip.mono _ _ _
   | exact LeO.none _
   | refine LeO.ite ?_ ?_
   | refine LeO.bind ?_ (fun _ => ?_)
theorem neumeref08_Scan.mono : ∀ a0 k, LeO (neumeref08_Scan.f k a0) (neumeref08_Scan.f (k + 1) a0) := by
 intro a0 k
 have ih0 := neumeref08_Scan.mono_l k
 unfold neumeref08_Scan.f
 repeat' first
   | (with_reducible exact ih0 _ _ _)
   | (with_reducible exact neumeref08_next.mono _ _ _)
   | (with_reducible exact neumeref08_skip.mono _ _ _)
   | (with_reducible exact LeO.refl _)
   | (with_reducible exact LeO.none _)
   | (with_reducible refine LeO.ite ?_ ?_)
   | (with_reducible refine LeO.bind ?_ (fun _ => ?_))
   | exact ih0 _ _ _
   | exact neumeref08_next.mono _ _ _
   | exact neumeref08_skip.mono _ _ _
   | exact LeO.none _
   | refine LeO.ite ?_ ?_
   | refine LeO.bind ?_ (fun _ => ?_)
set_option maxHeartbeats 8000000 in
set_option maxRecDepth 100000 in
theorem neumeref08_Scan.calls (k : Nat) (a0 : ByteArray) (r1 : List (S34)) (r2 : Int) (r3 : Int) (w : World) (h : neumeref08_Scan.f k a0 = some (r1, r2, r3)) :
  Calls Tryd.prog 10 #[.string a0] w fun e w' => ∃ v0_ : Value, e = .returned (.tuple #[v0_, .agg #[.int .i64 r2, .int .i64 r3]]) ∧ Kd.R k34 34 w' w.heap.size (fun _ => True) v0_ r1 ∧ Below w.heap.size w w' := by
 have hu26 := Tryd.underlying26
 have hu34 := Tryd.underlying34
 have HB := sd_ (Below.refl w.heap.size w)
 have H : (if (a0.size : Int) > 65536 then ((neumeref08_fault.f 4 65536).bind fun bt234 => (some (([] : List (S34)), bt234.1, bt234.2))) else ((neumeref08_skip.f k a0 0).bind fun t236 => (neumeref08_Scan.l0 k a0 ([] : List (S34)) t236))) = some (r1, r2, r3) := h
 clear h
 by_cases c2 : (a0.size : Int) > 65536
 ·rw [if_pos c2] at H
  have c2b0 : decide (65536 < (a0.size : Int)) = true := dt_ c2
  have c2b1 : decide (65536 < a0.size) = true := dt_ (by omega)
  clear c2
  replace H := ob_ H
  obtain ⟨⟨t234, t235⟩, A30, H⟩ := H
  replace H : (some (([] : List (S34)), t234, t235)) = some (r1, r2, r3) := H
  have A3 := sd_ A30
  clear A30
  simp only [Option.some.injEq, Prod.mk.injEq] at H
  obtain ⟨rfl, rfl, rfl⟩ := H
  go_enter Tryd.func10, Tryd.ntmps10
  go_wp2_with (first | ((with_reducible refine gate_dst (N := 3) rfl ?_); refine box_event ?hg (N := 3) ?hd (cs := #[.int .i64 0, .int .i64 0]) (t := 26) ?hr ?_; (case hd => rfl); (case hg => rfl); (case hr => first | (go_simp; done) | (go_simp; rfl)); intro gb233 hg w4 hbox hb; have BK233 := sd_ hbox; have GW233 := gw_ HB e0_ hg; have GE233 := GW233; replace HB := hb_ HB e0_ hb; clear hb hbox hg) | ((with_reducible refine gate_callee (f := 22) rfl ?_); refine goesL_ (some 13) rfl rfl Tryd.func22 (by kernel_rfl) rfl #[.int .i64 4, .int .i64 65536] rfl (by (try simp only [lm_, lq_, lx_]); first | done | rfl | (simp only [ld_, lt_]; rfl)) ?_; (with_reducible refine (neumeref08_fault.calls 4 65536 t234 t235 _ A3.out).mono ?_); rintro e w5 ⟨rfl, hb⟩; refine ⟨_, rfl, ?_⟩; replace BK233 := kb_ BK233 hb; replace HB := hb_ HB (e_ GE233 e0_) hb; (try clear hb); (try clear hb2); (try clear hk); (try clear hi); have hcz6_0 : w5.cell? ⟨gb233, 0, none⟩ = some (.int .i64 0) := (kc_ BK233.out 0).trans rfl; have hcz6_1 : w5.cell? ⟨gb233, 1, none⟩ = some (.int .i64 0) := (kc_ BK233.out 1).trans rfl; have hfz6_0 := kf_ BK233.out 0; have hfz6_1 := kf_ BK233.out 1))
  refine bodyPost_ret (results_tc rfl _ _ gb233 26 #[.int .i64 t234, .int .i64 t235] (0, 0) _ rfl (by (with_reducible repeat first | apply kn_ | apply kd_ | apply ka_); refine blk_put (cs := #[.int .i64 t234, .int .i64 0]) ?_ 1 _ rfl; (with_reducible repeat first | apply kn_ | apply kd_ | apply ka_); refine blk_put (cs := #[.int .i64 0, .int .i64 0]) ?_ 0 _ rfl; (with_reducible repeat first | apply kn_ | apply kd_ | apply ka_); exact BK233.out) Tryd.underlying26 rfl (by kernel_rfl)) rfl ?_
  exact ⟨_, by first | rfl | (simp [errW_none, errW_some] <;> rfl) | (simp [*, errW_none, errW_some] <;> rfl), by first | exact Kd.R_nil _ _ _ _ _ | exact Kd.N_nil _ _ _ _ _ | exact Kd.V_nil _ _ _ _ _ | exact Kd.Q_nil _ _ _ _ _ | exact Kd.S_nil _ _ _ _ _, by repeat (first | (with_reducible first | exact HB.out | apply ba_ | apply pd_ | apply d1_ | refine bs_ ?_ GE233.out) | exact HB.out)⟩
 ·rw [if_neg c2] at H
  have c2b0 : decide (65536 < (a0.size : Int)) = false := df_ c2
  have c2b1 : decide (65536 < a0.size) = false := df_ (by omega)
  clear c2
  replace H := ob_ H
  obtain ⟨t236, A70, H⟩ := H
  replace H : (neumeref08_Scan.l0 k a0 ([] : List (S34)) t236) = some (r1, r2, r3) := H
  have A7 := sd_ A70
  clear A70
  have H' := sd_ H
  clear H
  go_enter Tryd.func10, Tryd.ntmps10
  go_wp2_with (first | ((with_reducible refine gate_dst (N := 3) rfl ?_); refine box_event ?hg (N := 3) ?hd (cs := #[.int .i64 0, .int .i64 0]) (t := 26) ?hr ?_; (case hd => rfl); (case hg => rfl); (case hr => first | (go_simp; done) | (go_simp; rfl)); intro gb233 hg w8 hbox hb; have BK233 := sd_ hbox; have GW233 := gw_ HB e0_ hg; have GE233 := GW233; replace HB := hb_ HB e0_ hb; clear hb hbox hg) | ((with_reducible refine gate_callee (f := 23) rfl ?_); refine goesL_ (some 15) rfl rfl Tryd.func23 (by kernel_rfl) rfl #[.string a0, .int .i64 0] rfl (by (try simp only [lm_, lq_, lx_]); first | done | rfl | (simp only [ld_, lt_]; rfl)) ?_; (with_reducible refine (neumeref08_skip.calls k a0 0 t236 _ A7.out).mono ?_); rintro e w' ⟨rfl, ⟨nd, rfl⟩⟩; refine ⟨_, rfl, ?_⟩))
  go_loopg [4, 5] k (fun kq v4 v5 w' => ∃ (x4_1 : List (S34)) (x5_1 : Int) (x234000_1 : Int) (x234001_1 : Int), v5 = .int .i64 x5_1 ∧ Aside0 (neumeref08_Scan.l0 kq a0 x4_1 x5_1 = some (r1, r2, r3)) ∧ Aside0 (kq ≤ k) ∧ Aside0 (Kd.R k34 34 w' w.heap.size (fun _ => True) v4 x4_1) ∧ Aside0 (w'.heap[gb233]? = some (.cells #[.int .i64 x234000_1, .int .i64 x234001_1] 26 (0, 0))) ∧ Aside0 (Below w.heap.size w w'))
  case atStart => exact ⟨(([] : List (S34))), (t236), (0), (0), (by first | rfl | (simp; done) | (simp [*]; done) | (simp [bne]; done)), H', ⟨Nat.le_refl _⟩, ⟨by first | exact Kd.R_nil _ _ _ _ _ | exact Kd.N_nil _ _ _ _ _ | exact Kd.V_nil _ _ _ _ _ | exact Kd.Q_nil _ _ _ _ _ | exact Kd.S_nil _ _ _ _ _⟩, ⟨by (with_reducible repeat first | apply kn_ | apply kd_ | apply ka_); exact BK233.out⟩, ⟨by repeat (first | (with_reducible first | exact HB.out | apply ba_ | apply pd_ | apply d1_ | refine bs_ ?_ GE233.out) | exact HB.out)⟩⟩
  case round =>
   clear H'
   try clear c1; try clear c2; try clear c2b0; try clear c2b1; try clear p2; try clear hcz6_0; try clear hcz6_1; try clear hfz6_0; try clear hfz6_1
   obtain ⟨x4_1, x5_1, x234000_1, x234001_1, rfl, HA, HK1, HO_4, BK233, HB⟩ := hrel
   cases gk with
   | zero => exact absurd HA.out (by simp [neumeref08_Scan.l0])
   | succ k1 =>
    have H := HA.out
    clear HA
    simp only [neumeref08_Scan.l0] at H
    by_cases c9 : x5_1 < (a0.size : Int)
    ·rw [if_pos c9] at H
     have c9b0 : decide (x5_1 < (a0.size : Int)) = true := dt_ c9
     clear c9
     replace H := ob_ H
     obtain ⟨⟨t240, t241, t242, t243⟩, A100, H⟩ := H
     replace H : (if t242 = 0 then (if 0 ≤ x5_1 then (if x5_1 ≤ t241 then (if t241 ≤ (a0.size : Int) then (if t240 = 5 then (if 0 ≤ (wrap64 (x5_1 + 1)) then (if (wrap64 (x5_1 + 1)) ≤ (wrap64 (t241 - 1)) then (if (wrap64 (t241 - 1)) ≤ (a0.size : Int) then (if x4_1.length < 4398046511104 then ((neumeref08_skip.f k1 a0 t241).bind fun t248 => (neumeref08_Scan.l0 k1 a0 (x4_1 ++ [(⟨t240, a0.extract ((wrap64 (x5_1 + 1)) : Int).toNat ((wrap64 (t241 - 1)) : Int).toNat, x5_1⟩ : S34)]) t248)) else (none)) else (none)) else (none)) else (none)) else (if x4_1.length < 4398046511104 then ((neumeref08_skip.f k1 a0 t241).bind fun t252 => (neumeref08_Scan.l0 k1 a0 (x4_1 ++ [(⟨t240, a0.extract (x5_1 : Int).toNat (t241 : Int).toNat, x5_1⟩ : S34)]) t252)) else (none))) else (none)) else (none)) else (none)) else (some (([] : List (S34)), t242, t243))) = some (r1, r2, r3) := H
     have A10 := sd_ A100
     clear A100
     by_cases c11 : t242 = 0
     ·rw [if_pos c11] at H
      have c11b0 : (t242 == 0) = true := beq_iff_eq.mpr c11
      have c11b1 : (t242 != 0) = false := bne_eq_false_iff_eq.mpr c11
      clear c11
      by_cases c12 : 0 ≤ x5_1
      ·rw [if_pos c12] at H
       have c12b0 := eq_true c12
       have c12b1 : decide (0 ≤ x5_1) = true := dt_ c12
       clear c12
       by_cases c13 : x5_1 ≤ t241
       ·rw [if_pos c13] at H
        have c13b0 := eq_true c13
        have c13b1 : decide (x5_1 ≤ t241) = true := dt_ c13
        clear c13
        by_cases c14 : t241 ≤ (a0.size : Int)
        ·rw [if_pos c14] at H
         have c14b0 := eq_true c14
         have c14b1 : decide (t241 ≤ (a0.size : Int)) = true := dt_ c14
         clear c14
         by_cases c15 : t240 = 5
         ·rw [if_pos c15] at H
          have c15b0 : (t240 == 5) = true := beq_iff_eq.mpr c15
          have c15b1 : (t240 != 5) = false := bne_eq_false_iff_eq.mpr c15
          clear c15
          obtain ⟨ji16, hji16⟩ : ∃ j_ : Int, (wrap64 (x5_1 + 1)) = j_ := ⟨_, rfl⟩
          replace H : (if 0 ≤ (ji16) then (if (ji16) ≤ (wrap64 (t241 - 1)) then (if (wrap64 (t241 - 1)) ≤ (a0.size : Int) then (if x4_1.length < 4398046511104 then ((neumeref08_skip.f k1 a0 t241).bind fun t248 => (neumeref08_Scan.l0 k1 a0 (x4_1 ++ [(⟨t240, a0.extract ((ji16) : Int).toNat ((wrap64 (t241 - 1)) : Int).toNat, x5_1⟩ : S34)]) t248)) else (none)) else (none)) else (none)) else (none)) = some (r1, r2, r3) := by first | (rw [hji16] at H; exact H) | (simp only [hji16] at H ⊢; exact H)
          (try rw [hji16] at A10)
          have hji16w : (IntKind.i64.wrap (x5_1 + 1)) = ji16 := (i64_w _).trans hji16
          by_cases c17 : 0 ≤ (ji16)
          ·rw [if_pos c17] at H
           have c17b0 := eq_true c17
           have c17b1 : decide (0 ≤ (ji16)) = true := dt_ c17
           clear c17
           by_cases c18 : (ji16) ≤ (wrap64 (t241 - 1))
           ·rw [if_pos c18] at H
            have c18b0 := eq_true c18
            have c18b1 : decide ((ji16) ≤ (wrap64 (t241 - 1))) = true := dt_ c18
            clear c18
            by_cases c19 : (wrap64 (t241 - 1)) ≤ (a0.size : Int)
            ·rw [if_pos c19] at H
             have c19b0 := eq_true c19
             have c19b1 : decide ((wrap64 (t241 - 1)) ≤ (a0.size : Int)) = true := dt_ c19
             clear c19
             by_cases c20 : x4_1.length < 4398046511104
             ·rw [if_pos c20] at H
              have LMc20 := sd_ c20
              clear c20
              obtain ⟨y245, hy245⟩ : ∃ y_ : List (S34), y_ = (x4_1 ++ [(⟨t240, a0.extract ((ji16) : Int).toNat ((wrap64 (t241 - 1)) : Int).toNat, x5_1⟩ : S34)]) := ⟨_, rfl⟩
              replace H : ((neumeref08_skip.f k1 a0 t241).bind fun t248 => (neumeref08_Scan.l0 k1 a0 y245 t248)) = some (r1, r2, r3) := by first | (rw [hy245]; with_reducible exact H) | (have H2_ := (Option.bind_some _ _).symm.trans H; rw [hy245]; with_reducible exact H2_) | (have H2_ := (Option.bind_some _ _).symm.trans H; with_reducible exact H2_) | with_reducible exact H | (rw [hy245]; exact H) | exact H
              have Ny245 := sd_ hy245
              clear hy245
              replace H := ob_ H
              obtain ⟨t248, A210, H⟩ := H
              replace H : (neumeref08_Scan.l0 k1 a0 y245 t248) = some (r1, r2, r3) := H
              have A21 := sd_ A210
              clear A210
              have H' := sd_ H
              clear H
              go_wp2_with (first | ((with_reducible refine gate_callee (f := 24) rfl ?_); refine goesL_ (some 23) rfl rfl Tryd.func24 (by kernel_rfl) rfl #[.string a0, .int .i64 x5_1] rfl (by (try simp only [lm_, lq_, lx_]); first | done | rfl | (simp only [ld_, lt_]; rfl) | ((conv => rhs; simp); rfl)) ?_; (with_reducible refine (neumeref08_next.calls k1 a0 x5_1 t240 t241 t242 t243 _ A10.out).mono ?_); rintro e w22 ⟨rfl, hb⟩; refine ⟨_, rfl, ?_⟩; replace HO_4 := sd_ (Kd.R_below (by (with_reducible repeat (first | apply Kd.R_alloc | apply Kd.R_drewN | apply Kd.R_drew)); exact HO_4.out) hb); replace BK233 := kb_ BK233 hb; replace HB := hb_ HB (e_ GE233 e0_) hb; (try clear hb); (try clear hb2); (try clear hk); (try clear hi)) | ((with_reducible refine gate_dst (N := 8) rfl ?_); refine box_event ?hg (N := 8) ?hd (cs := #[.int .i64 0, .int .i64 0]) (t := 26) ?hr ?_; (case hd => rfl); (case hg => rfl); (case hr => first | (go_simp; done) | (go_simp; rfl)); intro gb244 hg w23 hbox hb; have BK244 := sd_ hbox; have GW244 := gw_ HB (e_ GE233 e0_) hg; have GE244 := GW244; have NB233_244 := nb_ BK233 hg; have NB244_233 := sy_ NB233_244; replace HO_4 := sd_ (Kd.R_below (by (with_reducible repeat (first | apply Kd.R_alloc | apply Kd.R_drewN | apply Kd.R_drew)); exact HO_4.out) hb); replace BK233 := kb_ BK233 hb; replace HB := hb_ HB (e_ GE233 e0_) hb; clear hb hbox hg; have hnb24 := NB244_233.out; have hnc24 := NB233_244.out; have hcz25_0 : w23.cell? ⟨gb244, 0, none⟩ = some (.int .i64 0) := (kc_ BK244.out 0).trans rfl; have hcz25_1 : w23.cell? ⟨gb244, 1, none⟩ = some (.int .i64 0) := (kc_ BK244.out 1).trans rfl; have hfz25_0 := kf_ BK244.out 0; have hfz25_1 := kf_ BK244.out 1) | ((with_reducible refine gate_builtin (b := .append) (xs := #[.tmp 43, .tmp 48]) rfl ?_); at_builtin; refine Kd.R_append k34 (w0 := w) w.heap.size rfl (.tmp 43) (.tmp 48) 23 34 (.agg #[(.int .i64 0), (.string ⟨#[]⟩), (.int .i64 0)]) 32 rfl Tryd.underlying23 info34 rfl (by decide) (by omega) u4 x4_1 (⟨t240, a0.extract ((ji16) : Int).toNat ((wrap64 (t241 - 1)) : Int).toNat, x5_1⟩ : S34) [.int .i64 t240, .string (a0.extract ((ji16) : Int).toNat ((wrap64 (t241 - 1)) : Int).toNat), .int .i64 x5_1] (fun _ => True) (fun _ => False) rfl (by first | (go_simp; done) | (go_simp; rfl)) ?aP (fun _ hk => hk.elim) ?aF ?aO ?aB ?aS ?aL ?_; (case aP => exact k34_mkM _ _ _ (⟨t240, a0.extract ((ji16) : Int).toNat ((wrap64 (t241 - 1)) : Int).toNat, x5_1⟩ : S34)); (case aB => exact (bb_ HB.out (e_ GE233 (e_ GE244 e0_)))); (case aF => exact (fun _ _ => trivial)); (case aO => exact (by (with_reducible repeat (first | apply Kd.R_alloc | apply Kd.R_drewN | apply Kd.R_drew)); exact Kd.R_mono (Kd.R_far (p := ⟨gb244, 1, none⟩) (Kd.R_far (p := ⟨gb244, 0, none⟩) (Kd.R_types HO_4.out BK244.out (by decide)) (fun _ hk => hk.2) (.int .i64 t242)) (fun _ hk => hk.2) (.int .i64 t243)) (fun _ hk => trivial))); (case aS => exact (bz_ (bb_ HB.out (e_ GE233 (e_ GE244 e0_))))); (case aL => have := LMc20.out; omega); intro v246 w26 ho hb hg hat; rw [← Ny245.out] at ho; have n0_ := sd_ (blk_grown (g := gb233) (o := .cells #[.int .i64 x234000_1, .int .i64 x234001_1] 26 (0, 0)) (by (with_reducible repeat first | apply kn_ | apply kd_ | apply ka_); refine blk_far ?_ NB233_244.out _; (with_reducible repeat first | apply kn_ | apply kd_ | apply ka_); refine blk_far ?_ NB233_244.out _; (with_reducible repeat first | apply kn_ | apply kd_ | apply ka_); exact BK233.out) hg (Kd.R_ne HO_4.out BK233.out (by decide))); have n1_ := sd_ (blk_grown (g := gb244) (o := .cells #[.int .i64 t242, .int .i64 t243] 26 (0, 0)) (by (with_reducible repeat first | apply kn_ | apply kd_ | apply ka_); refine blk_put (cs := #[.int .i64 t242, .int .i64 0]) ?_ 1 _ rfl; (with_reducible repeat first | apply kn_ | apply kd_ | apply ka_); refine blk_put (cs := #[.int .i64 0, .int .i64 0]) ?_ 0 _ rfl; (with_reducible repeat first | apply kn_ | apply kd_ | apply ka_); exact BK244.out) hg (Kd.R_ne HO_4.out BK244.out (by decide))); have n2_ := sd_ (hb); have n3_ := sd_ (ho); clear BK233; clear BK244; clear HB; clear HO_4; have BK233 := n0_; have BK244 := n1_; have HB := n2_; have HO247 := n3_; clear n0_ n1_ n2_ n3_; clear ho hb hg hat) | ((with_reducible refine gate_callee (f := 23) rfl ?_); refine goesL_ (some 52) rfl rfl Tryd.func23 (by kernel_rfl) rfl #[.string a0, .int .i64 t241] rfl (by (try simp only [lm_, lq_, lx_]); first | done | rfl | (simp only [ld_, lt_]; rfl) | ((conv => rhs; simp); rfl)) ?_; (with_reducible refine (neumeref08_skip.calls k1 a0 t241 t248 _ A21.out).mono ?_); rintro e w' ⟨rfl, ⟨nd, rfl⟩⟩; refine ⟨_, rfl, ?_⟩))
              go_roundg k1
              case measure => have := HK1.out; omega
              case rel => exact ⟨(y245), (t248), (x234000_1), (x234001_1), (by first | rfl | (simp; done) | (simp [*]; done) | (simp [bne]; done)), H', ⟨by have := HK1.out; omega⟩, ⟨by (with_reducible repeat (first | apply Kd.R_alloc | apply Kd.R_drewN | apply Kd.R_drew)); exact HO247.out⟩, ⟨by (with_reducible repeat first | apply kn_ | apply kd_ | apply ka_); exact BK233.out⟩, ⟨by repeat (first | (with_reducible first | exact HB.out | apply ba_ | apply pd_ | apply d1_ | refine bs_ ?_ GE233.out | refine bs_ ?_ GE244.out) | exact HB.out)⟩⟩
             ·rw [if_neg c20] at H
              exact absurd H (by simp)
            ·rw [if_neg c19] at H
             exact absurd H (by simp)
           ·rw [if_neg c18] at H
            exact absurd H (by simp)
          ·rw [if_neg c17] at H
           exact absurd H (by simp)
         ·rw [if_neg c15] at H
          have c15b0 : (t240 == 5) = false := beq_eq_false_iff_ne.mpr c15
          have c15b1 : (t240 != 5) = true := bne_iff_ne.mpr c15
          by_cases c27 : x4_1.length < 4398046511104
          ·rw [if_pos c27] at H
           have LMc27 := sd_ c27
           clear c27
           obtain ⟨y249, hy249⟩ : ∃ y_ : List (S34), y_ = (x4_1 ++ [(⟨t240, a0.extract (x5_1 : Int).toNat (t241 : Int).toNat, x5_1⟩ : S34)]) := ⟨_, rfl⟩
           replace H : ((neumeref08_skip.f k1 a0 t241).bind fun t252 => (neumeref08_Scan.l0 k1 a0 y249 t252)) = some (r1, r2, r3) := by first | (rw [hy249]; with_reducible exact H) | (have H2_ := (Option.bind_some _ _).symm.trans H; rw [hy249]; with_reducible exact H2_) | (have H2_ := (Option.bind_some _ _).symm.trans H; with_reducible exact H2_) | with_reducible exact H | (rw [hy249]; exact H) | exact H
           have Ny249 := sd_ hy249
           clear hy249
           replace H := ob_ H
           obtain ⟨t252, A280, H⟩ := H
           replace H : (neumeref08_Scan.l0 k1 a0 y249 t252) = some (r1, r2, r3) := H
           have A28 := sd_ A280
           clear A280
           have H' := sd_ H
           clear H
           go_wp2_with (first | ((with_reducible refine gate_callee (f := 24) rfl ?_); refine goesL_ (some 23) rfl rfl Tryd.func24 (by kernel_rfl) rfl #[.string a0, .int .i64 x5_1] rfl (by (try simp only [lm_, lq_, lx_]); first | done | rfl | (simp only [ld_, lt_]; rfl) | ((conv => rhs; simp); rfl)) ?_; (with_reducible refine (neumeref08_next.calls k1 a0 x5_1 t240 t241 t242 t243 _ A10.out).mono ?_); rintro e w29 ⟨rfl, hb⟩; refine ⟨_, rfl, ?_⟩; replace HO_4 := sd_ (Kd.R_below (by (with_reducible repeat (first | apply Kd.R_alloc | apply Kd.R_drewN | apply Kd.R_drew)); exact HO_4.out) hb); replace BK233 := kb_ BK233 hb; replace HB := hb_ HB (e_ GE233 e0_) hb; (try clear hb); (try clear hb2); (try clear hk); (try clear hi)) | ((with_reducible refine gate_dst (N := 8) rfl ?_); refine box_event ?hg (N := 8) ?hd (cs := #[.int .i64 0, .int .i64 0]) (t := 26) ?hr ?_; (case hd => rfl); (case hg => rfl); (case hr => first | (go_simp; done) | (go_simp; rfl)); intro gb244 hg w30 hbox hb; have BK244 := sd_ hbox; have GW244 := gw_ HB (e_ GE233 e0_) hg; have GE244 := GW244; have NB233_244 := nb_ BK233 hg; have NB244_233 := sy_ NB233_244; replace HO_4 := sd_ (Kd.R_below (by (with_reducible repeat (first | apply Kd.R_alloc | apply Kd.R_drewN | apply Kd.R_drew)); exact HO_4.out) hb); replace BK233 := kb_ BK233 hb; replace HB := hb_ HB (e_ GE233 e0_) hb; clear hb hbox hg; have hnb31 := NB244_233.out; have hnc31 := NB233_244.out; have hcz32_0 : w30.cell? ⟨gb244, 0, none⟩ = some (.int .i64 0) := (kc_ BK244.out 0).trans rfl; have hcz32_1 : w30.cell? ⟨gb244, 1, none⟩ = some (.int .i64 0) := (kc_ BK244.out 1).trans rfl; have hfz32_0 := kf_ BK244.out 0; have hfz32_1 := kf_ BK244.out 1) | ((with_reducible refine gate_builtin (b := .append) (xs := #[.tmp 43, .tmp 48]) rfl ?_); at_builtin; refine Kd.R_append k34 (w0 := w) w.heap.size rfl (.tmp 43) (.tmp 48) 23 34 (.agg #[(.int .i64 0), (.string ⟨#[]⟩), (.int .i64 0)]) 32 rfl Tryd.underlying23 info34 rfl (by decide) (by omega) u4 x4_1 (⟨t240, a0.extract (x5_1 : Int).toNat (t241 : Int).toNat, x5_1⟩ : S34) [.int .i64 t240, .string (a0.extract (x5_1 : Int).toNat (t241 : Int).toNat), .int .i64 x5_1] (fun _ => True) (fun _ => False) rfl (by first | (go_simp; done) | (go_simp; rfl)) ?aP (fun _ hk => hk.elim) ?aF ?aO ?aB ?aS ?aL ?_; (case aP => exact k34_mkM _ _ _ (⟨t240, a0.extract (x5_1 : Int).toNat (t241 : Int).toNat, x5_1⟩ : S34)); (case aB => exact (bb_ HB.out (e_ GE233 (e_ GE244 e0_)))); (case aF => exact (fun _ _ => trivial)); (case aO => exact (by (with_reducible repeat (first | apply Kd.R_alloc | apply Kd.R_drewN | apply Kd.R_drew)); exact Kd.R_mono (Kd.R_far (p := ⟨gb244, 1, none⟩) (Kd.R_far (p := ⟨gb244, 0, none⟩) (Kd.R_types HO_4.out BK244.out (by decide)) (fun _ hk => hk.2) (.int .i64 t242)) (fun _ hk => hk.2) (.int .i64 t243)) (fun _ hk => trivial))); (case aS => exact (bz_ (bb_ HB.out (e_ GE233 (e_ GE244 e0_))))); (case aL => have := LMc27.out; omega); intro v250 w33 ho hb hg hat; rw [← Ny249.out] at ho; have n0_ := sd_ (blk_grown (g := gb233) (o := .cells #[.int .i64 x234000_1, .int .i64 x234001_1] 26 (0, 0)) (by (with_reducible repeat first | apply kn_ | apply kd_ | apply ka_); refine blk_far ?_ NB233_244.out _; (with_reducible repeat first | apply kn_ | apply kd_ | apply ka_); refine blk_far ?_ NB233_244.out _; (with_reducible repeat first | apply kn_ | apply kd_ | apply ka_); exact BK233.out) hg (Kd.R_ne HO_4.out BK233.out (by decide))); have n1_ := sd_ (blk_grown (g := gb244) (o := .cells #[.int .i64 t242, .int .i64 t243] 26 (0, 0)) (by (with_reducible repeat first | apply kn_ | apply kd_ | apply ka_); refine blk_put (cs := #[.int .i64 t242, .int .i64 0]) ?_ 1 _ rfl; (with_reducible repeat first | apply kn_ | apply kd_ | apply ka_); refine blk_put (cs := #[.int .i64 0, .int .i64 0]) ?_ 0 _ rfl; (with_reducible repeat first | apply kn_ | apply kd_ | apply ka_); exact BK244.out) hg (Kd.R_ne HO_4.out BK244.out (by decide))); have n2_ := sd_ (hb); have n3_ := sd_ (ho); clear BK233; clear BK244; clear HB; clear HO_4; have BK233 := n0_; have BK244 := n1_; have HB := n2_; have HO251 := n3_; clear n0_ n1_ n2_ n3_; clear ho hb hg hat) | ((with_reducible refine gate_callee (f := 23) rfl ?_); refine goesL_ (some 52) rfl rfl Tryd.func23 (by kernel_rfl) rfl #[.string a0, .int .i64 t241] rfl (by (try simp only [lm_, lq_, lx_]); first | done | rfl | (simp only [ld_, lt_]; rfl) | ((conv => rhs; simp); rfl)) ?_; (with_reducible refine (neumeref08_skip.calls k1 a0 t241 t252 _ A28.out).mono ?_); rintro e w' ⟨rfl, ⟨nd, rfl⟩⟩; refine ⟨_, rfl, ?_⟩))
           go_roundg k1
           case measure => have := HK1.out; omega
           case rel => exact ⟨(y249), (t252), (x234000_1), (x234001_1), (by first | rfl | (simp; done) | (simp [*]; done) | (simp [bne]; done)), H', ⟨by have := HK1.out; omega⟩, ⟨by (with_reducible repeat (first | apply Kd.R_alloc | apply Kd.R_drewN | apply Kd.R_drew)); exact HO251.out⟩, ⟨by (with_reducible repeat first | apply kn_ | apply kd_ | apply ka_); exact BK233.out⟩, ⟨by repeat (first | (with_reducible first | exact HB.out | apply ba_ | apply pd_ | apply d1_ | refine bs_ ?_ GE233.out | refine bs_ ?_ GE244.out) | exact HB.out)⟩⟩
          ·rw [if_neg c27] at H
           exact absurd H (by simp)
        ·rw [if_neg c14] at H
         exact absurd H (by simp)
       ·rw [if_neg c13] at H
        exact absurd H (by simp)
      ·rw [if_neg c12] at H
       exact absurd H (by simp)
     ·rw [if_neg c11] at H
      have c11b0 : (t242 == 0) = false := beq_eq_false_iff_ne.mpr c11
      have c11b1 : (t242 != 0) = true := bne_iff_ne.mpr c11
      simp only [Option.some.injEq, Prod.mk.injEq] at H
      obtain ⟨rfl, rfl, rfl⟩ := H
      try go_wp2_with (first | ((with_reducible refine gate_callee (f := 24) rfl ?_); refine goesL_ (some 23) rfl rfl Tryd.func24 (by kernel_rfl) rfl #[.string a0, .int .i64 x5_1] rfl (by (try simp only [lm_, lq_, lx_]); first | done | rfl | (simp only [ld_, lt_]; rfl)) ?_; (with_reducible refine (neumeref08_next.calls k1 a0 x5_1 t240 t241 t242 t243 _ A10.out).mono ?_); rintro e w34 ⟨rfl, hb⟩; refine ⟨_, rfl, ?_⟩; replace HO_4 := sd_ (Kd.R_below (by (with_reducible repeat (first | apply Kd.R_alloc | apply Kd.R_drewN | apply Kd.R_drew)); exact HO_4.out) hb); replace BK233 := kb_ BK233 hb; replace HB := hb_ HB (e_ GE233 e0_) hb; (try clear hb); (try clear hb2); (try clear hk); (try clear hi)) | ((with_reducible refine gate_dst (N := 8) rfl ?_); refine box_event ?hg (N := 8) ?hd (cs := #[.int .i64 0, .int .i64 0]) (t := 26) ?hr ?_; (case hd => rfl); (case hg => rfl); (case hr => first | (go_simp; done) | (go_simp; rfl)); intro gb244 hg w35 hbox hb; have BK244 := sd_ hbox; have GW244 := gw_ HB (e_ GE233 e0_) hg; have GE244 := GW244; have NB233_244 := nb_ BK233 hg; have NB244_233 := sy_ NB233_244; replace HO_4 := sd_ (Kd.R_below (by (with_reducible repeat (first | apply Kd.R_alloc | apply Kd.R_drewN | apply Kd.R_drew)); exact HO_4.out) hb); replace BK233 := kb_ BK233 hb; replace HB := hb_ HB (e_ GE233 e0_) hb; clear hb hbox hg; have hnb36 := NB244_233.out; have hnc36 := NB233_244.out; have hcz37_0 : w35.cell? ⟨gb244, 0, none⟩ = some (.int .i64 0) := (kc_ BK244.out 0).trans rfl; have hcz37_1 : w35.cell? ⟨gb244, 1, none⟩ = some (.int .i64 0) := (kc_ BK244.out 1).trans rfl; have hfz37_0 := kf_ BK244.out 0; have hfz37_1 := kf_ BK244.out 1))
      have n0_ : Aside0 (Kd.R k34 34 ((w35.setCell ⟨gb244, 0, none⟩ (.int .i64 t242)).setCell ⟨gb244, 1, none⟩ (.int .i64 t243)) w.heap.size (fun _ => True) u4 x4_1) := ⟨by (with_reducible repeat (first | apply Kd.R_alloc | apply Kd.R_drewN | apply Kd.R_drew)); exact Kd.R_mono (Kd.R_far (p := ⟨gb244, 1, none⟩) (Kd.R_far (p := ⟨gb244, 0, none⟩) (Kd.R_types HO_4.out BK244.out (by decide)) (fun _ hk => hk.2) (.int .i64 t242)) (fun _ hk => hk.2) (.int .i64 t243)) (fun _ hk => trivial)⟩
      have n1_ : Aside0 (((w35.setCell ⟨gb244, 0, none⟩ (.int .i64 t242)).setCell ⟨gb244, 1, none⟩ (.int .i64 t243)).heap[gb233]? = some (.cells #[.int .i64 x234000_1, .int .i64 x234001_1] 26 (0, 0))) := ⟨by (with_reducible repeat first | apply kn_ | apply kd_ | apply ka_); refine blk_far ?_ NB233_244.out _; (with_reducible repeat first | apply kn_ | apply kd_ | apply ka_); refine blk_far ?_ NB233_244.out _; (with_reducible repeat first | apply kn_ | apply kd_ | apply ka_); exact BK233.out⟩
      have n2_ : Aside0 (((w35.setCell ⟨gb244, 0, none⟩ (.int .i64 t242)).setCell ⟨gb244, 1, none⟩ (.int .i64 t243)).heap[gb244]? = some (.cells #[.int .i64 t242, .int .i64 t243] 26 (0, 0))) := ⟨by (with_reducible repeat first | apply kn_ | apply kd_ | apply ka_); refine blk_put (cs := #[.int .i64 t242, .int .i64 0]) ?_ 1 _ rfl; (with_reducible repeat first | apply kn_ | apply kd_ | apply ka_); refine blk_put (cs := #[.int .i64 0, .int .i64 0]) ?_ 0 _ rfl; (with_reducible repeat first | apply kn_ | apply kd_ | apply ka_); exact BK244.out⟩
      have n3_ : Aside0 (Below w.heap.size w ((w35.setCell ⟨gb244, 0, none⟩ (.int .i64 t242)).setCell ⟨gb244, 1, none⟩ (.int .i64 t243))) := ⟨by repeat (first | (with_reducible first | exact HB.out | apply ba_ | apply pd_ | apply d1_ | refine bs_ ?_ GE233.out | refine bs_ ?_ GE244.out) | exact HB.out)⟩
      (try clear HO_4)
      (try clear BK233)
      (try clear BK244)
      (try clear HB)
      generalize ((w35.setCell ⟨gb244, 0, none⟩ (.int .i64 t242)).setCell ⟨gb244, 1, none⟩ (.int .i64 t243)) = w38 at n0_ n1_ n2_ n3_ ⊢
      have HO_4 := n0_
      have BK233 := n1_
      have BK244 := n2_
      have HB := n3_
      clear n0_ n1_ n2_ n3_
      replace HO_4 := sd_ (Kd.R_drew HO_4.out)
      replace BK233 := sd_ (kd_ BK233.out)
      replace BK244 := sd_ (kd_ BK244.out)
      replace HB := sd_ (d1_ HB.out)
      refine start_ (n := 3) (S := fun w' => w'.cell? ⟨gb244, 0, none⟩ = some (.int .i64 t242) ∧ w'.cell? ⟨gb244, 1, none⟩ = some (.int .i64 t243)) (ds := []) #[false, false, false] (by kernel_rfl) rfl rfl ⟨(kc_ BK244.out 0).trans rfl, (kc_ BK244.out 1).trans rfl⟩ (fun hHeld => ?_)
      generalize w38.drew = w39 at HO_4 BK233 BK244 HB hHeld ⊢
      refine pure_ (i := 1) (N := some 2) (v := ?_) (a' := ?_) #[false, true, false] rfl rfl (by kernel_rfl) (fun _ _ _ h => h) (Or.inl ⟨by rfl, ?_⟩) ?_ ?_
      rotate_left; (intro w'; go_simp; with_reducible rfl); rotate_left; (simp only [Act.put, ls_, lz_, lc_, i64_w, i32_w]; rfl)
      refine take_ (i := 0) (N := some 30) (v := ?_) (a' := ?_) #[true, true, false] rfl rfl (by kernel_rfl) (fun _ _ _ h => h) (Or.inl ⟨by rfl, ?_⟩) hHeld ?_ ?_
      rotate_left
      ·rintro w' ⟨s0, s1⟩
       go_simp
       with_reducible rfl
      rotate_left
      ·simp only [Act.put, ls_, lz_, lc_, i64_w, i32_w]
       rfl
      refine one_ (i := 2) (N := none) #[true, true, true] rfl rfl (by kernel_rfl) (by decide) (fun K hK => ?_)
      have hs40 : w39.cell? ⟨gb233, 0, none⟩ = some (.int .i64 x234000_1) := (kc_ BK233.out 0).trans rfl
      have hfs40 := kf_ BK233.out 0
      have hns40_1 := NB244_233.out
      have hms40_1 := NB233_244.out
      have hs41 : w39.cell? ⟨gb233, 1, none⟩ = some (.int .i64 x234001_1) := (kc_ BK233.out 1).trans rfl
      have hfs41 := kf_ BK233.out 1
      have hns41_1 := NB244_233.out
      have hms41_1 := NB233_244.out
      refine skip_ (w1 := ?_) (by rfl) rfl ?_ ?_
      rotate_left
      ·go_simp
       rfl
      refine hK.out _ _ ⟨((cell_far (p := ⟨gb233, _, none⟩) NB244_233.out _).trans (((cell_far (p := ⟨gb233, _, none⟩) NB244_233.out _).trans (hHeld.1)))), ((cell_far (p := ⟨gb233, _, none⟩) NB244_233.out _).trans (((cell_far (p := ⟨gb233, _, none⟩) NB244_233.out _).trans (hHeld.2))))⟩ (fun hHeld => ?_)
      clear hK K
      refine done_ (by kernel_rfl) ?_
      try go_wp2
      refine bodyPost_ret (results_tc rfl _ _ gb233 26 #[.int .i64 t242, .int .i64 t243] (0, 0) _ rfl (by (with_reducible repeat first | apply kn_ | apply kd_ | apply ka_); refine blk_put (cs := #[.int .i64 t242, .int .i64 x234001_1]) ?_ 1 _ rfl; (with_reducible repeat first | apply kn_ | apply kd_ | apply ka_); refine blk_put (cs := #[.int .i64 x234000_1, .int .i64 x234001_1]) ?_ 0 _ rfl; (with_reducible repeat first | apply kn_ | apply kd_ | apply ka_); exact BK233.out) Tryd.underlying26 rfl (by kernel_rfl)) rfl ?_
      exact ⟨_, by first | rfl | (simp [errW_none, errW_some] <;> rfl) | (simp [*, errW_none, errW_some] <;> rfl), by first | exact Kd.R_nil _ _ _ _ _ | exact Kd.N_nil _ _ _ _ _ | exact Kd.V_nil _ _ _ _ _ | exact Kd.Q_nil _ _ _ _ _ | exact Kd.S_nil _ _ _ _ _, by repeat (first | (with_reducible first | exact HB.out | apply ba_ | apply pd_ | apply d1_ | refine bs_ ?_ GE233.out | refine bs_ ?_ GE244.out) | exact HB.out)⟩
    ·rw [if_neg c9] at H
     have c9b0 : decide (x5_1 < (a0.size : Int)) = false := df_ c9
     clear c9
     by_cases c42 : x4_1.length < 4398046511104
     ·rw [if_pos c42] at H
      have LMc42 := sd_ c42
      clear c42
      obtain ⟨y237, hy237⟩ : ∃ y_ : List (S34), y_ = (x4_1 ++ [(⟨8, (⟨#[]⟩ : ByteArray), (a0.size : Int)⟩ : S34)]) := ⟨_, rfl⟩
      replace H : (some (y237, 0, 0)) = some (r1, r2, r3) := by first | (rw [hy237]; with_reducible exact H) | (have H2_ := (Option.bind_some _ _).symm.trans H; rw [hy237]; with_reducible exact H2_) | (have H2_ := (Option.bind_some _ _).symm.trans H; with_reducible exact H2_) | with_reducible exact H | (rw [hy237]; exact H) | exact H
      have Ny237 := sd_ hy237
      clear hy237
      simp only [Option.some.injEq, Prod.mk.injEq] at H
      obtain ⟨rfl, rfl, rfl⟩ := H
      go_wp2_with (first | ((with_reducible refine gate_builtin (b := .append) (xs := #[.tmp 53, .tmp 57]) rfl ?_); at_builtin; refine Kd.R_append k34 (w0 := w) w.heap.size rfl (.tmp 53) (.tmp 57) 23 34 (.agg #[(.int .i64 0), (.string ⟨#[]⟩), (.int .i64 0)]) 32 rfl Tryd.underlying23 info34 rfl (by decide) (by omega) u4 x4_1 (⟨8, (⟨#[]⟩ : ByteArray), (a0.size : Int)⟩ : S34) [.int .i64 8, .string (⟨#[]⟩ : ByteArray), .int .i64 (a0.size : Int)] (fun _ => True) (fun _ => False) rfl rfl ?aP (fun _ hk => hk.elim) ?aF ?aO ?aB ?aS ?aL ?_; (case aP => exact k34_mkM _ _ _ (⟨8, (⟨#[]⟩ : ByteArray), (a0.size : Int)⟩ : S34)); (case aB => exact (bb_ HB.out (e_ GE233 e0_))); (case aF => exact (fun _ _ => trivial)); (case aO => exact (by (with_reducible repeat (first | apply Kd.R_alloc | apply Kd.R_drewN | apply Kd.R_drew)); exact HO_4.out)); (case aS => exact (bz_ (bb_ HB.out (e_ GE233 e0_)))); (case aL => have := LMc42.out; omega); intro v238 w43 ho hb hg hat; rw [← Ny237.out] at ho; have n0_ := sd_ (blk_grown (kk_ BK233.out) hg (Kd.R_ne HO_4.out BK233.out (by decide))); have n1_ := sd_ (hb); have n2_ := sd_ (ho); clear BK233; clear HB; clear HO_4; have BK233 := n0_; have HB := n1_; have HO239 := n2_; clear n0_ n1_ n2_; clear ho hb hg hat; have hcz44_0 : w43.cell? ⟨gb233, 0, none⟩ = some (.int .i64 x234000_1) := (kc_ BK233.out 0).trans rfl; have hcz44_1 : w43.cell? ⟨gb233, 1, none⟩ = some (.int .i64 x234001_1) := (kc_ BK233.out 1).trans rfl; have hfz44_0 := kf_ BK233.out 0; have hfz44_1 := kf_ BK233.out 1))
      refine bodyPost_ret (results_tc rfl _ _ gb233 26 #[.int .i64 0, .int .i64 0] (0, 0) _ rfl (by (with_reducible repeat first | apply kn_ | apply kd_ | apply ka_); refine blk_put (cs := #[.int .i64 0, .int .i64 x234001_1]) ?_ 1 _ rfl; (with_reducible repeat first | apply kn_ | apply kd_ | apply ka_); refine blk_put (cs := #[.int .i64 x234000_1, .int .i64 x234001_1]) ?_ 0 _ rfl; (with_reducible repeat first | apply kn_ | apply kd_ | apply ka_); exact BK233.out) Tryd.underlying26 rfl (by kernel_rfl)) rfl ?_
      exact ⟨_, by first | rfl | (simp [errW_none, errW_some] <;> rfl) | (simp [*, errW_none, errW_some] <;> rfl), by (with_reducible repeat (first | apply Kd.R_alloc | apply Kd.R_drewN | apply Kd.R_drew)); exact Kd.R_mono (Kd.R_far (p := ⟨gb233, 1, none⟩) (Kd.R_far (p := ⟨gb233, 0, none⟩) (Kd.R_types HO239.out BK233.out (by decide)) (fun _ hk => hk.2) (.int .i64 0)) (fun _ hk => hk.2) (.int .i64 0)) (fun _ hk => trivial), by repeat (first | (with_reducible first | exact HB.out | apply ba_ | apply pd_ | apply d1_ | refine bs_ ?_ GE233.out) | exact HB.out)⟩
     ·rw [if_neg c42] at H
      exact absurd H (by simp)

/-! ### neumeref08_Same: function 11 -/
def neumeref08_Same.l0 : Nat → List (S34) → List (S34) → Int → Option (Bool)
 | 0, _, _, _ => none
 | k + 1, x0, x1, x5 => if x5 < (x0.length : Int) then (if 0 ≤ x5 then (if x5 < (x1.length : Int) then (if (!(((rd_T34 x0 x5).f0) == ((rd_T34 x1 x5).f0)) || (!((((rd_T34 x0 x5).f1).toList) == (((rd_T34 x1 x5).f1).toList)) || (!(((rd_T34 x0 x5).f2) == ((rd_T34 x1 x5).f2))))) = true then (some false) else (neumeref08_Same.l0 k x0 x1 (wrap64 (x5 + 1)))) else (none)) else (none)) else (some true)
def neumeref08_Same.f (k : Nat) (l0 : List (S34)) (l1 : List (S34)) : Option (Bool) := if (l0.length : Int) = (l1.length : Int) then (neumeref08_Same.l0 k l0 l1 0) else (some false)
theorem neumeref08_Same.mono_l : ∀ k, (∀ y0 y1 y2, LeO (neumeref08_Same.l0 k y0 y1 y2) (neumeref08_Same.l0 (k + 1) y0 y1 y2))
 | 0 => fun _ _ _ r h => by simp [neumeref08_Same.l0] at h
 | k + 1 => by
  have ih0 := neumeref08_Same.mono_l k
  ·intro y0 y1 y2
   unfold neumeref08_Same.l0
   repeat' first
   | (with_reducible exact ih0 _ _ _)
   | (with_reducible exact LeO.refl _)
   | (with_reducible exact LeO.none _)
   | (with_reducible refine LeO.ite ?_ ?_)
   | (with_reducible refine LeO.bind ?_ (fun _ => ?_))
   | exact ih0 _ _ _
   | exact LeO.none _
   | refine LeO.ite ?_ ?_
   | refine LeO.bind ?_ (fun _ => ?_)
theorem neumeref08_Same.mono : ∀ a0 a1 k, LeO (neumeref08_Same.f k a0 a1) (neumeref08_Same.f (k + 1) a0 a1) := by
 intro a0 a1 k
 have ih0 := neumeref08_Same.mono_l k
 unfold neumeref08_Same.f
 repeat' first
   | (with_reducible exact ih0 _ _ _)
   | (with_reducible exact LeO.refl _)
   | (with_reducible exact LeO.none _)
   | (with_reducible refine LeO.ite ?_ ?_)
   | (with_reducible refine LeO.bind ?_ (fun _ => ?_))
   | exact ih0 _ _ _
   | exact LeO.none _
   | refine LeO.ite ?_ ?_
   | refine LeO.bind ?_ (fun _ => ?_)
set_option maxHeartbeats 8000000 in
set_option maxRecDepth 100000 in
theorem neumeref08_Same.calls (k : Nat) (A0 : Option Addr) (c0 : Nat) (l0 : List (S34)) (A1 : Option Addr) (c1 : Nat) (l1 : List (S34)) (r : Bool) (w : World) (hr0 : Kd.C k34 w A0 l0.length l0) (hc0 : l0.length ≤ c0) (hr1 : Kd.C k34 w A1 l1.length l1) (hc1 : l1.length ≤ c1) (h : neumeref08_Same.f k l0 l1 = some r) :
  Calls Tryd.prog 11 #[.slice A0 l0.length c0, .slice A1 l1.length c1] w fun e w' => e = .returned (.bool r) ∧ Drawn0 w w' := by
 have hu34 := Tryd.underlying34
 have HR0 := sd_ hr0
 have HC0 := sd_ hc0
 clear hr0 hc0
 have HR1 := sd_ hr1
 have HC1 := sd_ hc1
 clear hr1 hc1
 have H : (if (l0.length : Int) = (l1.length : Int) then (neumeref08_Same.l0 k l0 l1 0) else (some false)) = some r := h
 clear h
 by_cases c3 : (l0.length : Int) = (l1.length : Int)
 ·rw [if_pos c3] at H
  have c3b0 : ((l0.length : Int) == (l1.length : Int)) = true := beq_iff_eq.mpr c3
  have c3b1 : ((l0.length : Int) != (l1.length : Int)) = false := bne_eq_false_iff_eq.mpr c3
  have c3b2 : (l0.length == l1.length) = true := by first | simpa using c3 | (simp at c3 ⊢; omega)
  clear c3
  have H' := sd_ H
  clear H
  go_enter Tryd.func11, Tryd.ntmps11
  go_wp2
  repeat (go_quiet (fail); try go_wp2)
  go_loopg [5] k (fun kq v5 w' => ∃ (x5_1 : Int), v5 = .int .i64 x5_1 ∧ Aside0 (neumeref08_Same.l0 kq l0 l1 x5_1 = some r) ∧ Aside0 (kq ≤ k) ∧ Drawn0 w w')
  case atStart => exact ⟨(0), (by first | rfl | (simp; done) | (simp [*]; done) | (simp [bne]; done)), H', ⟨Nat.le_refl _⟩, by repeat (first | exact Drawn0.refl _ | apply Drawn0.step)⟩
  case round =>
   clear H'
   try clear c1; try clear p2; try clear c3; try clear c3b0; try clear c3b1; try clear c3b2
   obtain ⟨x5_1, rfl, HA, HK1, ⟨m1, rfl⟩⟩ := hrel
   cases gk with
   | zero => exact absurd HA.out (by simp [neumeref08_Same.l0])
   | succ k1 =>
    have H := HA.out
    clear HA
    simp only [neumeref08_Same.l0] at H
    by_cases c4 : x5_1 < (l0.length : Int)
    ·rw [if_pos c4] at H
     have c4b0 : decide (x5_1 < (l0.length : Int)) = true := dt_ c4
     clear c4
     by_cases c5 : 0 ≤ x5_1
     ·rw [if_pos c5] at H
      have c5b0 : decide (0 ≤ x5_1) = true := dt_ c5
      clear c5
      by_cases c6 : x5_1 < (l1.length : Int)
      ·rw [if_pos c6] at H
       have c6b0 : decide (x5_1 < (l1.length : Int)) = true := dt_ c6
       clear c6
       by_cases c7 : (!(((rd_T34 l0 x5_1).f0) == ((rd_T34 l1 x5_1).f0)) || (!((((rd_T34 l0 x5_1).f1).toList) == (((rd_T34 l1 x5_1).f1).toList)) || (!(((rd_T34 l0 x5_1).f2) == ((rd_T34 l1 x5_1).f2))))) = true
       ·rw [if_pos c7] at H
        have c7b0 : (!(((rd_T34 l0 x5_1).f0) == ((rd_T34 l1 x5_1).f0)) || (!((((rd_T34 l0 x5_1).f1).toList) == (((rd_T34 l1 x5_1).f1).toList)) || (!(((rd_T34 l0 x5_1).f2) == ((rd_T34 l1 x5_1).f2))))) = true := c7
        clear c7
        obtain rfl := Option.some.inj H
        have p253 : 0 ≤ (x5_1 : Int) := od_ (by first | (with_reducible assumption) | assumption)
        have q253 : x5_1 < (l0.length : Int) := od_ (by first | (with_reducible assumption) | assumption)
        obtain ⟨ad253, e253, hx253_0, hx253_1, hx253_2⟩ := at_T34 HR0.out x5_1 p253 q253
        cases e253
        replace p253 := eq_true p253
        replace q253 := eq_true q253
        have p254 : 0 ≤ (x5_1 : Int) := od_ (by first | (with_reducible assumption) | assumption)
        have q254 : x5_1 < (l1.length : Int) := od_ (by first | (with_reducible assumption) | assumption)
        obtain ⟨ad254, e254, hx254_0, hx254_1, hx254_2⟩ := at_T34 HR1.out x5_1 p254 q254
        cases e254
        replace p254 := eq_true p254
        replace q254 := eq_true q254
        go_wp2
        repeat (go_quiet (fail); try go_wp2)
        go_ret
        exact ⟨by first | rfl | (simp; done) | (simp [*]; done), by repeat (first | exact Drawn0.refl _ | apply Drawn0.step)⟩
       ·rw [if_neg c7] at H
        have c7b0 : (!(((rd_T34 l0 x5_1).f0) == ((rd_T34 l1 x5_1).f0)) || (!((((rd_T34 l0 x5_1).f1).toList) == (((rd_T34 l1 x5_1).f1).toList)) || (!(((rd_T34 l0 x5_1).f2) == ((rd_T34 l1 x5_1).f2))))) = false := by simpa using c7
        clear c7
        have H' := sd_ H
        clear H
        have p253 : 0 ≤ (x5_1 : Int) := od_ (by first | (with_reducible assumption) | assumption)
        have q253 : x5_1 < (l0.length : Int) := od_ (by first | (with_reducible assumption) | assumption)
        obtain ⟨ad253, e253, hx253_0, hx253_1, hx253_2⟩ := at_T34 HR0.out x5_1 p253 q253
        cases e253
        replace p253 := eq_true p253
        replace q253 := eq_true q253
        have p254 : 0 ≤ (x5_1 : Int) := od_ (by first | (with_reducible assumption) | assumption)
        have q254 : x5_1 < (l1.length : Int) := od_ (by first | (with_reducible assumption) | assumption)
        obtain ⟨ad254, e254, hx254_0, hx254_1, hx254_2⟩ := at_T34 HR1.out x5_1 p254 q254
        cases e254
        replace p254 := eq_true p254
        replace q254 := eq_true q254
        go_wp2
        repeat (go_quiet (fail); try go_wp2)
        go_roundg k1
        case measure => have := HK1.out; omega
        case rel => exact ⟨(wrap64 (x5_1 + 1)), (by first | rfl | (simp; done) | (simp [*]; done) | (simp [bne]; done)), H', ⟨by have := HK1.out; omega⟩, by repeat (first | exact Drawn0.refl _ | apply Drawn0.step)⟩
      ·rw [if_neg c6] at H
       exact absurd H (by simp)
     ·rw [if_neg c5] at H
      exact absurd H (by simp)
    ·rw [if_neg c4] at H
     have c4b0 : decide (x5_1 < (l0.length : Int)) = false := df_ c4
     clear c4
     obtain rfl := Option.some.inj H
     go_wp2
     repeat (go_quiet (fail); try go_wp2)
     go_ret
     exact ⟨by first | rfl | (simp; done) | (simp [*]; done), by repeat (first | exact Drawn0.refl _ | apply Drawn0.step)⟩
 ·rw [if_neg c3] at H
  have c3b0 : ((l0.length : Int) == (l1.length : Int)) = false := beq_eq_false_iff_ne.mpr c3
  have c3b1 : ((l0.length : Int) != (l1.length : Int)) = true := bne_iff_ne.mpr c3
  have c3b2 : (l0.length == l1.length) = false := by first | simpa using c3 | (simp at c3 ⊢; omega)
  obtain rfl := Option.some.inj H
  go_enter Tryd.func11, Tryd.ntmps11
  go_wp2
  repeat (go_quiet (fail); try go_wp2)
  go_ret
  exact ⟨by first | rfl | (simp; done) | (simp [*]; done), by repeat (first | exact Drawn0.refl _ | apply Drawn0.step)⟩

/-! ### neumelaw08_TokenScans: function 3 -/
def neumelaw08_TokenScans.f (k : Nat) (a0 : ByteArray) : Option (Bool) := if (a0.size : Int) > 3000 then ((neumelaw08_heads.f k).bind fun t255 => (some t255)) else ((token_Scan.f k a0).bind fun bt256 => ((neumeref08_Scan.f k a0).bind fun bt262 => ((neumeref08_Same.f k bt256.1 bt262.1).bind fun t268 => (if t268 = true then (if (bt256.2.1 == bt262.2.1 && (bt256.2.2 == bt262.2.2)) = true then ((neumelaw08_heads.f k).bind fun t269 => (some t269)) else (some false)) else (some false)))))
theorem neumelaw08_TokenScans.mono : ∀ a0 k, LeO (neumelaw08_TokenScans.f k a0) (neumelaw08_TokenScans.f (k + 1) a0) := by
 intro a0 k
 unfold neumelaw08_TokenScans.f
 repeat' first
   | (with_reducible exact neumelaw08_heads.mono _)
   | (with_reducible exact neumeref08_Same.mono _ _ _)
   | (with_reducible exact neumeref08_Scan.mono _ _)
   | (with_reducible exact token_Scan.mono _ _)
   | (with_reducible exact LeO.refl _)
   | (with_reducible exact LeO.none _)
   | (with_reducible refine LeO.ite ?_ ?_)
   | (with_reducible refine LeO.bind ?_ (fun _ => ?_))
   | exact neumelaw08_heads.mono _
   | exact neumeref08_Same.mono _ _ _
   | exact neumeref08_Scan.mono _ _
   | exact token_Scan.mono _ _
   | exact LeO.none _
   | refine LeO.ite ?_ ?_
   | refine LeO.bind ?_ (fun _ => ?_)
set_option maxHeartbeats 8000000 in
set_option maxRecDepth 100000 in
theorem neumelaw08_TokenScans.calls (k : Nat) (a0 : ByteArray) (r : Bool) (w : World) (hE : Aside0 (LaidE w)) (hxt : Aside0 (r = true)) (h : neumelaw08_TokenScans.f k a0 = some r) :
  Calls Tryd.prog 3 #[.string a0] w fun e w' => e = .returned (.bool r) ∧ Below w.heap.size w w' := by
 have hu26 := Tryd.underlying26
 have HB := sd_ (Below.refl w.heap.size w)
 have H : (if (a0.size : Int) > 3000 then ((neumelaw08_heads.f k).bind fun t255 => (some t255)) else ((token_Scan.f k a0).bind fun bt256 => ((neumeref08_Scan.f k a0).bind fun bt262 => ((neumeref08_Same.f k bt256.1 bt262.1).bind fun t268 => (if t268 = true then (if (bt256.2.1 == bt262.2.1 && (bt256.2.2 == bt262.2.2)) = true then ((neumelaw08_heads.f k).bind fun t269 => (some t269)) else (some false)) else (some false)))))) = some r := h
 clear h
 by_cases c2 : (a0.size : Int) > 3000
 ·rw [if_pos c2] at H
  have c2b0 : decide (3000 < (a0.size : Int)) = true := dt_ c2
  have c2b1 : decide (3000 < a0.size) = true := dt_ (by omega)
  clear c2
  replace H := ob_ H
  obtain ⟨t255, A30, H⟩ := H
  replace H : (some t255) = some r := H
  have A3 := sd_ A30
  clear A30
  obtain rfl := Option.some.inj H
  go_enter Tryd.func3, Tryd.ntmps3
  go_wp2_with (first | ((with_reducible refine gate_callee (f := 8) rfl ?_); refine goesL_ (some 10) rfl rfl Tryd.func8 (by kernel_rfl) rfl #[] rfl (by (try simp only [lm_, lq_, lx_]); first | done | rfl | (simp only [ld_, lt_]; rfl)) ?_; (with_reducible refine (neumelaw08_heads.calls k  t255 _ ?side1 A3.out).mono ?_); (case side1 => first | (with_reducible exact hE) | exact sd_ (LaidE.below hE.out (bb_ HB.out e0_))); rintro e w4 ⟨rfl, hb⟩; refine ⟨_, rfl, ?_⟩; replace HB := hb_ HB e0_ hb; (try clear hb); (try clear hb2); (try clear hk); (try clear hi)))
  go_ret
  exact ⟨by first | rfl | (simp [errW_none, errW_some] <;> rfl) | (simp [*, errW_none, errW_some] <;> rfl), by repeat (first | (with_reducible first | exact HB.out | apply ba_ | apply pd_ | apply d1_) | exact HB.out)⟩
 ·rw [if_neg c2] at H
  have c2b0 : decide (3000 < (a0.size : Int)) = false := df_ c2
  have c2b1 : decide (3000 < a0.size) = false := df_ (by omega)
  clear c2
  replace H := ob_ H
  obtain ⟨⟨t256, t259, t260⟩, A50, H⟩ := H
  replace H : ((neumeref08_Scan.f k a0).bind fun bt262 => ((neumeref08_Same.f k t256 bt262.1).bind fun t268 => (if t268 = true then (if (t259 == bt262.2.1 && (t260 == bt262.2.2)) = true then ((neumelaw08_heads.f k).bind fun t269 => (some t269)) else (some false)) else (some false)))) = some r := H
  have A5 := sd_ A50
  clear A50
  replace H := ob_ H
  obtain ⟨⟨t262, t265, t266⟩, A60, H⟩ := H
  replace H : ((neumeref08_Same.f k t256 t262).bind fun t268 => (if t268 = true then (if (t259 == t265 && (t260 == t266)) = true then ((neumelaw08_heads.f k).bind fun t269 => (some t269)) else (some false)) else (some false))) = some r := H
  have A6 := sd_ A60
  clear A60
  replace H := ob_ H
  obtain ⟨t268, A70, H⟩ := H
  replace H : (if t268 = true then (if (t259 == t265 && (t260 == t266)) = true then ((neumelaw08_heads.f k).bind fun t269 => (some t269)) else (some false)) else (some false)) = some r := H
  have A7 := sd_ A70
  clear A70
  by_cases c8 : t268 = true
  ·subst c8
   have H1 : (if (t259 == t265 && (t260 == t266)) = true then ((neumelaw08_heads.f k).bind fun t269 => (some t269)) else (some false)) = some r := by rw [if_pos rfl] at H; exact H
   clear H; have H := H1; clear H1
   by_cases c9 : (t259 == t265 && (t260 == t266)) = true
   ·rw [if_pos c9] at H
    have c9b0 : (t259 == t265 && (t260 == t266)) = true := c9
    (try (have c9b1 : decide (t259 = t265 && (t260 == t266)) = true := by simpa using c9))
    (try (have c9b2 : (t259 == t265 && (t260 == t266)) = true := by simpa using c9))
    clear c9
    replace H := ob_ H
    obtain ⟨t269, A100, H⟩ := H
    replace H : (some t269) = some r := H
    have A10 := sd_ A100
    clear A100
    obtain rfl := Option.some.inj H
    go_enter Tryd.func3, Tryd.ntmps3
    go_wp2_with (first | ((with_reducible refine gate_callee (f := 9) rfl ?_); refine goesL_ (some 13) rfl rfl Tryd.func9 (by kernel_rfl) rfl #[.string a0] rfl (by (try simp only [lm_, lq_, lx_]); first | done | rfl | (simp only [ld_, lt_]; rfl)) ?_; (with_reducible refine (token_Scan.calls k a0 t256 t259 t260 _ ?side1 A5.out).mono ?_); (case side1 => first | (with_reducible exact hE) | exact sd_ (LaidE.below hE.out (bb_ HB.out e0_))); rintro e w11 ⟨v257, rfl, ho0, hb⟩; refine ⟨_, rfl, ?_⟩; have HO258 := sd_ (Kd.R_lower ho0 (bz_ (bb_ HB.out e0_))); replace HB := hb_ HB e0_ hb; (try clear hb); (try clear hb2); (try clear hk); (try clear hi); (try clear ho0)) | ((with_reducible refine gate_dst (N := 4) rfl ?_); refine box_event ?hg (N := 4) ?hd (cs := #[.int .i64 0, .int .i64 0]) (t := 26) ?hr ?_; (case hd => rfl); (case hg => rfl); (case hr => first | (go_simp; done) | (go_simp; rfl)); intro gb261 hg w12 hbox hb; have BK261 := sd_ hbox; have GW261 := gw_ HB e0_ hg; have GE261 := GW261; replace HO258 := sd_ (Kd.R_below (by (with_reducible repeat (first | apply Kd.R_alloc | apply Kd.R_drewN | apply Kd.R_drew)); exact HO258.out) hb); replace HB := hb_ HB e0_ hb; clear hb hbox hg; have hcz13_0 : w12.cell? ⟨gb261, 0, none⟩ = some (.int .i64 0) := (kc_ BK261.out 0).trans rfl; have hcz13_1 : w12.cell? ⟨gb261, 1, none⟩ = some (.int .i64 0) := (kc_ BK261.out 1).trans rfl; have hfz13_0 := kf_ BK261.out 0; have hfz13_1 := kf_ BK261.out 1) | ((with_reducible refine gate_callee (f := 10) rfl ?_); refine goesL_ (some 18) rfl rfl Tryd.func10 (by kernel_rfl) rfl #[.string a0] rfl (by (try simp only [lm_, lq_, lx_]); first | done | rfl | (simp only [ld_, lt_]; rfl)) ?_; (with_reducible refine (neumeref08_Scan.calls k a0 t262 t265 t266 _ A6.out).mono ?_); rintro e w14 ⟨v263, rfl, ho0, hb⟩; refine ⟨_, rfl, ?_⟩; have n0_ := sd_ (Kd.R_elder' (by (with_reducible repeat (first | apply Kd.R_alloc | apply Kd.R_drewN | apply Kd.R_drew)); exact (Kd.R_mono (Kd.R_far (p := ⟨gb261, 1, none⟩) (Kd.R_far (p := ⟨gb261, 0, none⟩) (Kd.R_types HO258.out BK261.out (by decide)) (fun _ hk => hk.2) (.int .i64 t259)) (fun _ hk => hk.2) (.int .i64 t260)) (fun _ h_ => h_.1))) (Kd.R_base ho0) hb); have n1_ := sd_ (Kd.R_lower (Kd.R_new' ho0 (Kd.R_lt (by (with_reducible repeat (first | apply Kd.R_alloc | apply Kd.R_drewN | apply Kd.R_drew)); exact (Kd.R_mono (Kd.R_far (p := ⟨gb261, 1, none⟩) (Kd.R_far (p := ⟨gb261, 0, none⟩) (Kd.R_types HO258.out BK261.out (by decide)) (fun _ hk => hk.2) (.int .i64 t259)) (fun _ hk => hk.2) (.int .i64 t260)) (fun _ h_ => h_.1))))) (bz_ (bb_ HB.out (e_ GE261 e0_)))); have n2_ := sd_ (blk_below (g := gb261) (o := .cells #[.int .i64 t259, .int .i64 t260] 26 (0, 0)) (by (with_reducible repeat first | apply kn_ | apply kd_ | apply ka_); refine blk_put (cs := #[.int .i64 t259, .int .i64 0]) ?_ 1 _ rfl; (with_reducible repeat first | apply kn_ | apply kd_ | apply ka_); refine blk_put (cs := #[.int .i64 0, .int .i64 0]) ?_ 0 _ rfl; (with_reducible repeat first | apply kn_ | apply kd_ | apply ka_); exact BK261.out) hb); have n3_ := hb_ HB (e_ GE261 e0_) hb; clear HO258; clear BK261; clear HB; have HO258 := n0_; have HO264 := n1_; have BK261 := n2_; have HB := n3_; clear n0_ n1_ n2_ n3_; (try clear hb); (try clear hb2); (try clear hk); (try clear hi); (try clear ho0)) | ((with_reducible refine gate_dst (N := 6) rfl ?_); refine box_event ?hg (N := 6) ?hd (cs := #[.int .i64 0, .int .i64 0]) (t := 26) ?hr ?_; (case hd => rfl); (case hg => rfl); (case hr => first | (go_simp; done) | (go_simp; rfl)); intro gb267 hg w15 hbox hb; have BK267 := sd_ hbox; have GW267 := gw_ HB (e_ GE261 e0_) hg; have GE267 := GW267; have NB261_267 := nb_ BK261 hg; have NB267_261 := sy_ NB261_267; replace HO258 := sd_ (Kd.R_below (by (with_reducible repeat (first | apply Kd.R_alloc | apply Kd.R_drewN | apply Kd.R_drew)); exact HO258.out) hb); replace HO264 := sd_ (Kd.R_below (by (with_reducible repeat (first | apply Kd.R_alloc | apply Kd.R_drewN | apply Kd.R_drew)); exact HO264.out) hb); replace BK261 := kb_ BK261 hb; replace HB := hb_ HB (e_ GE261 e0_) hb; clear hb hbox hg; have hnb16 := NB267_261.out; have hnc16 := NB261_267.out; have hcz17_0 : w15.cell? ⟨gb267, 0, none⟩ = some (.int .i64 0) := (kc_ BK267.out 0).trans rfl; have hcz17_1 : w15.cell? ⟨gb267, 1, none⟩ = some (.int .i64 0) := (kc_ BK267.out 1).trans rfl; have hfz17_0 := kf_ BK267.out 0; have hfz17_1 := kf_ BK267.out 1; obtain ⟨Ao18, co18, eo18⟩ := Kd.R_slice HO258.out; subst eo18; obtain ⟨Ao19, co19, eo19⟩ := Kd.R_slice HO264.out; subst eo19) | ((with_reducible refine gate_callee (f := 11) rfl ?_); refine goesL_ (some 23) rfl rfl Tryd.func11 (by kernel_rfl) rfl #[.slice Ao18 t256.length co18, .slice Ao19 t262.length co19] rfl (by (try simp only [lm_, lq_, lx_]); first | done | rfl | (simp only [ld_, lt_]; rfl)) ?_; (with_reducible refine (neumeref08_Same.calls k _ _ t256 _ _ t262 true _ ?side1 ?side2 ?side3 ?side4 A7.out).mono ?_); (case side1 => refine (Kd.R_reads' (e := 34) (base := w.heap.size) (ok := fun k_ => (True ∧ some k_ ≠ (.slice Ao19 t262.length co19 : Value).ownBlock)) (n := t256.length) (c := co18) ?_).2.2; exact (by (with_reducible repeat (first | apply Kd.R_alloc | apply Kd.R_drewN | apply Kd.R_drew)); exact (Kd.R_mono (Kd.R_far (p := ⟨gb267, 1, none⟩) (Kd.R_far (p := ⟨gb267, 0, none⟩) (Kd.R_types HO258.out BK267.out (by decide)) (fun _ hk => hk.2) (.int .i64 t265)) (fun _ hk => hk.2) (.int .i64 t266)) (fun _ h_ => h_.1)))); (case side2 => exact (Kd.R_reads' HO258.out).2.1); (case side3 => refine (Kd.R_reads' (e := 34) (base := w.heap.size) (ok := fun k_ => (True ∧ some k_ ≠ (.slice Ao18 t256.length co18 : Value).ownBlock)) (n := t262.length) (c := co19) ?_).2.2; exact (by (with_reducible repeat (first | apply Kd.R_alloc | apply Kd.R_drewN | apply Kd.R_drew)); exact (Kd.R_mono (Kd.R_far (p := ⟨gb267, 1, none⟩) (Kd.R_far (p := ⟨gb267, 0, none⟩) (Kd.R_types HO264.out BK267.out (by decide)) (fun _ hk => hk.2) (.int .i64 t265)) (fun _ hk => hk.2) (.int .i64 t266)) (fun _ h_ => h_.1)))); (case side4 => exact (Kd.R_reads' HO264.out).2.1); rintro e w' ⟨rfl, ⟨nd, rfl⟩⟩; refine ⟨_, rfl, ?_⟩; have hcz20_0 : w15.cell? ⟨gb261, 0, none⟩ = some (.int .i64 t259) := (kc_ BK261.out 0).trans rfl; have hcz20_1 : w15.cell? ⟨gb261, 1, none⟩ = some (.int .i64 t260) := (kc_ BK261.out 1).trans rfl; have hfz20_0 := kf_ BK261.out 0; have hfz20_1 := kf_ BK261.out 1) | (go_at_call 8; (with_reducible refine (neumelaw08_heads.calls k  t269 _ ?side1 A10.out).mono ?_); (case side1 => first | (with_reducible exact hE) | exact sd_ (LaidE.below hE.out (bb_ HB.out (e_ GE261 (e_ GE267 e0_))))); rintro e w21 ⟨rfl, hb⟩; have n0_ := sd_ (Kd.R_below (by (with_reducible repeat (first | apply Kd.R_alloc | apply Kd.R_drewN | apply Kd.R_drew)); exact (Kd.R_mono (Kd.R_far (p := ⟨gb267, 1, none⟩) (Kd.R_far (p := ⟨gb267, 0, none⟩) (Kd.R_types HO258.out BK267.out (by decide)) (fun _ hk => hk.2) (.int .i64 t265)) (fun _ hk => hk.2) (.int .i64 t266)) (fun _ h_ => h_.1))) hb); have n1_ := sd_ (Kd.R_below (by (with_reducible repeat (first | apply Kd.R_alloc | apply Kd.R_drewN | apply Kd.R_drew)); exact (Kd.R_mono (Kd.R_far (p := ⟨gb267, 1, none⟩) (Kd.R_far (p := ⟨gb267, 0, none⟩) (Kd.R_types HO264.out BK267.out (by decide)) (fun _ hk => hk.2) (.int .i64 t265)) (fun _ hk => hk.2) (.int .i64 t266)) (fun _ h_ => h_.1))) hb); have n2_ := sd_ (blk_below (g := gb261) (o := .cells #[.int .i64 t259, .int .i64 t260] 26 (0, 0)) (by (with_reducible repeat first | apply kn_ | apply kd_ | apply ka_); refine blk_far ?_ NB261_267.out _; (with_reducible repeat first | apply kn_ | apply kd_ | apply ka_); refine blk_far ?_ NB261_267.out _; (with_reducible repeat first | apply kn_ | apply kd_ | apply ka_); exact BK261.out) hb); have n3_ := sd_ (blk_below (g := gb267) (o := .cells #[.int .i64 t265, .int .i64 t266] 26 (0, 0)) (by (with_reducible repeat first | apply kn_ | apply kd_ | apply ka_); refine blk_put (cs := #[.int .i64 t265, .int .i64 0]) ?_ 1 _ rfl; (with_reducible repeat first | apply kn_ | apply kd_ | apply ka_); refine blk_put (cs := #[.int .i64 0, .int .i64 0]) ?_ 0 _ rfl; (with_reducible repeat first | apply kn_ | apply kd_ | apply ka_); exact BK267.out) hb); have n4_ := hb_ HB (e_ GE261 (e_ GE267 e0_)) hb; clear HO258; clear HO264; clear BK261; clear BK267; clear HB; have HO258 := n0_; have HO264 := n1_; have BK261 := n2_; have BK267 := n3_; have HB := n4_; clear n0_ n1_ n2_ n3_ n4_; (try clear hb); (try clear hb2); (try clear hk); (try clear hi)))
    go_ret
    exact ⟨by first | rfl | (simp [errW_none, errW_some] <;> rfl) | (simp [*, errW_none, errW_some] <;> rfl), by repeat (first | (with_reducible first | exact HB.out | apply ba_ | apply pd_ | apply d1_ | refine bs_ ?_ GE261.out | refine bs_ ?_ GE267.out) | exact HB.out)⟩
   ·rw [if_neg c9] at H
    have c9b0 : (t259 == t265 && (t260 == t266)) = false := by simpa using c9
    (try (have c9b1 : decide (t259 = t265 && (t260 == t266)) = false := by simpa using c9))
    (try (have c9b2 : (t259 == t265 && (t260 == t266)) = false := by simpa using c9))
    (try (have c9b3 : ¬ (t259 = t265 && (t260 == t266)) := by simpa using c9))
    clear c9
    exact absurd ((Option.some.inj H).trans hxt.out) (by decide)
  ·replace c8 := bf_ c8
   subst c8
   have H1 : (some false) = some r := by rw [if_neg (show ¬ (false = true) by decide)] at H; exact H
   clear H; have H := H1; clear H1
   exact absurd ((Option.some.inj H).trans hxt.out) (by decide)

end Go.Proofs.YtmffjjncnbeldaaDoor.P
