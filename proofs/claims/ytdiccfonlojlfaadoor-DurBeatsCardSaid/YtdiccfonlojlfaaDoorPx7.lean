-- Written by a program of this session (wip/tools/xprint.py, over the kit's print): Lean checks it.
import Derived.Test.YtdiccfonlojlfaaDoorPx0
import Derived.Test.YtdiccfonlojlfaaDoorPx3
import Derived.Test.YtdiccfonlojlfaaDoorPx5
import Derived.Test.YtdiccfonlojlfaaDoorPx6
namespace Go.Proofs.YtdiccfonlojlfaaDoor.P
open Go.RowKit Go.Proofs.YtdiccfonlojlfaaDoorW.PrintWords Go.Proofs.YtdiccfonlojlfaaDoorW.PrintLast Go.Proofs.YtdiccfonlojlfaaDoorW.PrintMore
attribute [local go_sem] max2_int min2_int max_two min_two max_three min_three max_four min_four   -- for this text's walks alone
set_option linter.unusedVariables false
set_option linter.unusedSimpArgs false

/-! ### rat_product: function 65 -/
def rat_product.j0 : Nat → Int → Int → Int → Int → Bool → Option (Int × Int × Int)
 | 0, _, _, _, _, _ => none
 | k + 1, x8, x9, x10, x11, x55 => if x55 = true then ((rat_zero.f).bind fun bt249 => (some (bt249.1, bt249.2, 3))) else ((rat_sized.f (wrap64 (x8 * x9)) (wrap64 (x10 * x11))).bind fun bt251 => (some (bt251.1, bt251.2.1, bt251.2.2)))
def rat_product.f (k : Nat) (a0_0 : Int) (a0_1 : Int) (a1_0 : Int) (a1_1 : Int) : Option (Int × Int × Int) := (rat_abs.f a0_0).bind fun t243 => ((rat_common.f k t243 a1_1).bind fun t244 => ((rat_abs.f a1_0).bind fun t245 => ((rat_common.f k t245 a0_1).bind fun t246 => (if t244 = 0 then (none) else (if t246 = 0 then (none) else (if (wrap64 (Int.tdiv a1_0 t246)) = 0 then (if (wrap64 (Int.tdiv a1_1 t244)) = 0 then (none) else (rat_product.j0 k (wrap64 (Int.tdiv a0_0 t244)) (wrap64 (Int.tdiv a1_0 t246)) (wrap64 (Int.tdiv a0_1 t246)) (wrap64 (Int.tdiv a1_1 t244)) (decide ((wrap64 (Int.tdiv a0_1 t246)) > (wrap64 (Int.tdiv (1048576 : Int) (wrap64 (Int.tdiv a1_1 t244)))))))) else ((rat_abs.f (wrap64 (Int.tdiv a0_0 t244))).bind fun t247 => ((rat_abs.f (wrap64 (Int.tdiv a1_0 t246))).bind fun t248 => (if t248 = 0 then (none) else (if t247 > (wrap64 (Int.tdiv (1099511627776 : Int) t248)) then (rat_product.j0 k (wrap64 (Int.tdiv a0_0 t244)) (wrap64 (Int.tdiv a1_0 t246)) (wrap64 (Int.tdiv a0_1 t246)) (wrap64 (Int.tdiv a1_1 t244)) true) else (if (wrap64 (Int.tdiv a1_1 t244)) = 0 then (none) else (rat_product.j0 k (wrap64 (Int.tdiv a0_0 t244)) (wrap64 (Int.tdiv a1_0 t246)) (wrap64 (Int.tdiv a0_1 t246)) (wrap64 (Int.tdiv a1_1 t244)) (decide ((wrap64 (Int.tdiv a0_1 t246)) > (wrap64 (Int.tdiv (1048576 : Int) (wrap64 (Int.tdiv a1_1 t244))))))))))))))))))
theorem rat_product.mono_l : ∀ k, (∀ y0 y1 y2 y3 y4, LeO (rat_product.j0 k y0 y1 y2 y3 y4) (rat_product.j0 (k + 1) y0 y1 y2 y3 y4))
 | 0 => fun _ _ _ _ _ r h => by simp [rat_product.j0] at h
 | k + 1 => by
  have ih0 := rat_product.mono_l k
  ·intro y0 y1 y2 y3 y4
   unfold rat_product.j0
   repeat' first
   | (with_reducible exact ih0 _ _ _ _ _)
   | (with_reducible exact rat_common.mono _ _ _)
   | (with_reducible exact LeO.refl _)
   | (with_reducible exact LeO.none _)
   | (with_reducible refine LeO.ite ?_ ?_)
   | (with_reducible refine LeO.bind ?_ (fun _ => ?_))
   | exact ih0 _ _ _ _ _
   | exact rat_common.mono _ _ _
   | exact LeO.none _
   | refine LeO.ite ?_ ?_
   | refine LeO.bind ?_ (fun _ => ?_)
theorem rat_product.mono : ∀ a0 a1 a2 a3 k, LeO (rat_product.f k a0 a1 a2 a3) (rat_product.f (k + 1) a0 a1 a2 a3) := by
 intro a0 a1 a2 a3 k
 have ih0 := rat_product.mono_l k
 unfold rat_product.f
 repeat' first
   | (with_reducible exact ih0 _ _ _ _ _)
   | (with_reducible exact rat_common.mono _ _ _)
   | (with_reducible exact LeO.refl _)
   | (with_reducible exact LeO.none _)
   | (with_reducible refine LeO.ite ?_ ?_)
   | (with_reducible refine LeO.bind ?_ (fun _ => ?_))
   | exact ih0 _ _ _ _ _
   | exact rat_common.mono _ _ _
   | exact LeO.none _
   | refine LeO.ite ?_ ?_
   | refine LeO.bind ?_ (fun _ => ?_)
set_option maxHeartbeats 8000000 in
set_option maxRecDepth 100000 in
theorem rat_product.calls (k : Nat) (a0_0 : Int) (a0_1 : Int) (a1_0 : Int) (a1_1 : Int) (r1 : Int) (r2 : Int) (r3 : Int) (w : World) (h : rat_product.f k a0_0 a0_1 a1_0 a1_1 = some (r1, r2, r3)) :
  Calls Tryd.prog 65 #[.agg #[.int .i64 a0_0,.int .i64 a0_1],.agg #[.int .i64 a1_0,.int .i64 a1_1]] w fun e w' => e = .returned (.tuple #[.agg #[.int .i64 r1,.int .i64 r2],.int .i64 r3]) ∧ Below w.heap.size w w' := by
 have hu25 := Tryd.underlying25
 have HB := sd_ (Below.refl w.heap.size w)
 have H : ((rat_abs.f a0_0).bind fun t243 => ((rat_common.f k t243 a1_1).bind fun t244 => ((rat_abs.f a1_0).bind fun t245 => ((rat_common.f k t245 a0_1).bind fun t246 => (if t244 = 0 then (none) else (if t246 = 0 then (none) else (if (wrap64 (Int.tdiv a1_0 t246)) = 0 then (if (wrap64 (Int.tdiv a1_1 t244)) = 0 then (none) else (rat_product.j0 k (wrap64 (Int.tdiv a0_0 t244)) (wrap64 (Int.tdiv a1_0 t246)) (wrap64 (Int.tdiv a0_1 t246)) (wrap64 (Int.tdiv a1_1 t244)) (decide ((wrap64 (Int.tdiv a0_1 t246)) > (wrap64 (Int.tdiv (1048576 : Int) (wrap64 (Int.tdiv a1_1 t244)))))))) else ((rat_abs.f (wrap64 (Int.tdiv a0_0 t244))).bind fun t247 => ((rat_abs.f (wrap64 (Int.tdiv a1_0 t246))).bind fun t248 => (if t248 = 0 then (none) else (if t247 > (wrap64 (Int.tdiv (1099511627776 : Int) t248)) then (rat_product.j0 k (wrap64 (Int.tdiv a0_0 t244)) (wrap64 (Int.tdiv a1_0 t246)) (wrap64 (Int.tdiv a0_1 t246)) (wrap64 (Int.tdiv a1_1 t244)) true) else (if (wrap64 (Int.tdiv a1_1 t244)) = 0 then (none) else (rat_product.j0 k (wrap64 (Int.tdiv a0_0 t244)) (wrap64 (Int.tdiv a1_0 t246)) (wrap64 (Int.tdiv a0_1 t246)) (wrap64 (Int.tdiv a1_1 t244)) (decide ((wrap64 (Int.tdiv a0_1 t246)) > (wrap64 (Int.tdiv (1048576 : Int) (wrap64 (Int.tdiv a1_1 t244))))))))))))))))))) = some (r1,r2,r3) := h
 clear h
 replace H := ob_ H
 obtain ⟨t243,A30,H⟩ := H
 try dsimp only at H
 have A3 := sd_ A30
 clear A30
 replace H := ob_ H
 obtain ⟨t244,A40,H⟩ := H
 try dsimp only at H
 have A4 := sd_ A40
 clear A40
 replace H := ob_ H
 obtain ⟨t245,A50,H⟩ := H
 try dsimp only at H
 have A5 := sd_ A50
 clear A50
 replace H := ob_ H
 obtain ⟨t246,A60,H⟩ := H
 try dsimp only at H
 have A6 := sd_ A60
 clear A60
 by_cases c7 : t244 = 0
 ·rw [if_pos c7] at H
  exact absurd H (by simp)
 ·rw [if_neg c7] at H
  have c7b0 : (t244 == 0) = false := beq_eq_false_iff_ne.mpr c7
  have c7b1 : (t244 != 0) = true := bne_iff_ne.mpr c7
  by_cases c8 : t246 = 0
  ·rw [if_pos c8] at H
   exact absurd H (by simp)
  ·rw [if_neg c8] at H
   have c8b0 : (t246 == 0) = false := beq_eq_false_iff_ne.mpr c8
   have c8b1 : (t246 != 0) = true := bne_iff_ne.mpr c8
   have HC9 := sd_ H
   clear H
   go_enter Tryd.func65,Tryd.ntmps65
   go_upto_region 4 with (first|((with_reducible refine gate_dst (N := 2) rfl ?_);refine box_event ?hg (N := 2) ?hd (cs := #[.int .i64 a0_0,.int .i64 a0_1]) (t := 25) ?hr ?_;(case hd => rfl);(case hg => rfl);(case hr => first|(go_simp;done)|(go_simp;rfl));intro gb240 hg w10 hbox hb;have BK240 := sd_ hbox;have GW240 := gw_ HB e0_ hg;have GE240 := GW240;replace HB := hb_ HB e0_ hb;clear hb hbox hg)|((with_reducible refine gate_dst (N := 3) rfl ?_);refine box_event ?hg (N := 3) ?hd (cs := #[.int .i64 a1_0,.int .i64 a1_1]) (t := 25) ?hr ?_;(case hd => rfl);(case hg => rfl);(case hr => first|(go_simp;done)|(go_simp;rfl));intro gb241 hg w11 hbox hb;have BK241 := sd_ hbox;have GW241 := gw_ HB (e_ GE240 e0_) hg;have GE241 := GW241;have NB240_241 := nb_ BK240 hg;have NB241_240 := sy_ NB240_241;replace BK240 := kb_ BK240 hb;replace HB := hb_ HB (e_ GE240 e0_) hb;clear hb hbox hg)|((with_reducible refine gate_dst (N := 4) rfl ?_);refine box_event ?hg (N := 4) ?hd (cs := #[.int .i64 0,.int .i64 0]) (t := 25) ?hr ?_;(case hd => rfl);(case hg => rfl);(case hr => first|(go_simp;done)|(go_simp;rfl));intro gb242 hg w12 hbox hb;have BK242 := sd_ hbox;have GW242 := gw_ HB (e_ GE240 (e_ GE241 e0_)) hg;have GE242 := GW242;have NB240_242 := nb_ BK240 hg;have NB242_240 := sy_ NB240_242;have NB241_242 := nb_ BK241 hg;have NB242_241 := sy_ NB241_242;replace BK240 := kb_ BK240 hb;replace BK241 := kb_ BK241 hb;replace HB := hb_ HB (e_ GE240 (e_ GE241 e0_)) hb;clear hb hbox hg;have hnb13 := NB240_241.out;have hnc13 := NB241_240.out;have hnb14 := NB240_242.out;have hnc14 := NB242_240.out;have hcz15_0 : w12.cell? ⟨gb240,0,none⟩ = some (.int .i64 a0_0) := (kc_ BK240.out 0).trans rfl;have hcz15_1 : w12.cell? ⟨gb240,1,none⟩ = some (.int .i64 a0_1) := (kc_ BK240.out 1).trans rfl;have hfz15_0 := kf_ BK240.out 0;have hfz15_1 := kf_ BK240.out 1)|(go_at_call 60;(with_reducible refine (rat_abs.calls a0_0 t243 _ A3.out).mono ?_);rintro e w' ⟨rfl,⟨nd,rfl⟩⟩;(try first|exact ⟨rfl,_,World.drewN_drewN _ _ _⟩|exact ⟨rfl,_,Eq.trans (World.drewN_drewN _ _ _) (congrArg (World.drewN _) (Nat.add_assoc _ _ _))⟩);have hnb16 := NB241_242.out;have hnc16 := NB242_241.out;have hcz17_0 : w12.cell? ⟨gb241,0,none⟩ = some (.int .i64 a1_0) := (kc_ BK241.out 0).trans rfl;have hcz17_1 : w12.cell? ⟨gb241,1,none⟩ = some (.int .i64 a1_1) := (kc_ BK241.out 1).trans rfl;have hfz17_0 := kf_ BK241.out 0;have hfz17_1 := kf_ BK241.out 1)|(go_at_call 59;(with_reducible refine (rat_common.calls k t243 a1_1 t244 _ A4.out).mono ?_);rintro e w' ⟨rfl,⟨nd,rfl⟩⟩;(try first|exact ⟨rfl,_,World.drewN_drewN _ _ _⟩|exact ⟨rfl,_,Eq.trans (World.drewN_drewN _ _ _) (congrArg (World.drewN _) (Nat.add_assoc _ _ _))⟩))|(go_at_call 60;(with_reducible refine (rat_abs.calls a1_0 t245 _ A5.out).mono ?_);rintro e w' ⟨rfl,⟨nd,rfl⟩⟩;(try first|exact ⟨rfl,_,World.drewN_drewN _ _ _⟩|exact ⟨rfl,_,Eq.trans (World.drewN_drewN _ _ _) (congrArg (World.drewN _) (Nat.add_assoc _ _ _))⟩))|(go_at_call 59;(with_reducible refine (rat_common.calls k t245 a0_1 t246 _ A6.out).mono ?_);rintro e w' ⟨rfl,⟨nd,rfl⟩⟩;(try first|exact ⟨rfl,_,World.drewN_drewN _ _ _⟩|exact ⟨rfl,_,Eq.trans (World.drewN_drewN _ _ _) (congrArg (World.drewN _) (Nat.add_assoc _ _ _))⟩)))
   repeat (go_quiet (first|((with_reducible refine gate_dst (N := 2) rfl ?_);refine box_event ?hg (N := 2) ?hd (cs := #[.int .i64 a0_0,.int .i64 a0_1]) (t := 25) ?hr ?_;(case hd => rfl);(case hg => rfl);(case hr => first|(go_simp;done)|(go_simp;rfl));intro gb240 hg w10 hbox hb;have BK240 := sd_ hbox;have GW240 := gw_ HB e0_ hg;have GE240 := GW240;replace HB := hb_ HB e0_ hb;clear hb hbox hg)|((with_reducible refine gate_dst (N := 3) rfl ?_);refine box_event ?hg (N := 3) ?hd (cs := #[.int .i64 a1_0,.int .i64 a1_1]) (t := 25) ?hr ?_;(case hd => rfl);(case hg => rfl);(case hr => first|(go_simp;done)|(go_simp;rfl));intro gb241 hg w11 hbox hb;have BK241 := sd_ hbox;have GW241 := gw_ HB (e_ GE240 e0_) hg;have GE241 := GW241;have NB240_241 := nb_ BK240 hg;have NB241_240 := sy_ NB240_241;replace BK240 := kb_ BK240 hb;replace HB := hb_ HB (e_ GE240 e0_) hb;clear hb hbox hg)|((with_reducible refine gate_dst (N := 4) rfl ?_);refine box_event ?hg (N := 4) ?hd (cs := #[.int .i64 0,.int .i64 0]) (t := 25) ?hr ?_;(case hd => rfl);(case hg => rfl);(case hr => first|(go_simp;done)|(go_simp;rfl));intro gb242 hg w12 hbox hb;have BK242 := sd_ hbox;have GW242 := gw_ HB (e_ GE240 (e_ GE241 e0_)) hg;have GE242 := GW242;have NB240_242 := nb_ BK240 hg;have NB242_240 := sy_ NB240_242;have NB241_242 := nb_ BK241 hg;have NB242_241 := sy_ NB241_242;replace BK240 := kb_ BK240 hb;replace BK241 := kb_ BK241 hb;replace HB := hb_ HB (e_ GE240 (e_ GE241 e0_)) hb;clear hb hbox hg;have hnb13 := NB240_241.out;have hnc13 := NB241_240.out;have hnb14 := NB240_242.out;have hnc14 := NB242_240.out;have hcz15_0 : w12.cell? ⟨gb240,0,none⟩ = some (.int .i64 a0_0) := (kc_ BK240.out 0).trans rfl;have hcz15_1 : w12.cell? ⟨gb240,1,none⟩ = some (.int .i64 a0_1) := (kc_ BK240.out 1).trans rfl;have hfz15_0 := kf_ BK240.out 0;have hfz15_1 := kf_ BK240.out 1)|(go_at_call 60;(with_reducible refine (rat_abs.calls a0_0 t243 _ A3.out).mono ?_);rintro e w' ⟨rfl,⟨nd,rfl⟩⟩;(try first|exact ⟨rfl,_,World.drewN_drewN _ _ _⟩|exact ⟨rfl,_,Eq.trans (World.drewN_drewN _ _ _) (congrArg (World.drewN _) (Nat.add_assoc _ _ _))⟩);have hnb16 := NB241_242.out;have hnc16 := NB242_241.out;have hcz17_0 : w12.cell? ⟨gb241,0,none⟩ = some (.int .i64 a1_0) := (kc_ BK241.out 0).trans rfl;have hcz17_1 : w12.cell? ⟨gb241,1,none⟩ = some (.int .i64 a1_1) := (kc_ BK241.out 1).trans rfl;have hfz17_0 := kf_ BK241.out 0;have hfz17_1 := kf_ BK241.out 1)|(go_at_call 59;(with_reducible refine (rat_common.calls k t243 a1_1 t244 _ A4.out).mono ?_);rintro e w' ⟨rfl,⟨nd,rfl⟩⟩;(try first|exact ⟨rfl,_,World.drewN_drewN _ _ _⟩|exact ⟨rfl,_,Eq.trans (World.drewN_drewN _ _ _) (congrArg (World.drewN _) (Nat.add_assoc _ _ _))⟩))|(go_at_call 60;(with_reducible refine (rat_abs.calls a1_0 t245 _ A5.out).mono ?_);rintro e w' ⟨rfl,⟨nd,rfl⟩⟩;(try first|exact ⟨rfl,_,World.drewN_drewN _ _ _⟩|exact ⟨rfl,_,Eq.trans (World.drewN_drewN _ _ _) (congrArg (World.drewN _) (Nat.add_assoc _ _ _))⟩))|(go_at_call 59;(with_reducible refine (rat_common.calls k t245 a0_1 t246 _ A6.out).mono ?_);rintro e w' ⟨rfl,⟨nd,rfl⟩⟩;(try first|exact ⟨rfl,_,World.drewN_drewN _ _ _⟩|exact ⟨rfl,_,Eq.trans (World.drewN_drewN _ _ _) (congrArg (World.drewN _) (Nat.add_assoc _ _ _))⟩)));go_upto_region 4 with (first|((with_reducible refine gate_dst (N := 2) rfl ?_);refine box_event ?hg (N := 2) ?hd (cs := #[.int .i64 a0_0,.int .i64 a0_1]) (t := 25) ?hr ?_;(case hd => rfl);(case hg => rfl);(case hr => first|(go_simp;done)|(go_simp;rfl));intro gb240 hg w10 hbox hb;have BK240 := sd_ hbox;have GW240 := gw_ HB e0_ hg;have GE240 := GW240;replace HB := hb_ HB e0_ hb;clear hb hbox hg)|((with_reducible refine gate_dst (N := 3) rfl ?_);refine box_event ?hg (N := 3) ?hd (cs := #[.int .i64 a1_0,.int .i64 a1_1]) (t := 25) ?hr ?_;(case hd => rfl);(case hg => rfl);(case hr => first|(go_simp;done)|(go_simp;rfl));intro gb241 hg w11 hbox hb;have BK241 := sd_ hbox;have GW241 := gw_ HB (e_ GE240 e0_) hg;have GE241 := GW241;have NB240_241 := nb_ BK240 hg;have NB241_240 := sy_ NB240_241;replace BK240 := kb_ BK240 hb;replace HB := hb_ HB (e_ GE240 e0_) hb;clear hb hbox hg)|((with_reducible refine gate_dst (N := 4) rfl ?_);refine box_event ?hg (N := 4) ?hd (cs := #[.int .i64 0,.int .i64 0]) (t := 25) ?hr ?_;(case hd => rfl);(case hg => rfl);(case hr => first|(go_simp;done)|(go_simp;rfl));intro gb242 hg w12 hbox hb;have BK242 := sd_ hbox;have GW242 := gw_ HB (e_ GE240 (e_ GE241 e0_)) hg;have GE242 := GW242;have NB240_242 := nb_ BK240 hg;have NB242_240 := sy_ NB240_242;have NB241_242 := nb_ BK241 hg;have NB242_241 := sy_ NB241_242;replace BK240 := kb_ BK240 hb;replace BK241 := kb_ BK241 hb;replace HB := hb_ HB (e_ GE240 (e_ GE241 e0_)) hb;clear hb hbox hg;have hnb13 := NB240_241.out;have hnc13 := NB241_240.out;have hnb14 := NB240_242.out;have hnc14 := NB242_240.out;have hcz15_0 : w12.cell? ⟨gb240,0,none⟩ = some (.int .i64 a0_0) := (kc_ BK240.out 0).trans rfl;have hcz15_1 : w12.cell? ⟨gb240,1,none⟩ = some (.int .i64 a0_1) := (kc_ BK240.out 1).trans rfl;have hfz15_0 := kf_ BK240.out 0;have hfz15_1 := kf_ BK240.out 1)|(go_at_call 60;(with_reducible refine (rat_abs.calls a0_0 t243 _ A3.out).mono ?_);rintro e w' ⟨rfl,⟨nd,rfl⟩⟩;(try first|exact ⟨rfl,_,World.drewN_drewN _ _ _⟩|exact ⟨rfl,_,Eq.trans (World.drewN_drewN _ _ _) (congrArg (World.drewN _) (Nat.add_assoc _ _ _))⟩);have hnb16 := NB241_242.out;have hnc16 := NB242_241.out;have hcz17_0 : w12.cell? ⟨gb241,0,none⟩ = some (.int .i64 a1_0) := (kc_ BK241.out 0).trans rfl;have hcz17_1 : w12.cell? ⟨gb241,1,none⟩ = some (.int .i64 a1_1) := (kc_ BK241.out 1).trans rfl;have hfz17_0 := kf_ BK241.out 0;have hfz17_1 := kf_ BK241.out 1)|(go_at_call 59;(with_reducible refine (rat_common.calls k t243 a1_1 t244 _ A4.out).mono ?_);rintro e w' ⟨rfl,⟨nd,rfl⟩⟩;(try first|exact ⟨rfl,_,World.drewN_drewN _ _ _⟩|exact ⟨rfl,_,Eq.trans (World.drewN_drewN _ _ _) (congrArg (World.drewN _) (Nat.add_assoc _ _ _))⟩))|(go_at_call 60;(with_reducible refine (rat_abs.calls a1_0 t245 _ A5.out).mono ?_);rintro e w' ⟨rfl,⟨nd,rfl⟩⟩;(try first|exact ⟨rfl,_,World.drewN_drewN _ _ _⟩|exact ⟨rfl,_,Eq.trans (World.drewN_drewN _ _ _) (congrArg (World.drewN _) (Nat.add_assoc _ _ _))⟩))|(go_at_call 59;(with_reducible refine (rat_common.calls k t245 a0_1 t246 _ A6.out).mono ?_);rintro e w' ⟨rfl,⟨nd,rfl⟩⟩;(try first|exact ⟨rfl,_,World.drewN_drewN _ _ _⟩|exact ⟨rfl,_,Eq.trans (World.drewN_drewN _ _ _) (congrArg (World.drewN _) (Nat.add_assoc _ _ _))⟩))))
   (try simp only [Act.put,ls_,lz_,lc_])
   go_cut [55] (fun v55 wc => ∃ (kq : Nat) (x55_8 : Bool),v55 = .bool x55_8 ∧ Aside0 (rat_product.j0 kq (wrap64 (Int.tdiv a0_0 t244)) (wrap64 (Int.tdiv a1_0 t246)) (wrap64 (Int.tdiv a0_1 t246)) (wrap64 (Int.tdiv a1_1 t244)) x55_8 = some (r1,r2,r3)) ∧ Aside0 (kq ≤ k) ∧ Aside0 (wc.heap[gb240]? = some (.cells #[.int .i64 a0_0,.int .i64 a0_1] 25 (0,0))) ∧ Aside0 (wc.heap[gb241]? = some (.cells #[.int .i64 a1_0,.int .i64 a1_1] 25 (0,0))) ∧ Aside0 (wc.heap[gb242]? = some (.cells #[.int .i64 0,.int .i64 0] 25 (0,0))) ∧ Aside0 (Below w.heap.size w wc))
   case first =>
    have H := HC9.out
    clear HC9
    by_cases c18 : (wrap64 (Int.tdiv a1_0 t246)) = 0
    ·rw [if_pos c18] at H
     have c18b0 : ((wrap64 (Int.tdiv a1_0 t246)) == 0) = true := beq_iff_eq.mpr c18
     have c18b1 : ((wrap64 (Int.tdiv a1_0 t246)) != 0) = false := bne_eq_false_iff_eq.mpr c18
     clear c18
     (first|rw [c18b0]|(simp only [i64_w,i32_w];rw [c18b0])|skip)
     by_cases c19 : (wrap64 (Int.tdiv a1_1 t244)) = 0
     ·rw [if_pos c19] at H
      exact absurd H (by simp)
     ·rw [if_neg c19] at H
      have c19b0 : ((wrap64 (Int.tdiv a1_1 t244)) == 0) = false := beq_eq_false_iff_ne.mpr c19
      have c19b1 : ((wrap64 (Int.tdiv a1_1 t244)) != 0) = true := bne_iff_ne.mpr c19
      have H' := sd_ H
      clear H
      go_wp2
      repeat (go_quiet (fail);try go_wp2)
      go_meet
      case rel => exact ⟨_,(decide ((wrap64 (Int.tdiv a0_1 t246)) > (wrap64 (Int.tdiv (1048576 : Int) (wrap64 (Int.tdiv a1_1 t244)))))),(by first|rfl|(simp;done)|(simp [*];done)|(simp [bne];done)),H',⟨by first|omega|exact Nat.le_refl _⟩,⟨by (with_reducible repeat first|apply kn_|apply kd_|apply ka_);exact BK240.out⟩,⟨by (with_reducible repeat first|apply kn_|apply kd_|apply ka_);exact BK241.out⟩,⟨by (with_reducible repeat first|apply kn_|apply kd_|apply ka_);exact BK242.out⟩,⟨by repeat (first|(with_reducible first|exact HB.out|apply ba_|apply pd_|apply d1_|refine bs_ ?_ GE240.out|refine bs_ ?_ GE241.out|refine bs_ ?_ GE242.out)|exact HB.out)⟩⟩
    ·rw [if_neg c18] at H
     have c18b0 : ((wrap64 (Int.tdiv a1_0 t246)) == 0) = false := beq_eq_false_iff_ne.mpr c18
     have c18b1 : ((wrap64 (Int.tdiv a1_0 t246)) != 0) = true := bne_iff_ne.mpr c18
     (first|rw [c18b0]|(simp only [i64_w,i32_w];rw [c18b0])|skip)
     replace H := ob_ H
     obtain ⟨t247,A200,H⟩ := H
     try dsimp only at H
     have A20 := sd_ A200
     clear A200
     replace H := ob_ H
     obtain ⟨t248,A210,H⟩ := H
     try dsimp only at H
     have A21 := sd_ A210
     clear A210
     by_cases c22 : t248 = 0
     ·rw [if_pos c22] at H
      exact absurd H (by simp)
     ·rw [if_neg c22] at H
      have c22b0 : (t248 == 0) = false := beq_eq_false_iff_ne.mpr c22
      have c22b1 : (t248 != 0) = true := bne_iff_ne.mpr c22
      by_cases c23 : t247 > (wrap64 (Int.tdiv (1099511627776 : Int) t248))
      ·rw [if_pos c23] at H
       have c23b0 : decide ((wrap64 (Int.tdiv (1099511627776 : Int) t248)) < t247) = true := dt_ c23
       clear c23
       have H' := sd_ H
       clear H
       go_wp2_with (first|(go_at_call 60;(with_reducible refine (rat_abs.calls (wrap64 (Int.tdiv a0_0 t244)) t247 _ A20.out).mono ?_);rintro e w' ⟨rfl,⟨nd,rfl⟩⟩;(try first|exact ⟨rfl,_,World.drewN_drewN _ _ _⟩|exact ⟨rfl,_,Eq.trans (World.drewN_drewN _ _ _) (congrArg (World.drewN _) (Nat.add_assoc _ _ _))⟩))|(go_at_call 60;(with_reducible refine (rat_abs.calls (wrap64 (Int.tdiv a1_0 t246)) t248 _ A21.out).mono ?_);rintro e w' ⟨rfl,⟨nd,rfl⟩⟩;(try first|exact ⟨rfl,_,World.drewN_drewN _ _ _⟩|exact ⟨rfl,_,Eq.trans (World.drewN_drewN _ _ _) (congrArg (World.drewN _) (Nat.add_assoc _ _ _))⟩)))
       repeat (go_quiet (first|(go_at_call 60;(with_reducible refine (rat_abs.calls (wrap64 (Int.tdiv a0_0 t244)) t247 _ A20.out).mono ?_);rintro e w' ⟨rfl,⟨nd,rfl⟩⟩;(try first|exact ⟨rfl,_,World.drewN_drewN _ _ _⟩|exact ⟨rfl,_,Eq.trans (World.drewN_drewN _ _ _) (congrArg (World.drewN _) (Nat.add_assoc _ _ _))⟩))|(go_at_call 60;(with_reducible refine (rat_abs.calls (wrap64 (Int.tdiv a1_0 t246)) t248 _ A21.out).mono ?_);rintro e w' ⟨rfl,⟨nd,rfl⟩⟩;(try first|exact ⟨rfl,_,World.drewN_drewN _ _ _⟩|exact ⟨rfl,_,Eq.trans (World.drewN_drewN _ _ _) (congrArg (World.drewN _) (Nat.add_assoc _ _ _))⟩)));try go_wp2_with (first|(go_at_call 60;(with_reducible refine (rat_abs.calls (wrap64 (Int.tdiv a0_0 t244)) t247 _ A20.out).mono ?_);rintro e w' ⟨rfl,⟨nd,rfl⟩⟩;(try first|exact ⟨rfl,_,World.drewN_drewN _ _ _⟩|exact ⟨rfl,_,Eq.trans (World.drewN_drewN _ _ _) (congrArg (World.drewN _) (Nat.add_assoc _ _ _))⟩))|(go_at_call 60;(with_reducible refine (rat_abs.calls (wrap64 (Int.tdiv a1_0 t246)) t248 _ A21.out).mono ?_);rintro e w' ⟨rfl,⟨nd,rfl⟩⟩;(try first|exact ⟨rfl,_,World.drewN_drewN _ _ _⟩|exact ⟨rfl,_,Eq.trans (World.drewN_drewN _ _ _) (congrArg (World.drewN _) (Nat.add_assoc _ _ _))⟩))))
       go_meet
       case rel => exact ⟨_,(true),(by first|rfl|(simp;done)|(simp [*];done)|(simp [bne];done)),H',⟨by first|omega|exact Nat.le_refl _⟩,⟨by (with_reducible repeat first|apply kn_|apply kd_|apply ka_);exact BK240.out⟩,⟨by (with_reducible repeat first|apply kn_|apply kd_|apply ka_);exact BK241.out⟩,⟨by (with_reducible repeat first|apply kn_|apply kd_|apply ka_);exact BK242.out⟩,⟨by repeat (first|(with_reducible first|exact HB.out|apply ba_|apply pd_|apply d1_|refine bs_ ?_ GE240.out|refine bs_ ?_ GE241.out|refine bs_ ?_ GE242.out)|exact HB.out)⟩⟩
      ·rw [if_neg c23] at H
       have c23b0 : decide ((wrap64 (Int.tdiv (1099511627776 : Int) t248)) < t247) = false := df_ c23
       clear c23
       by_cases c24 : (wrap64 (Int.tdiv a1_1 t244)) = 0
       ·rw [if_pos c24] at H
        exact absurd H (by simp)
       ·rw [if_neg c24] at H
        have c24b0 : ((wrap64 (Int.tdiv a1_1 t244)) == 0) = false := beq_eq_false_iff_ne.mpr c24
        have c24b1 : ((wrap64 (Int.tdiv a1_1 t244)) != 0) = true := bne_iff_ne.mpr c24
        have H' := sd_ H
        clear H
        go_wp2_with (first|(go_at_call 60;(with_reducible refine (rat_abs.calls (wrap64 (Int.tdiv a0_0 t244)) t247 _ A20.out).mono ?_);rintro e w' ⟨rfl,⟨nd,rfl⟩⟩;(try first|exact ⟨rfl,_,World.drewN_drewN _ _ _⟩|exact ⟨rfl,_,Eq.trans (World.drewN_drewN _ _ _) (congrArg (World.drewN _) (Nat.add_assoc _ _ _))⟩))|(go_at_call 60;(with_reducible refine (rat_abs.calls (wrap64 (Int.tdiv a1_0 t246)) t248 _ A21.out).mono ?_);rintro e w' ⟨rfl,⟨nd,rfl⟩⟩;(try first|exact ⟨rfl,_,World.drewN_drewN _ _ _⟩|exact ⟨rfl,_,Eq.trans (World.drewN_drewN _ _ _) (congrArg (World.drewN _) (Nat.add_assoc _ _ _))⟩)))
        repeat (go_quiet (first|(go_at_call 60;(with_reducible refine (rat_abs.calls (wrap64 (Int.tdiv a0_0 t244)) t247 _ A20.out).mono ?_);rintro e w' ⟨rfl,⟨nd,rfl⟩⟩;(try first|exact ⟨rfl,_,World.drewN_drewN _ _ _⟩|exact ⟨rfl,_,Eq.trans (World.drewN_drewN _ _ _) (congrArg (World.drewN _) (Nat.add_assoc _ _ _))⟩))|(go_at_call 60;(with_reducible refine (rat_abs.calls (wrap64 (Int.tdiv a1_0 t246)) t248 _ A21.out).mono ?_);rintro e w' ⟨rfl,⟨nd,rfl⟩⟩;(try first|exact ⟨rfl,_,World.drewN_drewN _ _ _⟩|exact ⟨rfl,_,Eq.trans (World.drewN_drewN _ _ _) (congrArg (World.drewN _) (Nat.add_assoc _ _ _))⟩)));try go_wp2_with (first|(go_at_call 60;(with_reducible refine (rat_abs.calls (wrap64 (Int.tdiv a0_0 t244)) t247 _ A20.out).mono ?_);rintro e w' ⟨rfl,⟨nd,rfl⟩⟩;(try first|exact ⟨rfl,_,World.drewN_drewN _ _ _⟩|exact ⟨rfl,_,Eq.trans (World.drewN_drewN _ _ _) (congrArg (World.drewN _) (Nat.add_assoc _ _ _))⟩))|(go_at_call 60;(with_reducible refine (rat_abs.calls (wrap64 (Int.tdiv a1_0 t246)) t248 _ A21.out).mono ?_);rintro e w' ⟨rfl,⟨nd,rfl⟩⟩;(try first|exact ⟨rfl,_,World.drewN_drewN _ _ _⟩|exact ⟨rfl,_,Eq.trans (World.drewN_drewN _ _ _) (congrArg (World.drewN _) (Nat.add_assoc _ _ _))⟩))))
        go_meet
        case rel => exact ⟨_,(decide ((wrap64 (Int.tdiv a0_1 t246)) > (wrap64 (Int.tdiv (1048576 : Int) (wrap64 (Int.tdiv a1_1 t244)))))),(by first|rfl|(simp;done)|(simp [*];done)|(simp [bne];done)),H',⟨by first|omega|exact Nat.le_refl _⟩,⟨by (with_reducible repeat first|apply kn_|apply kd_|apply ka_);exact BK240.out⟩,⟨by (with_reducible repeat first|apply kn_|apply kd_|apply ka_);exact BK241.out⟩,⟨by (with_reducible repeat first|apply kn_|apply kd_|apply ka_);exact BK242.out⟩,⟨by repeat (first|(with_reducible first|exact HB.out|apply ba_|apply pd_|apply d1_|refine bs_ ?_ GE240.out|refine bs_ ?_ GE241.out|refine bs_ ?_ GE242.out)|exact HB.out)⟩⟩
   case rest =>
    clear HC9
    try clear c1;try clear c2;try clear p2;try clear c6;try clear p6;try clear c7;try clear c7b0;try clear c7b1;try clear c8;try clear c8b0;try clear c8b1;try clear c13;try clear c14;try clear c16;try clear c18;try clear c18b0;try clear c18b1;try clear c19;try clear c19b0;try clear c19b1;try clear c22;try clear c22b0;try clear c22b1;try clear c23;try clear c23b0;try clear c24;try clear c24b0;try clear c24b1;try clear hcz15_0;try clear hcz15_1;try clear hcz17_0;try clear hcz17_1;try clear hfz15_0;try clear hfz15_1;try clear hfz17_0;try clear hfz17_1
    obtain ⟨kq,x55_8,rfl,HA,HJ8,BK240,BK241,BK242,HB⟩ := hcut
    cases kq with
    | zero => exact absurd HA.out (by simp [rat_product.j0])
    | succ kj8 =>
     have H := HA.out
     clear HA
     simp only [rat_product.j0] at H
     by_cases c25 : x55_8 = true
     ·subst c25
      have H1 : ((rat_zero.f).bind fun bt249 => (some (bt249.1,bt249.2,3))) = some (r1,r2,r3) := by rw [if_pos rfl] at H;exact H
      clear H;have H := H1;clear H1
      replace H := ob_ H
      obtain ⟨⟨t249,t250⟩,A260,H⟩ := H
      replace H : (some (t249,t250,3)) = some (r1,r2,r3) := H
      have A26 := sd_ A260
      clear A260
      simp only [Option.some.injEq,Prod.mk.injEq] at H
      obtain ⟨rfl,rfl,rfl⟩ := H
      go_wp2_with (first|(go_at_call 47;(with_reducible refine (rat_zero.calls  t249 t250 _ A26.out).mono ?_);rintro e w27 ⟨rfl,hb⟩;replace BK240 := kb_ BK240 hb;replace BK241 := kb_ BK241 hb;replace BK242 := kb_ BK242 hb;replace HB := hb_ HB (e_ GE240 (e_ GE241 (e_ GE242 e0_))) hb;(try clear hb);(try clear hb2);(try clear hk);(try clear hi);have hnb28 := NB242_240.out;have hnc28 := NB240_242.out;have hnb29 := NB242_241.out;have hnc29 := NB241_242.out;have hcz30_0 : w27.cell? ⟨gb242,0,none⟩ = some (.int .i64 0) := (kc_ BK242.out 0).trans rfl;have hcz30_1 : w27.cell? ⟨gb242,1,none⟩ = some (.int .i64 0) := (kc_ BK242.out 1).trans rfl;have hfz30_0 := kf_ BK242.out 0;have hfz30_1 := kf_ BK242.out 1))
      repeat (go_quiet (first|(go_at_call 47;(with_reducible refine (rat_zero.calls  t249 t250 _ A26.out).mono ?_);rintro e w27 ⟨rfl,hb⟩;replace BK240 := kb_ BK240 hb;replace BK241 := kb_ BK241 hb;replace BK242 := kb_ BK242 hb;replace HB := hb_ HB (e_ GE240 (e_ GE241 (e_ GE242 e0_))) hb;(try clear hb);(try clear hb2);(try clear hk);(try clear hi);have hnb28 := NB242_240.out;have hnc28 := NB240_242.out;have hnb29 := NB242_241.out;have hnc29 := NB241_242.out;have hcz30_0 : w27.cell? ⟨gb242,0,none⟩ = some (.int .i64 0) := (kc_ BK242.out 0).trans rfl;have hcz30_1 : w27.cell? ⟨gb242,1,none⟩ = some (.int .i64 0) := (kc_ BK242.out 1).trans rfl;have hfz30_0 := kf_ BK242.out 0;have hfz30_1 := kf_ BK242.out 1));try go_wp2_with (first|(go_at_call 47;(with_reducible refine (rat_zero.calls  t249 t250 _ A26.out).mono ?_);rintro e w27 ⟨rfl,hb⟩;replace BK240 := kb_ BK240 hb;replace BK241 := kb_ BK241 hb;replace BK242 := kb_ BK242 hb;replace HB := hb_ HB (e_ GE240 (e_ GE241 (e_ GE242 e0_))) hb;(try clear hb);(try clear hb2);(try clear hk);(try clear hi);have hnb28 := NB242_240.out;have hnc28 := NB240_242.out;have hnb29 := NB242_241.out;have hnc29 := NB241_242.out;have hcz30_0 : w27.cell? ⟨gb242,0,none⟩ = some (.int .i64 0) := (kc_ BK242.out 0).trans rfl;have hcz30_1 : w27.cell? ⟨gb242,1,none⟩ = some (.int .i64 0) := (kc_ BK242.out 1).trans rfl;have hfz30_0 := kf_ BK242.out 0;have hfz30_1 := kf_ BK242.out 1)))
      refine bodyPost_ret (results_ct rfl _ _ gb242 25 #[.int .i64 t249,.int .i64 t250] (0,0) _ rfl (by (with_reducible repeat first|apply kn_|apply kd_|apply ka_);refine blk_put (cs := #[.int .i64 t249,.int .i64 0]) ?_ 1 _ rfl;(with_reducible repeat first|apply kn_|apply kd_|apply ka_);refine blk_put (cs := #[.int .i64 0,.int .i64 0]) ?_ 0 _ rfl;(with_reducible repeat first|apply kn_|apply kd_|apply ka_);exact BK242.out) Tryd.underlying25 rfl (by kernel_rfl)) rfl ?_
      exact ⟨by first|rfl|(simp [errW_none,errW_some] <;> rfl)|(simp [*,errW_none,errW_some] <;> rfl),by repeat (first|(with_reducible first|exact HB.out|apply ba_|apply pd_|apply d1_|refine bs_ ?_ GE240.out|refine bs_ ?_ GE241.out|refine bs_ ?_ GE242.out)|exact HB.out)⟩
     ·replace c25 := bf_ c25
      subst c25
      have H1 : ((rat_sized.f (wrap64 ((wrap64 (Int.tdiv a0_0 t244)) * (wrap64 (Int.tdiv a1_0 t246)))) (wrap64 ((wrap64 (Int.tdiv a0_1 t246)) * (wrap64 (Int.tdiv a1_1 t244))))).bind fun bt251 => (some (bt251.1,bt251.2.1,bt251.2.2))) = some (r1,r2,r3) := by rw [if_neg (show ¬ (false = true) by decide)] at H;exact H
      clear H;have H := H1;clear H1
      replace H := ob_ H
      obtain ⟨⟨t251,t252,t253⟩,A310,H⟩ := H
      replace H : (some (t251,t252,t253)) = some (r1,r2,r3) := H
      have A31 := sd_ A310
      clear A310
      simp only [Option.some.injEq,Prod.mk.injEq] at H
      obtain ⟨rfl,rfl,rfl⟩ := H
      go_wp2_with (first|(go_at_call 68;(with_reducible refine (rat_sized.calls (wrap64 ((wrap64 (Int.tdiv a0_0 t244)) * (wrap64 (Int.tdiv a1_0 t246)))) (wrap64 ((wrap64 (Int.tdiv a0_1 t246)) * (wrap64 (Int.tdiv a1_1 t244)))) t251 t252 t253 _ A31.out).mono ?_);rintro e w32 ⟨rfl,hb⟩;replace BK240 := kb_ BK240 hb;replace BK241 := kb_ BK241 hb;replace BK242 := kb_ BK242 hb;replace HB := hb_ HB (e_ GE240 (e_ GE241 (e_ GE242 e0_))) hb;(try clear hb);(try clear hb2);(try clear hk);(try clear hi);have hnb33 := NB242_240.out;have hnc33 := NB240_242.out;have hnb34 := NB242_241.out;have hnc34 := NB241_242.out;have hcz35_0 : w32.cell? ⟨gb242,0,none⟩ = some (.int .i64 0) := (kc_ BK242.out 0).trans rfl;have hcz35_1 : w32.cell? ⟨gb242,1,none⟩ = some (.int .i64 0) := (kc_ BK242.out 1).trans rfl;have hfz35_0 := kf_ BK242.out 0;have hfz35_1 := kf_ BK242.out 1))
      repeat (go_quiet (first|(go_at_call 68;(with_reducible refine (rat_sized.calls (wrap64 ((wrap64 (Int.tdiv a0_0 t244)) * (wrap64 (Int.tdiv a1_0 t246)))) (wrap64 ((wrap64 (Int.tdiv a0_1 t246)) * (wrap64 (Int.tdiv a1_1 t244)))) t251 t252 t253 _ A31.out).mono ?_);rintro e w32 ⟨rfl,hb⟩;replace BK240 := kb_ BK240 hb;replace BK241 := kb_ BK241 hb;replace BK242 := kb_ BK242 hb;replace HB := hb_ HB (e_ GE240 (e_ GE241 (e_ GE242 e0_))) hb;(try clear hb);(try clear hb2);(try clear hk);(try clear hi);have hnb33 := NB242_240.out;have hnc33 := NB240_242.out;have hnb34 := NB242_241.out;have hnc34 := NB241_242.out;have hcz35_0 : w32.cell? ⟨gb242,0,none⟩ = some (.int .i64 0) := (kc_ BK242.out 0).trans rfl;have hcz35_1 : w32.cell? ⟨gb242,1,none⟩ = some (.int .i64 0) := (kc_ BK242.out 1).trans rfl;have hfz35_0 := kf_ BK242.out 0;have hfz35_1 := kf_ BK242.out 1));try go_wp2_with (first|(go_at_call 68;(with_reducible refine (rat_sized.calls (wrap64 ((wrap64 (Int.tdiv a0_0 t244)) * (wrap64 (Int.tdiv a1_0 t246)))) (wrap64 ((wrap64 (Int.tdiv a0_1 t246)) * (wrap64 (Int.tdiv a1_1 t244)))) t251 t252 t253 _ A31.out).mono ?_);rintro e w32 ⟨rfl,hb⟩;replace BK240 := kb_ BK240 hb;replace BK241 := kb_ BK241 hb;replace BK242 := kb_ BK242 hb;replace HB := hb_ HB (e_ GE240 (e_ GE241 (e_ GE242 e0_))) hb;(try clear hb);(try clear hb2);(try clear hk);(try clear hi);have hnb33 := NB242_240.out;have hnc33 := NB240_242.out;have hnb34 := NB242_241.out;have hnc34 := NB241_242.out;have hcz35_0 : w32.cell? ⟨gb242,0,none⟩ = some (.int .i64 0) := (kc_ BK242.out 0).trans rfl;have hcz35_1 : w32.cell? ⟨gb242,1,none⟩ = some (.int .i64 0) := (kc_ BK242.out 1).trans rfl;have hfz35_0 := kf_ BK242.out 0;have hfz35_1 := kf_ BK242.out 1)))
      refine bodyPost_ret (results_ct rfl _ _ gb242 25 #[.int .i64 t251,.int .i64 t252] (0,0) _ rfl (by (with_reducible repeat first|apply kn_|apply kd_|apply ka_);refine blk_put (cs := #[.int .i64 t251,.int .i64 0]) ?_ 1 _ rfl;(with_reducible repeat first|apply kn_|apply kd_|apply ka_);refine blk_put (cs := #[.int .i64 0,.int .i64 0]) ?_ 0 _ rfl;(with_reducible repeat first|apply kn_|apply kd_|apply ka_);exact BK242.out) Tryd.underlying25 rfl (by kernel_rfl)) rfl ?_
      exact ⟨by first|rfl|(simp [errW_none,errW_some] <;> rfl)|(simp [*,errW_none,errW_some] <;> rfl),by repeat (first|(with_reducible first|exact HB.out|apply ba_|apply pd_|apply d1_|refine bs_ ?_ GE240.out|refine bs_ ?_ GE241.out|refine bs_ ?_ GE242.out)|exact HB.out)⟩

/-! ### rat_Mul: function 43 -/
def rat_Mul.j0 : Nat → Bool → Int → Int → Int → Int → Option (Int × Int × Int)
 | 0, _, _, _, _, _ => none
 | k + 1, x18, x255000, x255001, x256000, x256001 => if x18 = true then ((rat_whole.f 0).bind fun bt260 => (some (bt260.1, bt260.2, 0))) else ((rat_product.f k x255000 x255001 x256000 x256001).bind fun bt262 => (some (bt262.1, bt262.2.1, bt262.2.2)))
def rat_Mul.f (k : Nat) (a0_0 : Int) (a0_1 : Int) (a1_0 : Int) (a1_1 : Int) : Option (Int × Int × Int) := (rat_both.f k a0_0 a0_1 a1_0 a1_1).bind fun t257 => (if t257 = true then (if a0_0 = 0 then (rat_Mul.j0 k true a0_0 a0_1 a1_0 a1_1) else (rat_Mul.j0 k (a1_0 == 0) a0_0 a0_1 a1_0 a1_1)) else ((rat_zero.f).bind fun bt258 => (some (bt258.1, bt258.2, 2))))
theorem rat_Mul.mono_l : ∀ k, (∀ y0 y1 y2 y3 y4, LeO (rat_Mul.j0 k y0 y1 y2 y3 y4) (rat_Mul.j0 (k + 1) y0 y1 y2 y3 y4))
 | 0 => fun _ _ _ _ _ r h => by simp [rat_Mul.j0] at h
 | k + 1 => by
  have ih0 := rat_Mul.mono_l k
  ·intro y0 y1 y2 y3 y4
   unfold rat_Mul.j0
   repeat' first
   | (with_reducible exact ih0 _ _ _ _ _)
   | (with_reducible exact rat_both.mono _ _ _ _ _)
   | (with_reducible exact rat_product.mono _ _ _ _ _)
   | (with_reducible exact LeO.refl _)
   | (with_reducible exact LeO.none _)
   | (with_reducible refine LeO.ite ?_ ?_)
   | (with_reducible refine LeO.bind ?_ (fun _ => ?_))
   | exact ih0 _ _ _ _ _
   | exact rat_both.mono _ _ _ _ _
   | exact rat_product.mono _ _ _ _ _
   | exact LeO.none _
   | refine LeO.ite ?_ ?_
   | refine LeO.bind ?_ (fun _ => ?_)
theorem rat_Mul.mono : ∀ a0 a1 a2 a3 k, LeO (rat_Mul.f k a0 a1 a2 a3) (rat_Mul.f (k + 1) a0 a1 a2 a3) := by
 intro a0 a1 a2 a3 k
 have ih0 := rat_Mul.mono_l k
 unfold rat_Mul.f
 repeat' first
   | (with_reducible exact ih0 _ _ _ _ _)
   | (with_reducible exact rat_both.mono _ _ _ _ _)
   | (with_reducible exact rat_product.mono _ _ _ _ _)
   | (with_reducible exact LeO.refl _)
   | (with_reducible exact LeO.none _)
   | (with_reducible refine LeO.ite ?_ ?_)
   | (with_reducible refine LeO.bind ?_ (fun _ => ?_))
   | exact ih0 _ _ _ _ _
   | exact rat_both.mono _ _ _ _ _
   | exact rat_product.mono _ _ _ _ _
   | exact LeO.none _
   | refine LeO.ite ?_ ?_
   | refine LeO.bind ?_ (fun _ => ?_)
set_option maxHeartbeats 8000000 in
set_option maxRecDepth 100000 in
theorem rat_Mul.calls (k : Nat) (a0_0 : Int) (a0_1 : Int) (a1_0 : Int) (a1_1 : Int) (r1 : Int) (r2 : Int) (r3 : Int) (w : World) (h : rat_Mul.f k a0_0 a0_1 a1_0 a1_1 = some (r1, r2, r3)) :
  Calls Tryd.prog 43 #[.agg #[.int .i64 a0_0,.int .i64 a0_1],.agg #[.int .i64 a1_0,.int .i64 a1_1]] w fun e w' => e = .returned (.tuple #[.agg #[.int .i64 r1,.int .i64 r2],.int .i64 r3]) ∧ Below w.heap.size w w' := by
 have hu25 := Tryd.underlying25
 have HB := sd_ (Below.refl w.heap.size w)
 have H : ((rat_both.f k a0_0 a0_1 a1_0 a1_1).bind fun t257 => (if t257 = true then (if a0_0 = 0 then (rat_Mul.j0 k true a0_0 a0_1 a1_0 a1_1) else (rat_Mul.j0 k (a1_0 == 0) a0_0 a0_1 a1_0 a1_1)) else ((rat_zero.f).bind fun bt258 => (some (bt258.1,bt258.2,2))))) = some (r1,r2,r3) := h
 clear h
 replace H := ob_ H
 obtain ⟨t257,A30,H⟩ := H
 try dsimp only at H
 have A3 := sd_ A30
 clear A30
 by_cases c4 : t257 = true
 ·subst c4
  have H1 : (if a0_0 = 0 then (rat_Mul.j0 k true a0_0 a0_1 a1_0 a1_1) else (rat_Mul.j0 k (a1_0 == 0) a0_0 a0_1 a1_0 a1_1)) = some (r1,r2,r3) := by rw [if_pos rfl] at H;exact H
  clear H;have H := H1;clear H1
  have HC5 := sd_ H
  clear H
  go_enter Tryd.func43,Tryd.ntmps43
  go_upto_region 3 with (first|((with_reducible refine gate_dst (N := 2) rfl ?_);refine box_event ?hg (N := 2) ?hd (cs := #[.int .i64 a0_0,.int .i64 a0_1]) (t := 25) ?hr ?_;(case hd => rfl);(case hg => rfl);(case hr => first|(go_simp;done)|(go_simp;rfl));intro gb254 hg w6 hbox hb;have BK254 := sd_ hbox;have GW254 := gw_ HB e0_ hg;have GE254 := GW254;replace HB := hb_ HB e0_ hb;clear hb hbox hg)|((with_reducible refine gate_dst (N := 3) rfl ?_);refine box_event ?hg (N := 3) ?hd (cs := #[.int .i64 a1_0,.int .i64 a1_1]) (t := 25) ?hr ?_;(case hd => rfl);(case hg => rfl);(case hr => first|(go_simp;done)|(go_simp;rfl));intro gb255 hg w7 hbox hb;have BK255 := sd_ hbox;have GW255 := gw_ HB (e_ GE254 e0_) hg;have GE255 := GW255;have NB254_255 := nb_ BK254 hg;have NB255_254 := sy_ NB254_255;replace BK254 := kb_ BK254 hb;replace HB := hb_ HB (e_ GE254 e0_) hb;clear hb hbox hg)|((with_reducible refine gate_dst (N := 4) rfl ?_);refine box_event ?hg (N := 4) ?hd (cs := #[.int .i64 0,.int .i64 0]) (t := 25) ?hr ?_;(case hd => rfl);(case hg => rfl);(case hr => first|(go_simp;done)|(go_simp;rfl));intro gb256 hg w8 hbox hb;have BK256 := sd_ hbox;have GW256 := gw_ HB (e_ GE254 (e_ GE255 e0_)) hg;have GE256 := GW256;have NB254_256 := nb_ BK254 hg;have NB256_254 := sy_ NB254_256;have NB255_256 := nb_ BK255 hg;have NB256_255 := sy_ NB255_256;replace BK254 := kb_ BK254 hb;replace BK255 := kb_ BK255 hb;replace HB := hb_ HB (e_ GE254 (e_ GE255 e0_)) hb;clear hb hbox hg;have hnb9 := NB254_255.out;have hnc9 := NB255_254.out;have hnb10 := NB254_256.out;have hnc10 := NB256_254.out;have hcz11_0 : w8.cell? ⟨gb254,0,none⟩ = some (.int .i64 a0_0) := (kc_ BK254.out 0).trans rfl;have hcz11_1 : w8.cell? ⟨gb254,1,none⟩ = some (.int .i64 a0_1) := (kc_ BK254.out 1).trans rfl;have hfz11_0 := kf_ BK254.out 0;have hfz11_1 := kf_ BK254.out 1;have hnb12 := NB255_256.out;have hnc12 := NB256_255.out;have hcz13_0 : w8.cell? ⟨gb255,0,none⟩ = some (.int .i64 a1_0) := (kc_ BK255.out 0).trans rfl;have hcz13_1 : w8.cell? ⟨gb255,1,none⟩ = some (.int .i64 a1_1) := (kc_ BK255.out 1).trans rfl;have hfz13_0 := kf_ BK255.out 0;have hfz13_1 := kf_ BK255.out 1)|((with_reducible refine gate_callee (f := 61) rfl ?_);refine goesL_ (some 8) rfl rfl Tryd.func61 (by kernel_rfl) rfl #[.agg #[.int .i64 a0_0,.int .i64 a0_1],.agg #[.int .i64 a1_0,.int .i64 a1_1]] rfl (by (try simp only [lm_,lq_,lx_]);first|done|rfl|(simp only [ld_,lt_];rfl)) ?_;(with_reducible refine (rat_both.calls k a0_0 a0_1 a1_0 a1_1 true _ A3.out).mono ?_);rintro e w14 ⟨rfl,hb⟩;refine ⟨_,rfl,?_⟩;replace BK254 := kb_ BK254 hb;replace BK255 := kb_ BK255 hb;replace BK256 := kb_ BK256 hb;replace HB := hb_ HB (e_ GE254 (e_ GE255 (e_ GE256 e0_))) hb;(try clear hb);(try clear hb2);(try clear hk);(try clear hi)))
  (try simp only [Act.put,ls_,lz_,lc_])
  go_cut [18] (fun v18 wc => ∃ (kq : Nat) (x18_4 : Bool),v18 = .bool x18_4 ∧ Aside0 (rat_Mul.j0 kq x18_4 a0_0 a0_1 a1_0 a1_1 = some (r1,r2,r3)) ∧ Aside0 (kq ≤ k) ∧ Aside0 (wc.heap[gb254]? = some (.cells #[.int .i64 a0_0,.int .i64 a0_1] 25 (0,0))) ∧ Aside0 (wc.heap[gb255]? = some (.cells #[.int .i64 a1_0,.int .i64 a1_1] 25 (0,0))) ∧ Aside0 (wc.heap[gb256]? = some (.cells #[.int .i64 0,.int .i64 0] 25 (0,0))) ∧ Aside0 (Below w.heap.size w wc))
  case first =>
   have H := HC5.out
   clear HC5
   by_cases c15 : a0_0 = 0
   ·rw [if_pos c15] at H
    have c15b0 : (a0_0 == 0) = true := beq_iff_eq.mpr c15
    have c15b1 : (a0_0 != 0) = false := bne_eq_false_iff_eq.mpr c15
    clear c15
    (first|rw [c15b0]|(simp only [i64_w,i32_w];rw [c15b0])|skip)
    have H' := sd_ H
    clear H
    have hnb16 := NB254_255.out
    have hnc16 := NB255_254.out
    have hnb17 := NB254_256.out
    have hnc17 := NB256_254.out
    have hcz18_0 : w14.cell? ⟨gb254,0,none⟩ = some (.int .i64 a0_0) := (kc_ BK254.out 0).trans rfl
    have hcz18_1 : w14.cell? ⟨gb254,1,none⟩ = some (.int .i64 a0_1) := (kc_ BK254.out 1).trans rfl
    have hfz18_0 := kf_ BK254.out 0
    have hfz18_1 := kf_ BK254.out 1
    go_wp2
    go_meet
    case rel => exact ⟨_,(true),(by first|rfl|(simp;done)|(simp [*];done)|(simp [bne];done)),H',⟨by first|omega|exact Nat.le_refl _⟩,⟨by (with_reducible repeat first|apply kn_|apply kd_|apply ka_);exact BK254.out⟩,⟨by (with_reducible repeat first|apply kn_|apply kd_|apply ka_);exact BK255.out⟩,⟨by (with_reducible repeat first|apply kn_|apply kd_|apply ka_);exact BK256.out⟩,⟨by repeat (first|(with_reducible first|exact HB.out|apply ba_|apply pd_|apply d1_|refine bs_ ?_ GE254.out|refine bs_ ?_ GE255.out|refine bs_ ?_ GE256.out)|exact HB.out)⟩⟩
   ·rw [if_neg c15] at H
    have c15b0 : (a0_0 == 0) = false := beq_eq_false_iff_ne.mpr c15
    have c15b1 : (a0_0 != 0) = true := bne_iff_ne.mpr c15
    (first|rw [c15b0]|(simp only [i64_w,i32_w];rw [c15b0])|skip)
    have H' := sd_ H
    clear H
    have hnb19 := NB254_255.out
    have hnc19 := NB255_254.out
    have hnb20 := NB254_256.out
    have hnc20 := NB256_254.out
    have hcz21_0 : w14.cell? ⟨gb254,0,none⟩ = some (.int .i64 a0_0) := (kc_ BK254.out 0).trans rfl
    have hcz21_1 : w14.cell? ⟨gb254,1,none⟩ = some (.int .i64 a0_1) := (kc_ BK254.out 1).trans rfl
    have hfz21_0 := kf_ BK254.out 0
    have hfz21_1 := kf_ BK254.out 1
    have hnb22 := NB255_256.out
    have hnc22 := NB256_255.out
    have hcz23_0 : w14.cell? ⟨gb255,0,none⟩ = some (.int .i64 a1_0) := (kc_ BK255.out 0).trans rfl
    have hcz23_1 : w14.cell? ⟨gb255,1,none⟩ = some (.int .i64 a1_1) := (kc_ BK255.out 1).trans rfl
    have hfz23_0 := kf_ BK255.out 0
    have hfz23_1 := kf_ BK255.out 1
    go_wp2
    go_meet
    case rel => exact ⟨_,((a1_0 == 0)),(by first|rfl|(simp;done)|(simp [*];done)|(simp [bne];done)),H',⟨by first|omega|exact Nat.le_refl _⟩,⟨by (with_reducible repeat first|apply kn_|apply kd_|apply ka_);exact BK254.out⟩,⟨by (with_reducible repeat first|apply kn_|apply kd_|apply ka_);exact BK255.out⟩,⟨by (with_reducible repeat first|apply kn_|apply kd_|apply ka_);exact BK256.out⟩,⟨by repeat (first|(with_reducible first|exact HB.out|apply ba_|apply pd_|apply d1_|refine bs_ ?_ GE254.out|refine bs_ ?_ GE255.out|refine bs_ ?_ GE256.out)|exact HB.out)⟩⟩
  case rest =>
   clear HC5
   try clear c1;try clear c2;try clear p2;try clear c4;try clear c6;try clear c9;try clear c10;try clear c12;try clear c15;try clear c15b0;try clear c15b1;try clear c16;try clear c17;try clear c19;try clear c20;try clear c22;try clear hcz11_0;try clear hcz11_1;try clear hcz13_0;try clear hcz13_1;try clear hcz18_0;try clear hcz18_1;try clear hcz21_0;try clear hcz21_1;try clear hcz23_0;try clear hcz23_1;try clear hfz11_0;try clear hfz11_1;try clear hfz13_0;try clear hfz13_1;try clear hfz18_0;try clear hfz18_1;try clear hfz21_0;try clear hfz21_1;try clear hfz23_0;try clear hfz23_1
   obtain ⟨kq,x18_4,rfl,HA,HJ4,BK254,BK255,BK256,HB⟩ := hcut
   cases kq with
   | zero => exact absurd HA.out (by simp [rat_Mul.j0])
   | succ kj4 =>
    have H := HA.out
    clear HA
    simp only [rat_Mul.j0] at H
    by_cases c24 : x18_4 = true
    ·subst c24
     have H1 : ((rat_whole.f 0).bind fun bt260 => (some (bt260.1,bt260.2,0))) = some (r1,r2,r3) := by rw [if_pos rfl] at H;exact H
     clear H;have H := H1;clear H1
     replace H := ob_ H
     obtain ⟨⟨t260,t261⟩,A250,H⟩ := H
     replace H : (some (t260,t261,0)) = some (r1,r2,r3) := H
     have A25 := sd_ A250
     clear A250
     simp only [Option.some.injEq,Prod.mk.injEq] at H
     obtain ⟨rfl,rfl,rfl⟩ := H
     go_wp2_with (first|((with_reducible refine gate_callee (f := 64) rfl ?_);refine goesL_ (some 19) rfl rfl Tryd.func64 (by kernel_rfl) rfl #[.int .i64 0] rfl (by (try simp only [lm_,lq_,lx_]);first|done|rfl|(simp only [ld_,lt_];rfl)) ?_;(with_reducible refine (rat_whole.calls 0 t260 t261 _ A25.out).mono ?_);rintro e w26 ⟨rfl,hb⟩;refine ⟨_,rfl,?_⟩;replace BK254 := kb_ BK254 hb;replace BK255 := kb_ BK255 hb;replace BK256 := kb_ BK256 hb;replace HB := hb_ HB (e_ GE254 (e_ GE255 (e_ GE256 e0_))) hb;(try clear hb);(try clear hb2);(try clear hk);(try clear hi);have hnb27 := NB256_254.out;have hnc27 := NB254_256.out;have hnb28 := NB256_255.out;have hnc28 := NB255_256.out;have hcz29_0 : w26.cell? ⟨gb256,0,none⟩ = some (.int .i64 0) := (kc_ BK256.out 0).trans rfl;have hcz29_1 : w26.cell? ⟨gb256,1,none⟩ = some (.int .i64 0) := (kc_ BK256.out 1).trans rfl;have hfz29_0 := kf_ BK256.out 0;have hfz29_1 := kf_ BK256.out 1))
     refine bodyPost_ret (results_ct rfl _ _ gb256 25 #[.int .i64 t260,.int .i64 t261] (0,0) _ rfl (by (with_reducible repeat first|apply kn_|apply kd_|apply ka_);refine blk_put (cs := #[.int .i64 t260,.int .i64 0]) ?_ 1 _ rfl;(with_reducible repeat first|apply kn_|apply kd_|apply ka_);refine blk_put (cs := #[.int .i64 0,.int .i64 0]) ?_ 0 _ rfl;(with_reducible repeat first|apply kn_|apply kd_|apply ka_);exact BK256.out) Tryd.underlying25 rfl (by kernel_rfl)) rfl ?_
     exact ⟨by first|rfl|(simp [errW_none,errW_some] <;> rfl)|(simp [*,errW_none,errW_some] <;> rfl),by repeat (first|(with_reducible first|exact HB.out|apply ba_|apply pd_|apply d1_|refine bs_ ?_ GE254.out|refine bs_ ?_ GE255.out|refine bs_ ?_ GE256.out)|exact HB.out)⟩
    ·replace c24 := bf_ c24
     subst c24
     have H1 : ((rat_product.f kj4 a0_0 a0_1 a1_0 a1_1).bind fun bt262 => (some (bt262.1,bt262.2.1,bt262.2.2))) = some (r1,r2,r3) := by rw [if_neg (show ¬ (false = true) by decide)] at H;exact H
     clear H;have H := H1;clear H1
     replace H := ob_ H
     obtain ⟨⟨t262,t263,t264⟩,A300,H⟩ := H
     replace H : (some (t262,t263,t264)) = some (r1,r2,r3) := H
     have A30 := sd_ A300
     clear A300
     simp only [Option.some.injEq,Prod.mk.injEq] at H
     obtain ⟨rfl,rfl,rfl⟩ := H
     have hnb31 := NB254_255.out
     have hnc31 := NB255_254.out
     have hnb32 := NB254_256.out
     have hnc32 := NB256_254.out
     have hcz33_0 : wc.cell? ⟨gb254,0,none⟩ = some (.int .i64 a0_0) := (kc_ BK254.out 0).trans rfl
     have hcz33_1 : wc.cell? ⟨gb254,1,none⟩ = some (.int .i64 a0_1) := (kc_ BK254.out 1).trans rfl
     have hfz33_0 := kf_ BK254.out 0
     have hfz33_1 := kf_ BK254.out 1
     have hnb34 := NB255_256.out
     have hnc34 := NB256_255.out
     have hcz35_0 : wc.cell? ⟨gb255,0,none⟩ = some (.int .i64 a1_0) := (kc_ BK255.out 0).trans rfl
     have hcz35_1 : wc.cell? ⟨gb255,1,none⟩ = some (.int .i64 a1_1) := (kc_ BK255.out 1).trans rfl
     have hfz35_0 := kf_ BK255.out 0
     have hfz35_1 := kf_ BK255.out 1
     go_wp2_with (first|((with_reducible refine gate_callee (f := 65) rfl ?_);refine goesL_ (some 22) rfl rfl Tryd.func65 (by kernel_rfl) rfl #[.agg #[.int .i64 a0_0,.int .i64 a0_1],.agg #[.int .i64 a1_0,.int .i64 a1_1]] rfl (by (try simp only [lm_,lq_,lx_]);first|done|rfl|(simp only [ld_,lt_];rfl)) ?_;(with_reducible refine (rat_product.calls kj4 a0_0 a0_1 a1_0 a1_1 t262 t263 t264 _ A30.out).mono ?_);rintro e w36 ⟨rfl,hb⟩;refine ⟨_,rfl,?_⟩;replace BK254 := kb_ BK254 hb;replace BK255 := kb_ BK255 hb;replace BK256 := kb_ BK256 hb;replace HB := hb_ HB (e_ GE254 (e_ GE255 (e_ GE256 e0_))) hb;(try clear hb);(try clear hb2);(try clear hk);(try clear hi);have hcz37_0 : w36.cell? ⟨gb256,0,none⟩ = some (.int .i64 0) := (kc_ BK256.out 0).trans rfl;have hcz37_1 : w36.cell? ⟨gb256,1,none⟩ = some (.int .i64 0) := (kc_ BK256.out 1).trans rfl;have hfz37_0 := kf_ BK256.out 0;have hfz37_1 := kf_ BK256.out 1))
     refine bodyPost_ret (results_ct rfl _ _ gb256 25 #[.int .i64 t262,.int .i64 t263] (0,0) _ rfl (by (with_reducible repeat first|apply kn_|apply kd_|apply ka_);refine blk_put (cs := #[.int .i64 t262,.int .i64 0]) ?_ 1 _ rfl;(with_reducible repeat first|apply kn_|apply kd_|apply ka_);refine blk_put (cs := #[.int .i64 0,.int .i64 0]) ?_ 0 _ rfl;(with_reducible repeat first|apply kn_|apply kd_|apply ka_);exact BK256.out) Tryd.underlying25 rfl (by kernel_rfl)) rfl ?_
     exact ⟨by first|rfl|(simp [errW_none,errW_some] <;> rfl)|(simp [*,errW_none,errW_some] <;> rfl),by repeat (first|(with_reducible first|exact HB.out|apply ba_|apply pd_|apply d1_|refine bs_ ?_ GE254.out|refine bs_ ?_ GE255.out|refine bs_ ?_ GE256.out)|exact HB.out)⟩
 ·replace c4 := bf_ c4
  subst c4
  have H1 : ((rat_zero.f).bind fun bt258 => (some (bt258.1,bt258.2,2))) = some (r1,r2,r3) := by rw [if_neg (show ¬ (false = true) by decide)] at H;exact H
  clear H;have H := H1;clear H1
  replace H := ob_ H
  obtain ⟨⟨t258,t259⟩,A380,H⟩ := H
  replace H : (some (t258,t259,2)) = some (r1,r2,r3) := H
  have A38 := sd_ A380
  clear A380
  simp only [Option.some.injEq,Prod.mk.injEq] at H
  obtain ⟨rfl,rfl,rfl⟩ := H
  go_enter Tryd.func43,Tryd.ntmps43
  go_wp2_with (first|((with_reducible refine gate_dst (N := 2) rfl ?_);refine box_event ?hg (N := 2) ?hd (cs := #[.int .i64 a0_0,.int .i64 a0_1]) (t := 25) ?hr ?_;(case hd => rfl);(case hg => rfl);(case hr => first|(go_simp;done)|(go_simp;rfl));intro gb254 hg w39 hbox hb;have BK254 := sd_ hbox;have GW254 := gw_ HB e0_ hg;have GE254 := GW254;replace HB := hb_ HB e0_ hb;clear hb hbox hg)|((with_reducible refine gate_dst (N := 3) rfl ?_);refine box_event ?hg (N := 3) ?hd (cs := #[.int .i64 a1_0,.int .i64 a1_1]) (t := 25) ?hr ?_;(case hd => rfl);(case hg => rfl);(case hr => first|(go_simp;done)|(go_simp;rfl));intro gb255 hg w40 hbox hb;have BK255 := sd_ hbox;have GW255 := gw_ HB (e_ GE254 e0_) hg;have GE255 := GW255;have NB254_255 := nb_ BK254 hg;have NB255_254 := sy_ NB254_255;replace BK254 := kb_ BK254 hb;replace HB := hb_ HB (e_ GE254 e0_) hb;clear hb hbox hg)|((with_reducible refine gate_dst (N := 4) rfl ?_);refine box_event ?hg (N := 4) ?hd (cs := #[.int .i64 0,.int .i64 0]) (t := 25) ?hr ?_;(case hd => rfl);(case hg => rfl);(case hr => first|(go_simp;done)|(go_simp;rfl));intro gb256 hg w41 hbox hb;have BK256 := sd_ hbox;have GW256 := gw_ HB (e_ GE254 (e_ GE255 e0_)) hg;have GE256 := GW256;have NB254_256 := nb_ BK254 hg;have NB256_254 := sy_ NB254_256;have NB255_256 := nb_ BK255 hg;have NB256_255 := sy_ NB255_256;replace BK254 := kb_ BK254 hb;replace BK255 := kb_ BK255 hb;replace HB := hb_ HB (e_ GE254 (e_ GE255 e0_)) hb;clear hb hbox hg;have hnb42 := NB254_255.out;have hnc42 := NB255_254.out;have hnb43 := NB254_256.out;have hnc43 := NB256_254.out;have hcz44_0 : w41.cell? ⟨gb254,0,none⟩ = some (.int .i64 a0_0) := (kc_ BK254.out 0).trans rfl;have hcz44_1 : w41.cell? ⟨gb254,1,none⟩ = some (.int .i64 a0_1) := (kc_ BK254.out 1).trans rfl;have hfz44_0 := kf_ BK254.out 0;have hfz44_1 := kf_ BK254.out 1;have hnb45 := NB255_256.out;have hnc45 := NB256_255.out;have hcz46_0 : w41.cell? ⟨gb255,0,none⟩ = some (.int .i64 a1_0) := (kc_ BK255.out 0).trans rfl;have hcz46_1 : w41.cell? ⟨gb255,1,none⟩ = some (.int .i64 a1_1) := (kc_ BK255.out 1).trans rfl;have hfz46_0 := kf_ BK255.out 0;have hfz46_1 := kf_ BK255.out 1)|((with_reducible refine gate_callee (f := 61) rfl ?_);refine goesL_ (some 8) rfl rfl Tryd.func61 (by kernel_rfl) rfl #[.agg #[.int .i64 a0_0,.int .i64 a0_1],.agg #[.int .i64 a1_0,.int .i64 a1_1]] rfl (by (try simp only [lm_,lq_,lx_]);first|done|rfl|(simp only [ld_,lt_];rfl)) ?_;(with_reducible refine (rat_both.calls k a0_0 a0_1 a1_0 a1_1 false _ A3.out).mono ?_);rintro e w47 ⟨rfl,hb⟩;refine ⟨_,rfl,?_⟩;replace BK254 := kb_ BK254 hb;replace BK255 := kb_ BK255 hb;replace BK256 := kb_ BK256 hb;replace HB := hb_ HB (e_ GE254 (e_ GE255 (e_ GE256 e0_))) hb;(try clear hb);(try clear hb2);(try clear hk);(try clear hi))|((with_reducible refine gate_callee (f := 47) rfl ?_);refine goesL_ (some 10) rfl rfl Tryd.func47 (by kernel_rfl) rfl #[] rfl (by (try simp only [lm_,lq_,lx_]);first|done|rfl|(simp only [ld_,lt_];rfl)) ?_;(with_reducible refine (rat_zero.calls  t258 t259 _ A38.out).mono ?_);rintro e w48 ⟨rfl,hb⟩;refine ⟨_,rfl,?_⟩;replace BK254 := kb_ BK254 hb;replace BK255 := kb_ BK255 hb;replace BK256 := kb_ BK256 hb;replace HB := hb_ HB (e_ GE254 (e_ GE255 (e_ GE256 e0_))) hb;(try clear hb);(try clear hb2);(try clear hk);(try clear hi);have hcz49_0 : w48.cell? ⟨gb256,0,none⟩ = some (.int .i64 0) := (kc_ BK256.out 0).trans rfl;have hcz49_1 : w48.cell? ⟨gb256,1,none⟩ = some (.int .i64 0) := (kc_ BK256.out 1).trans rfl;have hfz49_0 := kf_ BK256.out 0;have hfz49_1 := kf_ BK256.out 1))
  refine bodyPost_ret (results_ct rfl _ _ gb256 25 #[.int .i64 t258,.int .i64 t259] (0,0) _ rfl (by (with_reducible repeat first|apply kn_|apply kd_|apply ka_);refine blk_put (cs := #[.int .i64 t258,.int .i64 0]) ?_ 1 _ rfl;(with_reducible repeat first|apply kn_|apply kd_|apply ka_);refine blk_put (cs := #[.int .i64 0,.int .i64 0]) ?_ 0 _ rfl;(with_reducible repeat first|apply kn_|apply kd_|apply ka_);exact BK256.out) Tryd.underlying25 rfl (by kernel_rfl)) rfl ?_
  exact ⟨by first|rfl|(simp [errW_none,errW_some] <;> rfl)|(simp [*,errW_none,errW_some] <;> rfl),by repeat (first|(with_reducible first|exact HB.out|apply ba_|apply pd_|apply d1_|refine bs_ ?_ GE254.out|refine bs_ ?_ GE255.out|refine bs_ ?_ GE256.out)|exact HB.out)⟩

end Go.Proofs.YtdiccfonlojlfaaDoor.P
