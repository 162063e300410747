-- Written by a program of this session (wip/tools/xprint.py, over the kit's print): Lean checks it.
import Derived.Test.YtbinlfichkdhlaaDoorPx0
import Derived.Test.YtbinlfichkdhlaaDoorPx2
import Derived.Test.YtbinlfichkdhlaaDoorPx3
import Derived.Test.YtbinlfichkdhlaaDoorPx5
namespace Go.Proofs.YtbinlfichkdhlaaDoor.P
open Go.RowKit Go.Proofs.YtbinlfichkdhlaaDoorW.PrintWords Go.Proofs.YtbinlfichkdhlaaDoorW.PrintLast Go.Proofs.YtbinlfichkdhlaaDoorW.PrintMore
attribute [local go_sem] max2_int min2_int max_two min_two max_three min_three max_four min_four   -- for this text's walks alone
set_option linter.unusedVariables false
set_option linter.unusedSimpArgs false

/-! ### glyph_Extent: function 11 -/
def glyph_Extent.f (a0 : Int) (a1 : Bool) : Option (Int × Int × Int × Int × Int) := (glyph_Known.f a0).bind fun t130 => (if t130 = true then ((glyph_full.f a0).bind fun bt131 => (if a1 = true then ((glyph_less.f bt131.1).bind fun t136 => ((glyph_less.f bt131.2.1).bind fun t137 => ((glyph_less.f bt131.2.2.1).bind fun t138 => ((glyph_less.f bt131.2.2.2).bind fun t139 => ((box_Check.f t136 t137 t138 t139).bind fun t140 => (if t140 = true then (some (t136, t137, t138, t139, 0)) else (some (0, 0, 0, 0, 2)))))))) else ((box_Check.f bt131.1 bt131.2.1 bt131.2.2.1 bt131.2.2.2).bind fun t141 => (if t141 = true then (some (bt131.1, bt131.2.1, bt131.2.2.1, bt131.2.2.2, 0)) else (some (0, 0, 0, 0, 2)))))) else (some (0, 0, 0, 0, 2)))
def glyph_Extent.T5 : Bool × List (List Nat × List Nat) := (true, [([], []), ([0], [0]), ([1], [1]), ([], []), ([3], [3]), ([4, 2], [4]), ([], []), ([6], [6]), ([7, 5], [7]), ([], []), ([9], [9]), ([10, 8], [10]), ([2, 5, 8, 11], [2, 5, 8, 11]), ([12, 11, 0, 1, 2, 3, 4, 5, 6, 7, 8, 9, 10, 11, 12], [12])])
def glyph_Extent.B5 : List Nat := [0, 1, 3, 0, 8, 31, 0, 64, 255, 0, 512, 2047, 4095, 8191]
theorem glyph_Extent.tab5 : rtab .any (opsOf Tryd.f11 5) = glyph_Extent.T5 := by kernel_rfl
theorem glyph_Extent.bits5 : waitsOk glyph_Extent.T5.2 glyph_Extent.B5 = true := by kernel_rfl
set_option maxHeartbeats 8000000 in
set_option maxRecDepth 100000 in
theorem glyph_Extent.calls (a0 : Int) (a1 : Bool) (r1 : Int) (r2 : Int) (r3 : Int) (r4 : Int) (r5 : Int) (w : World) (hE : Aside0 (LaidE w)) (h : glyph_Extent.f a0 a1 = some (r1, r2, r3, r4, r5)) :
  Calls Tryd.prog 11 #[.int .i64 a0, .bool a1] w fun e w' => e = .returned (.tuple #[.agg #[.int .i64 r1, .int .i64 r2, .int .i64 r3, .int .i64 r4], .int .i64 r5]) ∧ Below w.heap.size w w' := by
 have hu30 := Tryd.underlying30
 have HB := sd_ (Below.refl w.heap.size w)
 have H : ((glyph_Known.f a0).bind fun t130 => (if t130 = true then ((glyph_full.f a0).bind fun bt131 => (if a1 = true then ((glyph_less.f bt131.1).bind fun t136 => ((glyph_less.f bt131.2.1).bind fun t137 => ((glyph_less.f bt131.2.2.1).bind fun t138 => ((glyph_less.f bt131.2.2.2).bind fun t139 => ((box_Check.f t136 t137 t138 t139).bind fun t140 => (if t140 = true then (some (t136, t137, t138, t139, 0)) else (some (0, 0, 0, 0, 2)))))))) else ((box_Check.f bt131.1 bt131.2.1 bt131.2.2.1 bt131.2.2.2).bind fun t141 => (if t141 = true then (some (bt131.1, bt131.2.1, bt131.2.2.1, bt131.2.2.2, 0)) else (some (0, 0, 0, 0, 2)))))) else (some (0, 0, 0, 0, 2)))) = some (r1, r2, r3, r4, r5) := h
 clear h
 replace H := ob_ H
 obtain ⟨t130, A30, H⟩ := H
 replace H : (if t130 = true then ((glyph_full.f a0).bind fun bt131 => (if a1 = true then ((glyph_less.f bt131.1).bind fun t136 => ((glyph_less.f bt131.2.1).bind fun t137 => ((glyph_less.f bt131.2.2.1).bind fun t138 => ((glyph_less.f bt131.2.2.2).bind fun t139 => ((box_Check.f t136 t137 t138 t139).bind fun t140 => (if t140 = true then (some (t136, t137, t138, t139, 0)) else (some (0, 0, 0, 0, 2)))))))) else ((box_Check.f bt131.1 bt131.2.1 bt131.2.2.1 bt131.2.2.2).bind fun t141 => (if t141 = true then (some (bt131.1, bt131.2.1, bt131.2.2.1, bt131.2.2.2, 0)) else (some (0, 0, 0, 0, 2)))))) else (some (0, 0, 0, 0, 2))) = some (r1, r2, r3, r4, r5) := H
 have A3 := sd_ A30
 clear A30
 by_cases c4 : t130 = true
 ·subst c4
  have H1 : ((glyph_full.f a0).bind fun bt131 => (if a1 = true then ((glyph_less.f bt131.1).bind fun t136 => ((glyph_less.f bt131.2.1).bind fun t137 => ((glyph_less.f bt131.2.2.1).bind fun t138 => ((glyph_less.f bt131.2.2.2).bind fun t139 => ((box_Check.f t136 t137 t138 t139).bind fun t140 => (if t140 = true then (some (t136, t137, t138, t139, 0)) else (some (0, 0, 0, 0, 2)))))))) else ((box_Check.f bt131.1 bt131.2.1 bt131.2.2.1 bt131.2.2.2).bind fun t141 => (if t141 = true then (some (bt131.1, bt131.2.1, bt131.2.2.1, bt131.2.2.2, 0)) else (some (0, 0, 0, 0, 2)))))) = some (r1, r2, r3, r4, r5) := by rw [if_pos rfl] at H; exact H
  clear H; have H := H1; clear H1
  replace H := ob_ H
  obtain ⟨⟨t131, t132, t133, t134⟩, A50, H⟩ := H
  replace H : (if a1 = true then ((glyph_less.f t131).bind fun t136 => ((glyph_less.f t132).bind fun t137 => ((glyph_less.f t133).bind fun t138 => ((glyph_less.f t134).bind fun t139 => ((box_Check.f t136 t137 t138 t139).bind fun t140 => (if t140 = true then (some (t136, t137, t138, t139, 0)) else (some (0, 0, 0, 0, 2)))))))) else ((box_Check.f t131 t132 t133 t134).bind fun t141 => (if t141 = true then (some (t131, t132, t133, t134, 0)) else (some (0, 0, 0, 0, 2))))) = some (r1, r2, r3, r4, r5) := H
  have A5 := sd_ A50
  clear A50
  by_cases c6 : a1 = true
  ·subst c6
   have H1 : ((glyph_less.f t131).bind fun t136 => ((glyph_less.f t132).bind fun t137 => ((glyph_less.f t133).bind fun t138 => ((glyph_less.f t134).bind fun t139 => ((box_Check.f t136 t137 t138 t139).bind fun t140 => (if t140 = true then (some (t136, t137, t138, t139, 0)) else (some (0, 0, 0, 0, 2)))))))) = some (r1, r2, r3, r4, r5) := by rw [if_pos rfl] at H; exact H
   clear H; have H := H1; clear H1
   replace H := ob_ H
   obtain ⟨t136, A70, H⟩ := H
   replace H : ((glyph_less.f t132).bind fun t137 => ((glyph_less.f t133).bind fun t138 => ((glyph_less.f t134).bind fun t139 => ((box_Check.f t136 t137 t138 t139).bind fun t140 => (if t140 = true then (some (t136, t137, t138, t139, 0)) else (some (0, 0, 0, 0, 2))))))) = some (r1, r2, r3, r4, r5) := H
   have A7 := sd_ A70
   clear A70
   replace H := ob_ H
   obtain ⟨t137, A80, H⟩ := H
   replace H : ((glyph_less.f t133).bind fun t138 => ((glyph_less.f t134).bind fun t139 => ((box_Check.f t136 t137 t138 t139).bind fun t140 => (if t140 = true then (some (t136, t137, t138, t139, 0)) else (some (0, 0, 0, 0, 2)))))) = some (r1, r2, r3, r4, r5) := H
   have A8 := sd_ A80
   clear A80
   replace H := ob_ H
   obtain ⟨t138, A90, H⟩ := H
   replace H : ((glyph_less.f t134).bind fun t139 => ((box_Check.f t136 t137 t138 t139).bind fun t140 => (if t140 = true then (some (t136, t137, t138, t139, 0)) else (some (0, 0, 0, 0, 2))))) = some (r1, r2, r3, r4, r5) := H
   have A9 := sd_ A90
   clear A90
   replace H := ob_ H
   obtain ⟨t139, A100, H⟩ := H
   replace H : ((box_Check.f t136 t137 t138 t139).bind fun t140 => (if t140 = true then (some (t136, t137, t138, t139, 0)) else (some (0, 0, 0, 0, 2)))) = some (r1, r2, r3, r4, r5) := H
   have A10 := sd_ A100
   clear A100
   replace H := ob_ H
   obtain ⟨t140, A110, H⟩ := H
   replace H : (if t140 = true then (some (t136, t137, t138, t139, 0)) else (some (0, 0, 0, 0, 2))) = some (r1, r2, r3, r4, r5) := H
   have A11 := sd_ A110
   clear A110
   by_cases c12 : t140 = true
   ·subst c12
    have H1 : (some (t136, t137, t138, t139, 0)) = some (r1, r2, r3, r4, r5) := by rw [if_pos rfl] at H; exact H
    clear H; have H := H1; clear H1
    simp only [Option.some.injEq, Prod.mk.injEq] at H
    obtain ⟨rfl, rfl, rfl, rfl, rfl⟩ := H
    go_enter Tryd.func11, Tryd.ntmps11
    try go_wp2_with (first | ((with_reducible refine gate_dst (N := 4) rfl ?_); refine box_event ?hg (N := 4) ?hd (cs := #[.int .i64 0, .int .i64 0, .int .i64 0, .int .i64 0]) (t := 30) ?hr ?_; (case hd => rfl); (case hg => rfl); (case hr => first | (go_simp; done) | (go_simp; rfl)); intro gb129 hg w13 hbox hb; have BK129 := sd_ hbox; have GW129 := gw_ HB e0_ hg; have GE129 := GW129; replace HB := hb_ HB e0_ hb; clear hb hbox hg) | ((with_reducible refine gate_callee (f := 9) rfl ?_); refine goesL_ (some 8) rfl rfl Tryd.func9 (by kernel_rfl) rfl #[.int .i64 a0] rfl (by (try simp only [lm_, lq_, lx_]); first | done | rfl | (simp only [ld_, lt_]; rfl)) ?_; (with_reducible refine (glyph_Known.calls a0 true _ A3.out).mono ?_); rintro e w' ⟨rfl, ⟨nd, rfl⟩⟩; refine ⟨_, rfl, ?_⟩; (repeat (rw [drewN_self w13]; generalize hq_ : World.drewN w13 _ = w13; have n0_ : Aside0 (w13.heap[gb129]? = some (.cells #[.int .i64 0, .int .i64 0, .int .i64 0, .int .i64 0] 30 (0, 0))) := ⟨by rw [← hq_]; exact (kk_ BK129.out)⟩; have n1_ : Aside0 (Below w.heap.size w w13) := ⟨by rw [← hq_]; exact (bb_ HB.out (e_ GE129 e0_))⟩; clear BK129 HB hq_; have BK129 := n0_; have HB := n1_; clear n0_ n1_))) | ((with_reducible refine gate_callee (f := 19) rfl ?_); refine goesL_ (some 12) rfl rfl Tryd.func19 (by kernel_rfl) rfl #[.int .i64 a0] rfl (by (try simp only [lm_, lq_, lx_]); first | done | rfl | (simp only [ld_, lt_]; rfl)) ?_; (with_reducible refine (glyph_full.calls a0 t131 t132 t133 t134 _ A5.out).mono ?_); rintro e w14 ⟨rfl, hb⟩; refine ⟨_, rfl, ?_⟩; replace BK129 := kb_ BK129 hb; replace HB := hb_ HB (e_ GE129 e0_) hb; (try clear hb); (try clear hb2); (try clear hk); (try clear hi)) | ((with_reducible refine gate_dst (N := 6) rfl ?_); refine box_event ?hg (N := 6) ?hd (cs := #[.int .i64 0, .int .i64 0, .int .i64 0, .int .i64 0]) (t := 30) ?hr ?_; (case hd => rfl); (case hg => rfl); (case hr => first | (go_simp; done) | (go_simp; rfl)); intro gb135 hg w15 hbox hb; have BK135 := sd_ hbox; have GW135 := gw_ HB (e_ GE129 e0_) hg; have GE135 := GW135; have NB129_135 := nb_ BK129 hg; have NB135_129 := sy_ NB129_135; replace BK129 := kb_ BK129 hb; replace HB := hb_ HB (e_ GE129 e0_) hb; clear hb hbox hg; have hnb16 := NB135_129.out; have hnc16 := NB129_135.out; have hcz17_0 : w15.cell? ⟨gb135, 0, none⟩ = some (.int .i64 0) := (kc_ BK135.out 0).trans rfl; have hcz17_1 : w15.cell? ⟨gb135, 1, none⟩ = some (.int .i64 0) := (kc_ BK135.out 1).trans rfl; have hcz17_2 : w15.cell? ⟨gb135, 2, none⟩ = some (.int .i64 0) := (kc_ BK135.out 2).trans rfl; have hcz17_3 : w15.cell? ⟨gb135, 3, none⟩ = some (.int .i64 0) := (kc_ BK135.out 3).trans rfl; have hfz17_0 := kf_ BK135.out 0; have hfz17_1 := kf_ BK135.out 1; have hfz17_2 := kf_ BK135.out 2; have hfz17_3 := kf_ BK135.out 3))
    have n0_ : Aside0 (((((w15.setCell ⟨gb135, 0, none⟩ (.int .i64 t131)).setCell ⟨gb135, 1, none⟩ (.int .i64 t132)).setCell ⟨gb135, 2, none⟩ (.int .i64 t133)).setCell ⟨gb135, 3, none⟩ (.int .i64 t134)).heap[gb129]? = some (.cells #[.int .i64 0, .int .i64 0, .int .i64 0, .int .i64 0] 30 (0, 0))) := ⟨by (with_reducible repeat first | apply kn_ | apply kd_ | apply ka_); refine blk_far ?_ NB129_135.out _; (with_reducible repeat first | apply kn_ | apply kd_ | apply ka_); refine blk_far ?_ NB129_135.out _; (with_reducible repeat first | apply kn_ | apply kd_ | apply ka_); refine blk_far ?_ NB129_135.out _; (with_reducible repeat first | apply kn_ | apply kd_ | apply ka_); refine blk_far ?_ NB129_135.out _; (with_reducible repeat first | apply kn_ | apply kd_ | apply ka_); exact BK129.out⟩
    have n1_ : Aside0 (((((w15.setCell ⟨gb135, 0, none⟩ (.int .i64 t131)).setCell ⟨gb135, 1, none⟩ (.int .i64 t132)).setCell ⟨gb135, 2, none⟩ (.int .i64 t133)).setCell ⟨gb135, 3, none⟩ (.int .i64 t134)).heap[gb135]? = some (.cells #[.int .i64 t131, .int .i64 t132, .int .i64 t133, .int .i64 t134] 30 (0, 0))) := ⟨by (with_reducible repeat first | apply kn_ | apply kd_ | apply ka_); refine blk_put (cs := #[.int .i64 t131, .int .i64 t132, .int .i64 t133, .int .i64 0]) ?_ 3 _ rfl; (with_reducible repeat first | apply kn_ | apply kd_ | apply ka_); refine blk_put (cs := #[.int .i64 t131, .int .i64 t132, .int .i64 0, .int .i64 0]) ?_ 2 _ rfl; (with_reducible repeat first | apply kn_ | apply kd_ | apply ka_); refine blk_put (cs := #[.int .i64 t131, .int .i64 0, .int .i64 0, .int .i64 0]) ?_ 1 _ rfl; (with_reducible repeat first | apply kn_ | apply kd_ | apply ka_); refine blk_put (cs := #[.int .i64 0, .int .i64 0, .int .i64 0, .int .i64 0]) ?_ 0 _ rfl; (with_reducible repeat first | apply kn_ | apply kd_ | apply ka_); exact BK135.out⟩
    have n2_ : Aside0 (Below w.heap.size w ((((w15.setCell ⟨gb135, 0, none⟩ (.int .i64 t131)).setCell ⟨gb135, 1, none⟩ (.int .i64 t132)).setCell ⟨gb135, 2, none⟩ (.int .i64 t133)).setCell ⟨gb135, 3, none⟩ (.int .i64 t134))) := ⟨by repeat (first | (with_reducible first | exact HB.out | apply ba_ | apply pd_ | apply d1_ | refine bs_ ?_ GE129.out | refine bs_ ?_ GE135.out) | exact HB.out)⟩
    (try clear BK129)
    (try clear BK135)
    (try clear HB)
    generalize ((((w15.setCell ⟨gb135, 0, none⟩ (.int .i64 t131)).setCell ⟨gb135, 1, none⟩ (.int .i64 t132)).setCell ⟨gb135, 2, none⟩ (.int .i64 t133)).setCell ⟨gb135, 3, none⟩ (.int .i64 t134)) = w18 at n0_ n1_ n2_ ⊢
    have BK129 := n0_
    have BK135 := n1_
    have HB := n2_
    clear n0_ n1_ n2_
    replace BK129 := sd_ (kd_ BK129.out)
    replace BK135 := sd_ (kd_ BK135.out)
    replace HB := sd_ (d1_ HB.out)
    refine start_ (n := 14) (S := fun w' => w'.cell? ⟨gb135, 0, none⟩ = some (.int .i64 t131) ∧ w'.cell? ⟨gb135, 1, none⟩ = some (.int .i64 t132) ∧ w'.cell? ⟨gb135, 2, none⟩ = some (.int .i64 t133) ∧ w'.cell? ⟨gb135, 3, none⟩ = some (.int .i64 t134)) (ds := [13]) (Array.replicate 14 false) (by kernel_rfl) rfl rfl ⟨(kc_ BK135.out 0).trans rfl, (kc_ BK135.out 1).trans rfl, (kc_ BK135.out 2).trans rfl, (kc_ BK135.out 3).trans rfl⟩ (fun hHeld => ?_); refine with_tabW glyph_Extent.tab5 glyph_Extent.bits5 (fun HT_ HW_ => ?_)
    generalize w18.drew = w19 at BK129 BK135 HB hHeld ⊢
    refine pu_ (v := ?_) (a' := ?_) 0 14 (bz 14 1) rfl rfl HT_ (by kernel_rfl) (fun _ _ _ h => h) (by rfl) ?_ ?_ ?_
    rotate_left; (intro w'; go_simp; with_reducible rfl); rotate_left; (simp only [Act.put, ls_, lz_, lc_, i64_w, i32_w]; rfl)
    refine pu_ (v := ?_) (a' := ?_) 3 17 (bz 14 9) rfl rfl HT_ (by kernel_rfl) (fun _ _ _ h => h) (by rfl) ?_ ?_ ?_
    rotate_left; (intro w'; go_simp; with_reducible rfl); rotate_left; (simp only [Act.put, ls_, lz_, lc_, i64_w, i32_w]; rfl)
    refine pu_ (v := ?_) (a' := ?_) 6 20 (bz 14 73) rfl rfl HT_ (by kernel_rfl) (fun _ _ _ h => h) (by rfl) ?_ ?_ ?_
    rotate_left; (intro w'; go_simp; with_reducible rfl); rotate_left; (simp only [Act.put, ls_, lz_, lc_, i64_w, i32_w]; rfl)
    refine pu_ (v := ?_) (a' := ?_) 9 23 (bz 14 585) rfl rfl HT_ (by kernel_rfl) (fun _ _ _ h => h) (by rfl) ?_ ?_ ?_
    rotate_left; (intro w'; go_simp; with_reducible rfl); rotate_left; (simp only [Act.put, ls_, lz_, lc_, i64_w, i32_w]; rfl)
    refine ta_ (v := ?_) (a' := ?_) 1 15 (bz 14 587) rfl rfl HT_ HW_ (by kernel_rfl) (fun _ _ _ h => h) (by rfl) ?_ hHeld ?_ ?_
    rotate_left
    ·rintro w' ⟨s0, s1, s2, s3⟩
     go_simp
     with_reducible rfl
    rotate_left
    ·simp only [Act.put, ls_, lz_, lc_, i64_w, i32_w]
     rfl
    refine ta_ (v := ?_) (a' := ?_) 4 18 (bz 14 603) rfl rfl HT_ HW_ (by kernel_rfl) (fun _ _ _ h => h) (by rfl) ?_ hHeld ?_ ?_
    rotate_left
    ·rintro w' ⟨s0, s1, s2, s3⟩
     go_simp
     with_reducible rfl
    rotate_left
    ·simp only [Act.put, ls_, lz_, lc_, i64_w, i32_w]
     rfl
    refine ta_ (v := ?_) (a' := ?_) 7 21 (bz 14 731) rfl rfl HT_ HW_ (by kernel_rfl) (fun _ _ _ h => h) (by rfl) ?_ hHeld ?_ ?_
    rotate_left
    ·rintro w' ⟨s0, s1, s2, s3⟩
     go_simp
     with_reducible rfl
    rotate_left
    ·simp only [Act.put, ls_, lz_, lc_, i64_w, i32_w]
     rfl
    refine ta_ (v := ?_) (a' := ?_) 10 24 (bz 14 1755) rfl rfl HT_ HW_ (by kernel_rfl) (fun _ _ _ h => h) (by rfl) ?_ hHeld ?_ ?_
    rotate_left
    ·rintro w' ⟨s0, s1, s2, s3⟩
     go_simp
     with_reducible rfl
    rotate_left
    ·simp only [Act.put, ls_, lz_, lc_, i64_w, i32_w]
     rfl
    refine on_ (N := some 16) 2 (bz 14 1759) rfl rfl HT_ (by kernel_rfl) (by decide) (fun K hK => ?_)
    refine goes_ Tryd.func20 (by kernel_rfl) rfl #[.int .i64 t131] (by rfl) rfl rfl (by (try simp only [lm_, lq_, lx_]); first | done | rfl | (simp only [ld_, lt_]; rfl)) ?_
    with_reducible refine (glyph_less.calls t131 t136 _ ?side1 A7.out).mono ?_
    (case side1 => first | (with_reducible exact hE) | exact sd_ (LaidE.below hE.out (bb_ HB.out (e_ GE129 (e_ GE135 e0_)))))
    rintro e w20 ⟨rfl, hb⟩
    refine ⟨_, rfl, ?_⟩
    replace BK129 := kb_ BK129 hb
    replace BK135 := kb_ BK135 hb
    replace HB := hb_ HB (e_ GE129 (e_ GE135 e0_)) hb
    (try clear hb)
    (try clear hb2)
    (try clear hk)
    (try clear hi)
    refine hK.out _ _ ⟨(kc_ BK135.out 0).trans rfl, (kc_ BK135.out 1).trans rfl, (kc_ BK135.out 2).trans rfl, (kc_ BK135.out 3).trans rfl⟩ (fun hHeld => ?_)
    clear hK K
    refine norm_ (a' := ?_) ?_ ?_
    rotate_left
    ·show Act.put _ (some 16) _ = _
     simp only [Act.put, ls_, lz_, lc_, i64_w, i32_w]
     rfl
    refine on_ (N := some 19) 5 (bz 14 1791) rfl rfl HT_ (by kernel_rfl) (by decide) (fun K hK => ?_)
    refine goes_ Tryd.func20 (by kernel_rfl) rfl #[.int .i64 t132] (by rfl) rfl rfl (by (try simp only [lm_, lq_, lx_]); first | done | rfl | (simp only [ld_, lt_]; rfl)) ?_
    with_reducible refine (glyph_less.calls t132 t137 _ ?side1 A8.out).mono ?_
    (case side1 => first | (with_reducible exact hE) | exact sd_ (LaidE.below hE.out (bb_ HB.out (e_ GE129 (e_ GE135 e0_)))))
    rintro e w21 ⟨rfl, hb⟩
    refine ⟨_, rfl, ?_⟩
    replace BK129 := kb_ BK129 hb
    replace BK135 := kb_ BK135 hb
    replace HB := hb_ HB (e_ GE129 (e_ GE135 e0_)) hb
    (try clear hb)
    (try clear hb2)
    (try clear hk)
    (try clear hi)
    refine hK.out _ _ ⟨(kc_ BK135.out 0).trans rfl, (kc_ BK135.out 1).trans rfl, (kc_ BK135.out 2).trans rfl, (kc_ BK135.out 3).trans rfl⟩ (fun hHeld => ?_)
    clear hK K
    refine norm_ (a' := ?_) ?_ ?_
    rotate_left
    ·show Act.put _ (some 19) _ = _
     simp only [Act.put, ls_, lz_, lc_, i64_w, i32_w]
     rfl
    refine on_ (N := some 22) 8 (bz 14 2047) rfl rfl HT_ (by kernel_rfl) (by decide) (fun K hK => ?_)
    refine goes_ Tryd.func20 (by kernel_rfl) rfl #[.int .i64 t133] (by rfl) rfl rfl (by (try simp only [lm_, lq_, lx_]); first | done | rfl | (simp only [ld_, lt_]; rfl)) ?_
    with_reducible refine (glyph_less.calls t133 t138 _ ?side1 A9.out).mono ?_
    (case side1 => first | (with_reducible exact hE) | exact sd_ (LaidE.below hE.out (bb_ HB.out (e_ GE129 (e_ GE135 e0_)))))
    rintro e w22 ⟨rfl, hb⟩
    refine ⟨_, rfl, ?_⟩
    replace BK129 := kb_ BK129 hb
    replace BK135 := kb_ BK135 hb
    replace HB := hb_ HB (e_ GE129 (e_ GE135 e0_)) hb
    (try clear hb)
    (try clear hb2)
    (try clear hk)
    (try clear hi)
    refine hK.out _ _ ⟨(kc_ BK135.out 0).trans rfl, (kc_ BK135.out 1).trans rfl, (kc_ BK135.out 2).trans rfl, (kc_ BK135.out 3).trans rfl⟩ (fun hHeld => ?_)
    clear hK K
    refine norm_ (a' := ?_) ?_ ?_
    rotate_left
    ·show Act.put _ (some 22) _ = _
     simp only [Act.put, ls_, lz_, lc_, i64_w, i32_w]
     rfl
    refine on_ (N := some 25) 11 (bz 14 4095) rfl rfl HT_ (by kernel_rfl) (by decide) (fun K hK => ?_)
    refine goes_ Tryd.func20 (by kernel_rfl) rfl #[.int .i64 t134] (by rfl) rfl rfl (by (try simp only [lm_, lq_, lx_]); first | done | rfl | (simp only [ld_, lt_]; rfl)) ?_
    with_reducible refine (glyph_less.calls t134 t139 _ ?side1 A10.out).mono ?_
    (case side1 => first | (with_reducible exact hE) | exact sd_ (LaidE.below hE.out (bb_ HB.out (e_ GE129 (e_ GE135 e0_)))))
    rintro e w23 ⟨rfl, hb⟩
    refine ⟨_, rfl, ?_⟩
    replace BK129 := kb_ BK129 hb
    replace BK135 := kb_ BK135 hb
    replace HB := hb_ HB (e_ GE129 (e_ GE135 e0_)) hb
    (try clear hb)
    (try clear hb2)
    (try clear hk)
    (try clear hi)
    refine hK.out _ _ ⟨(kc_ BK135.out 0).trans rfl, (kc_ BK135.out 1).trans rfl, (kc_ BK135.out 2).trans rfl, (kc_ BK135.out 3).trans rfl⟩ (fun hHeld => ?_)
    clear hK K
    refine norm_ (a' := ?_) ?_ ?_
    rotate_left
    ·show Act.put _ (some 25) _ = _
     simp only [Act.put, ls_, lz_, lc_, i64_w, i32_w]
     rfl
    refine pu_ (v := ?_) (a' := ?_) 12 26 (bz 14 8191) rfl rfl HT_ (by kernel_rfl) (fun _ _ _ h => h) (by rfl) ?_ ?_ ?_
    rotate_left; (intro w'; go_simp; with_reducible rfl); rotate_left; (simp only [Act.put, ls_, lz_, lc_, i64_w, i32_w]; rfl)
    refine last_ (i := 13) (N := none) (bz 14 16383) rfl rfl (one_of HT_.out (by kernel_rfl)) (by decide) (fun K hK => ?_)
    have hs24 : w23.cell? ⟨gb135, 0, none⟩ = some (.int .i64 t131) := (kc_ BK135.out 0).trans rfl
    have hfs24 := kf_ BK135.out 0
    have hns24_0 := NB129_135.out
    have hms24_0 := NB135_129.out
    have hs25 : w23.cell? ⟨gb135, 1, none⟩ = some (.int .i64 t132) := (kc_ BK135.out 1).trans rfl
    have hfs25 := kf_ BK135.out 1
    have hns25_0 := NB129_135.out
    have hms25_0 := NB135_129.out
    have hs26 : w23.cell? ⟨gb135, 2, none⟩ = some (.int .i64 t133) := (kc_ BK135.out 2).trans rfl
    have hfs26 := kf_ BK135.out 2
    have hns26_0 := NB129_135.out
    have hms26_0 := NB135_129.out
    have hs27 : w23.cell? ⟨gb135, 3, none⟩ = some (.int .i64 t134) := (kc_ BK135.out 3).trans rfl
    have hfs27 := kf_ BK135.out 3
    have hns27_0 := NB129_135.out
    have hms27_0 := NB135_129.out
    refine skip_ (w1 := ?_) (by rfl) rfl ?_ ?_
    rotate_left
    ·go_simp
     rfl
    refine hK.out _ _ ?_
    clear hK K
    refine done_ (done_of HT_.out (by kernel_rfl)) ?_
    have hcz28_0 : w23.cell? ⟨gb135, 0, none⟩ = some (.int .i64 t131) := (kc_ BK135.out 0).trans rfl
    have hcz28_1 : w23.cell? ⟨gb135, 1, none⟩ = some (.int .i64 t132) := (kc_ BK135.out 1).trans rfl
    have hcz28_2 : w23.cell? ⟨gb135, 2, none⟩ = some (.int .i64 t133) := (kc_ BK135.out 2).trans rfl
    have hcz28_3 : w23.cell? ⟨gb135, 3, none⟩ = some (.int .i64 t134) := (kc_ BK135.out 3).trans rfl
    have hfz28_0 := kf_ BK135.out 0
    have hfz28_1 := kf_ BK135.out 1
    have hfz28_2 := kf_ BK135.out 2
    have hfz28_3 := kf_ BK135.out 3
    try go_wp2_with (first | ((with_reducible refine gate_callee (f := 21) rfl ?_); refine goesL_ (some 28) rfl rfl Tryd.func21 (by kernel_rfl) rfl #[.agg #[.int .i64 t136, .int .i64 t137, .int .i64 t138, .int .i64 t139]] rfl (by (try simp only [lm_, lq_, lx_]); first | done | rfl | (simp only [ld_, lt_]; rfl)) ?_; (with_reducible refine (box_Check.calls t136 t137 t138 t139 true _ A11.out).mono ?_); rintro e w29 ⟨rfl, hb⟩; refine ⟨_, rfl, ?_⟩; replace BK129 := sd_ (blk_below (g := gb129) (o := .cells #[.int .i64 0, .int .i64 0, .int .i64 0, .int .i64 0] 30 (0, 0)) (by (with_reducible repeat first | apply kn_ | apply kd_ | apply ka_); refine blk_far ?_ NB129_135.out _; (with_reducible repeat first | apply kn_ | apply kd_ | apply ka_); refine blk_far ?_ NB129_135.out _; (with_reducible repeat first | apply kn_ | apply kd_ | apply ka_); refine blk_far ?_ NB129_135.out _; (with_reducible repeat first | apply kn_ | apply kd_ | apply ka_); refine blk_far ?_ NB129_135.out _; (with_reducible repeat first | apply kn_ | apply kd_ | apply ka_); exact BK129.out) hb); replace BK135 := sd_ (blk_below (g := gb135) (o := .cells #[.int .i64 t136, .int .i64 t137, .int .i64 t138, .int .i64 t139] 30 (0, 0)) (by (with_reducible repeat first | apply kn_ | apply kd_ | apply ka_); refine blk_put (cs := #[.int .i64 t136, .int .i64 t137, .int .i64 t138, .int .i64 t134]) ?_ 3 _ rfl; (with_reducible repeat first | apply kn_ | apply kd_ | apply ka_); refine blk_put (cs := #[.int .i64 t136, .int .i64 t137, .int .i64 t133, .int .i64 t134]) ?_ 2 _ rfl; (with_reducible repeat first | apply kn_ | apply kd_ | apply ka_); refine blk_put (cs := #[.int .i64 t136, .int .i64 t132, .int .i64 t133, .int .i64 t134]) ?_ 1 _ rfl; (with_reducible repeat first | apply kn_ | apply kd_ | apply ka_); refine blk_put (cs := #[.int .i64 t131, .int .i64 t132, .int .i64 t133, .int .i64 t134]) ?_ 0 _ rfl; (with_reducible repeat first | apply kn_ | apply kd_ | apply ka_); exact BK135.out) hb); replace HB := hb_ HB (e_ GE129 (e_ GE135 e0_)) hb; (try clear hb); (try clear hb2); (try clear hk); (try clear hi); have hcz30_0 : w29.cell? ⟨gb135, 0, none⟩ = some (.int .i64 t136) := (kc_ BK135.out 0).trans rfl; have hcz30_1 : w29.cell? ⟨gb135, 1, none⟩ = some (.int .i64 t137) := (kc_ BK135.out 1).trans rfl; have hcz30_2 : w29.cell? ⟨gb135, 2, none⟩ = some (.int .i64 t138) := (kc_ BK135.out 2).trans rfl; have hcz30_3 : w29.cell? ⟨gb135, 3, none⟩ = some (.int .i64 t139) := (kc_ BK135.out 3).trans rfl; have hfz30_0 := kf_ BK135.out 0; have hfz30_1 := kf_ BK135.out 1; have hfz30_2 := kf_ BK135.out 2; have hfz30_3 := kf_ BK135.out 3; have hcz31_0 : w29.cell? ⟨gb129, 0, none⟩ = some (.int .i64 0) := (kc_ BK129.out 0).trans rfl; have hcz31_1 : w29.cell? ⟨gb129, 1, none⟩ = some (.int .i64 0) := (kc_ BK129.out 1).trans rfl; have hcz31_2 : w29.cell? ⟨gb129, 2, none⟩ = some (.int .i64 0) := (kc_ BK129.out 2).trans rfl; have hcz31_3 : w29.cell? ⟨gb129, 3, none⟩ = some (.int .i64 0) := (kc_ BK129.out 3).trans rfl; have hfz31_0 := kf_ BK129.out 0; have hfz31_1 := kf_ BK129.out 1; have hfz31_2 := kf_ BK129.out 2; have hfz31_3 := kf_ BK129.out 3))
    refine bodyPost_ret (results_ct rfl _ _ gb129 30 #[.int .i64 t136, .int .i64 t137, .int .i64 t138, .int .i64 t139] (0, 0) _ rfl (by (with_reducible repeat first | apply kn_ | apply kd_ | apply ka_); refine blk_put (cs := #[.int .i64 t136, .int .i64 t137, .int .i64 t138, .int .i64 0]) ?_ 3 _ rfl; (with_reducible repeat first | apply kn_ | apply kd_ | apply ka_); refine blk_put (cs := #[.int .i64 t136, .int .i64 t137, .int .i64 0, .int .i64 0]) ?_ 2 _ rfl; (with_reducible repeat first | apply kn_ | apply kd_ | apply ka_); refine blk_put (cs := #[.int .i64 t136, .int .i64 0, .int .i64 0, .int .i64 0]) ?_ 1 _ rfl; (with_reducible repeat first | apply kn_ | apply kd_ | apply ka_); refine blk_put (cs := #[.int .i64 0, .int .i64 0, .int .i64 0, .int .i64 0]) ?_ 0 _ rfl; (with_reducible repeat first | apply kn_ | apply kd_ | apply ka_); exact BK129.out) Tryd.underlying30 rfl (by kernel_rfl)) rfl ?_
    exact ⟨by first | rfl | (simp [errW_none, errW_some] <;> rfl) | (simp [*, errW_none, errW_some] <;> rfl), by repeat (first | (with_reducible first | exact HB.out | apply ba_ | apply pd_ | apply d1_ | refine bs_ ?_ GE129.out | refine bs_ ?_ GE135.out) | exact HB.out)⟩
   ·replace c12 := bf_ c12
    subst c12
    have H1 : (some (0, 0, 0, 0, 2)) = some (r1, r2, r3, r4, r5) := by rw [if_neg (show ¬ (false = true) by decide)] at H; exact H
    clear H; have H := H1; clear H1
    simp only [Option.some.injEq, Prod.mk.injEq] at H
    obtain ⟨rfl, rfl, rfl, rfl, rfl⟩ := H
    go_enter Tryd.func11, Tryd.ntmps11
    try go_wp2_with (first | ((with_reducible refine gate_dst (N := 4) rfl ?_); refine box_event ?hg (N := 4) ?hd (cs := #[.int .i64 0, .int .i64 0, .int .i64 0, .int .i64 0]) (t := 30) ?hr ?_; (case hd => rfl); (case hg => rfl); (case hr => first | (go_simp; done) | (go_simp; rfl)); intro gb129 hg w32 hbox hb; have BK129 := sd_ hbox; have GW129 := gw_ HB e0_ hg; have GE129 := GW129; replace HB := hb_ HB e0_ hb; clear hb hbox hg) | ((with_reducible refine gate_callee (f := 9) rfl ?_); refine goesL_ (some 8) rfl rfl Tryd.func9 (by kernel_rfl) rfl #[.int .i64 a0] rfl (by (try simp only [lm_, lq_, lx_]); first | done | rfl | (simp only [ld_, lt_]; rfl)) ?_; (with_reducible refine (glyph_Known.calls a0 true _ A3.out).mono ?_); rintro e w' ⟨rfl, ⟨nd, rfl⟩⟩; refine ⟨_, rfl, ?_⟩; (repeat (rw [drewN_self w32]; generalize hq_ : World.drewN w32 _ = w32; have n0_ : Aside0 (w32.heap[gb129]? = some (.cells #[.int .i64 0, .int .i64 0, .int .i64 0, .int .i64 0] 30 (0, 0))) := ⟨by rw [← hq_]; exact (kk_ BK129.out)⟩; have n1_ : Aside0 (Below w.heap.size w w32) := ⟨by rw [← hq_]; exact (bb_ HB.out (e_ GE129 e0_))⟩; clear BK129 HB hq_; have BK129 := n0_; have HB := n1_; clear n0_ n1_))) | ((with_reducible refine gate_callee (f := 19) rfl ?_); refine goesL_ (some 12) rfl rfl Tryd.func19 (by kernel_rfl) rfl #[.int .i64 a0] rfl (by (try simp only [lm_, lq_, lx_]); first | done | rfl | (simp only [ld_, lt_]; rfl)) ?_; (with_reducible refine (glyph_full.calls a0 t131 t132 t133 t134 _ A5.out).mono ?_); rintro e w33 ⟨rfl, hb⟩; refine ⟨_, rfl, ?_⟩; replace BK129 := kb_ BK129 hb; replace HB := hb_ HB (e_ GE129 e0_) hb; (try clear hb); (try clear hb2); (try clear hk); (try clear hi)) | ((with_reducible refine gate_dst (N := 6) rfl ?_); refine box_event ?hg (N := 6) ?hd (cs := #[.int .i64 0, .int .i64 0, .int .i64 0, .int .i64 0]) (t := 30) ?hr ?_; (case hd => rfl); (case hg => rfl); (case hr => first | (go_simp; done) | (go_simp; rfl)); intro gb135 hg w34 hbox hb; have BK135 := sd_ hbox; have GW135 := gw_ HB (e_ GE129 e0_) hg; have GE135 := GW135; have NB129_135 := nb_ BK129 hg; have NB135_129 := sy_ NB129_135; replace BK129 := kb_ BK129 hb; replace HB := hb_ HB (e_ GE129 e0_) hb; clear hb hbox hg; have hnb35 := NB135_129.out; have hnc35 := NB129_135.out; have hcz36_0 : w34.cell? ⟨gb135, 0, none⟩ = some (.int .i64 0) := (kc_ BK135.out 0).trans rfl; have hcz36_1 : w34.cell? ⟨gb135, 1, none⟩ = some (.int .i64 0) := (kc_ BK135.out 1).trans rfl; have hcz36_2 : w34.cell? ⟨gb135, 2, none⟩ = some (.int .i64 0) := (kc_ BK135.out 2).trans rfl; have hcz36_3 : w34.cell? ⟨gb135, 3, none⟩ = some (.int .i64 0) := (kc_ BK135.out 3).trans rfl; have hfz36_0 := kf_ BK135.out 0; have hfz36_1 := kf_ BK135.out 1; have hfz36_2 := kf_ BK135.out 2; have hfz36_3 := kf_ BK135.out 3))
    have n0_ : Aside0 (((((w34.setCell ⟨gb135, 0, none⟩ (.int .i64 t131)).setCell ⟨gb135, 1, none⟩ (.int .i64 t132)).setCell ⟨gb135, 2, none⟩ (.int .i64 t133)).setCell ⟨gb135, 3, none⟩ (.int .i64 t134)).heap[gb129]? = some (.cells #[.int .i64 0, .int .i64 0, .int .i64 0, .int .i64 0] 30 (0, 0))) := ⟨by (with_reducible repeat first | apply kn_ | apply kd_ | apply ka_); refine blk_far ?_ NB129_135.out _; (with_reducible repeat first | apply kn_ | apply kd_ | apply ka_); refine blk_far ?_ NB129_135.out _; (with_reducible repeat first | apply kn_ | apply kd_ | apply ka_); refine blk_far ?_ NB129_135.out _; (with_reducible repeat first | apply kn_ | apply kd_ | apply ka_); refine blk_far ?_ NB129_135.out _; (with_reducible repeat first | apply kn_ | apply kd_ | apply ka_); exact BK129.out⟩
    have n1_ : Aside0 (((((w34.setCell ⟨gb135, 0, none⟩ (.int .i64 t131)).setCell ⟨gb135, 1, none⟩ (.int .i64 t132)).setCell ⟨gb135, 2, none⟩ (.int .i64 t133)).setCell ⟨gb135, 3, none⟩ (.int .i64 t134)).heap[gb135]? = some (.cells #[.int .i64 t131, .int .i64 t132, .int .i64 t133, .int .i64 t134] 30 (0, 0))) := ⟨by (with_reducible repeat first | apply kn_ | apply kd_ | apply ka_); refine blk_put (cs := #[.int .i64 t131, .int .i64 t132, .int .i64 t133, .int .i64 0]) ?_ 3 _ rfl; (with_reducible repeat first | apply kn_ | apply kd_ | apply ka_); refine blk_put (cs := #[.int .i64 t131, .int .i64 t132, .int .i64 0, .int .i64 0]) ?_ 2 _ rfl; (with_reducible repeat first | apply kn_ | apply kd_ | apply ka_); refine blk_put (cs := #[.int .i64 t131, .int .i64 0, .int .i64 0, .int .i64 0]) ?_ 1 _ rfl; (with_reducible repeat first | apply kn_ | apply kd_ | apply ka_); refine blk_put (cs := #[.int .i64 0, .int .i64 0, .int .i64 0, .int .i64 0]) ?_ 0 _ rfl; (with_reducible repeat first | apply kn_ | apply kd_ | apply ka_); exact BK135.out⟩
    have n2_ : Aside0 (Below w.heap.size w ((((w34.setCell ⟨gb135, 0, none⟩ (.int .i64 t131)).setCell ⟨gb135, 1, none⟩ (.int .i64 t132)).setCell ⟨gb135, 2, none⟩ (.int .i64 t133)).setCell ⟨gb135, 3, none⟩ (.int .i64 t134))) := ⟨by repeat (first | (with_reducible first | exact HB.out | apply ba_ | apply pd_ | apply d1_ | refine bs_ ?_ GE129.out | refine bs_ ?_ GE135.out) | exact HB.out)⟩
    (try clear BK129)
    (try clear BK135)
    (try clear HB)
    generalize ((((w34.setCell ⟨gb135, 0, none⟩ (.int .i64 t131)).setCell ⟨gb135, 1, none⟩ (.int .i64 t132)).setCell ⟨gb135, 2, none⟩ (.int .i64 t133)).setCell ⟨gb135, 3, none⟩ (.int .i64 t134)) = w37 at n0_ n1_ n2_ ⊢
    have BK129 := n0_
    have BK135 := n1_
    have HB := n2_
    clear n0_ n1_ n2_
    replace BK129 := sd_ (kd_ BK129.out)
    replace BK135 := sd_ (kd_ BK135.out)
    replace HB := sd_ (d1_ HB.out)
    refine start_ (n := 14) (S := fun w' => w'.cell? ⟨gb135, 0, none⟩ = some (.int .i64 t131) ∧ w'.cell? ⟨gb135, 1, none⟩ = some (.int .i64 t132) ∧ w'.cell? ⟨gb135, 2, none⟩ = some (.int .i64 t133) ∧ w'.cell? ⟨gb135, 3, none⟩ = some (.int .i64 t134)) (ds := [13]) (Array.replicate 14 false) (by kernel_rfl) rfl rfl ⟨(kc_ BK135.out 0).trans rfl, (kc_ BK135.out 1).trans rfl, (kc_ BK135.out 2).trans rfl, (kc_ BK135.out 3).trans rfl⟩ (fun hHeld => ?_); refine with_tabW glyph_Extent.tab5 glyph_Extent.bits5 (fun HT_ HW_ => ?_)
    generalize w37.drew = w38 at BK129 BK135 HB hHeld ⊢
    refine pu_ (v := ?_) (a' := ?_) 0 14 (bz 14 1) rfl rfl HT_ (by kernel_rfl) (fun _ _ _ h => h) (by rfl) ?_ ?_ ?_
    rotate_left; (intro w'; go_simp; with_reducible rfl); rotate_left; (simp only [Act.put, ls_, lz_, lc_, i64_w, i32_w]; rfl)
    refine pu_ (v := ?_) (a' := ?_) 3 17 (bz 14 9) rfl rfl HT_ (by kernel_rfl) (fun _ _ _ h => h) (by rfl) ?_ ?_ ?_
    rotate_left; (intro w'; go_simp; with_reducible rfl); rotate_left; (simp only [Act.put, ls_, lz_, lc_, i64_w, i32_w]; rfl)
    refine pu_ (v := ?_) (a' := ?_) 6 20 (bz 14 73) rfl rfl HT_ (by kernel_rfl) (fun _ _ _ h => h) (by rfl) ?_ ?_ ?_
    rotate_left; (intro w'; go_simp; with_reducible rfl); rotate_left; (simp only [Act.put, ls_, lz_, lc_, i64_w, i32_w]; rfl)
    refine pu_ (v := ?_) (a' := ?_) 9 23 (bz 14 585) rfl rfl HT_ (by kernel_rfl) (fun _ _ _ h => h) (by rfl) ?_ ?_ ?_
    rotate_left; (intro w'; go_simp; with_reducible rfl); rotate_left; (simp only [Act.put, ls_, lz_, lc_, i64_w, i32_w]; rfl)
    refine ta_ (v := ?_) (a' := ?_) 1 15 (bz 14 587) rfl rfl HT_ HW_ (by kernel_rfl) (fun _ _ _ h => h) (by rfl) ?_ hHeld ?_ ?_
    rotate_left
    ·rintro w' ⟨s0, s1, s2, s3⟩
     go_simp
     with_reducible rfl
    rotate_left
    ·simp only [Act.put, ls_, lz_, lc_, i64_w, i32_w]
     rfl
    refine ta_ (v := ?_) (a' := ?_) 4 18 (bz 14 603) rfl rfl HT_ HW_ (by kernel_rfl) (fun _ _ _ h => h) (by rfl) ?_ hHeld ?_ ?_
    rotate_left
    ·rintro w' ⟨s0, s1, s2, s3⟩
     go_simp
     with_reducible rfl
    rotate_left
    ·simp only [Act.put, ls_, lz_, lc_, i64_w, i32_w]
     rfl
    refine ta_ (v := ?_) (a' := ?_) 7 21 (bz 14 731) rfl rfl HT_ HW_ (by kernel_rfl) (fun _ _ _ h => h) (by rfl) ?_ hHeld ?_ ?_
    rotate_left
    ·rintro w' ⟨s0, s1, s2, s3⟩
     go_simp
     with_reducible rfl
    rotate_left
    ·simp only [Act.put, ls_, lz_, lc_, i64_w, i32_w]
     rfl
    refine ta_ (v := ?_) (a' := ?_) 10 24 (bz 14 1755) rfl rfl HT_ HW_ (by kernel_rfl) (fun _ _ _ h => h) (by rfl) ?_ hHeld ?_ ?_
    rotate_left
    ·rintro w' ⟨s0, s1, s2, s3⟩
     go_simp
     with_reducible rfl
    rotate_left
    ·simp only [Act.put, ls_, lz_, lc_, i64_w, i32_w]
     rfl
    refine on_ (N := some 16) 2 (bz 14 1759) rfl rfl HT_ (by kernel_rfl) (by decide) (fun K hK => ?_)
    refine goes_ Tryd.func20 (by kernel_rfl) rfl #[.int .i64 t131] (by rfl) rfl rfl (by (try simp only [lm_, lq_, lx_]); first | done | rfl | (simp only [ld_, lt_]; rfl)) ?_
    with_reducible refine (glyph_less.calls t131 t136 _ ?side1 A7.out).mono ?_
    (case side1 => first | (with_reducible exact hE) | exact sd_ (LaidE.below hE.out (bb_ HB.out (e_ GE129 (e_ GE135 e0_)))))
    rintro e w39 ⟨rfl, hb⟩
    refine ⟨_, rfl, ?_⟩
    replace BK129 := kb_ BK129 hb
    replace BK135 := kb_ BK135 hb
    replace HB := hb_ HB (e_ GE129 (e_ GE135 e0_)) hb
    (try clear hb)
    (try clear hb2)
    (try clear hk)
    (try clear hi)
    refine hK.out _ _ ⟨(kc_ BK135.out 0).trans rfl, (kc_ BK135.out 1).trans rfl, (kc_ BK135.out 2).trans rfl, (kc_ BK135.out 3).trans rfl⟩ (fun hHeld => ?_)
    clear hK K
    refine norm_ (a' := ?_) ?_ ?_
    rotate_left
    ·show Act.put _ (some 16) _ = _
     simp only [Act.put, ls_, lz_, lc_, i64_w, i32_w]
     rfl
    refine on_ (N := some 19) 5 (bz 14 1791) rfl rfl HT_ (by kernel_rfl) (by decide) (fun K hK => ?_)
    refine goes_ Tryd.func20 (by kernel_rfl) rfl #[.int .i64 t132] (by rfl) rfl rfl (by (try simp only [lm_, lq_, lx_]); first | done | rfl | (simp only [ld_, lt_]; rfl)) ?_
    with_reducible refine (glyph_less.calls t132 t137 _ ?side1 A8.out).mono ?_
    (case side1 => first | (with_reducible exact hE) | exact sd_ (LaidE.below hE.out (bb_ HB.out (e_ GE129 (e_ GE135 e0_)))))
    rintro e w40 ⟨rfl, hb⟩
    refine ⟨_, rfl, ?_⟩
    replace BK129 := kb_ BK129 hb
    replace BK135 := kb_ BK135 hb
    replace HB := hb_ HB (e_ GE129 (e_ GE135 e0_)) hb
    (try clear hb)
    (try clear hb2)
    (try clear hk)
    (try clear hi)
    refine hK.out _ _ ⟨(kc_ BK135.out 0).trans rfl, (kc_ BK135.out 1).trans rfl, (kc_ BK135.out 2).trans rfl, (kc_ BK135.out 3).trans rfl⟩ (fun hHeld => ?_)
    clear hK K
    refine norm_ (a' := ?_) ?_ ?_
    rotate_left
    ·show Act.put _ (some 19) _ = _
     simp only [Act.put, ls_, lz_, lc_, i64_w, i32_w]
     rfl
    refine on_ (N := some 22) 8 (bz 14 2047) rfl rfl HT_ (by kernel_rfl) (by decide) (fun K hK => ?_)
    refine goes_ Tryd.func20 (by kernel_rfl) rfl #[.int .i64 t133] (by rfl) rfl rfl (by (try simp only [lm_, lq_, lx_]); first | done | rfl | (simp only [ld_, lt_]; rfl)) ?_
    with_reducible refine (glyph_less.calls t133 t138 _ ?side1 A9.out).mono ?_
    (case side1 => first | (with_reducible exact hE) | exact sd_ (LaidE.below hE.out (bb_ HB.out (e_ GE129 (e_ GE135 e0_)))))
    rintro e w41 ⟨rfl, hb⟩
    refine ⟨_, rfl, ?_⟩
    replace BK129 := kb_ BK129 hb
    replace BK135 := kb_ BK135 hb
    replace HB := hb_ HB (e_ GE129 (e_ GE135 e0_)) hb
    (try clear hb)
    (try clear hb2)
    (try clear hk)
    (try clear hi)
    refine hK.out _ _ ⟨(kc_ BK135.out 0).trans rfl, (kc_ BK135.out 1).trans rfl, (kc_ BK135.out 2).trans rfl, (kc_ BK135.out 3).trans rfl⟩ (fun hHeld => ?_)
    clear hK K
    refine norm_ (a' := ?_) ?_ ?_
    rotate_left
    ·show Act.put _ (some 22) _ = _
     simp only [Act.put, ls_, lz_, lc_, i64_w, i32_w]
     rfl
    refine on_ (N := some 25) 11 (bz 14 4095) rfl rfl HT_ (by kernel_rfl) (by decide) (fun K hK => ?_)
    refine goes_ Tryd.func20 (by kernel_rfl) rfl #[.int .i64 t134] (by rfl) rfl rfl (by (try simp only [lm_, lq_, lx_]); first | done | rfl | (simp only [ld_, lt_]; rfl)) ?_
    with_reducible refine (glyph_less.calls t134 t139 _ ?side1 A10.out).mono ?_
    (case side1 => first | (with_reducible exact hE) | exact sd_ (LaidE.below hE.out (bb_ HB.out (e_ GE129 (e_ GE135 e0_)))))
    rintro e w42 ⟨rfl, hb⟩
    refine ⟨_, rfl, ?_⟩
    replace BK129 := kb_ BK129 hb
    replace BK135 := kb_ BK135 hb
    replace HB := hb_ HB (e_ GE129 (e_ GE135 e0_)) hb
    (try clear hb)
    (try clear hb2)
    (try clear hk)
    (try clear hi)
    refine hK.out _ _ ⟨(kc_ BK135.out 0).trans rfl, (kc_ BK135.out 1).trans rfl, (kc_ BK135.out 2).trans rfl, (kc_ BK135.out 3).trans rfl⟩ (fun hHeld => ?_)
    clear hK K
    refine norm_ (a' := ?_) ?_ ?_
    rotate_left
    ·show Act.put _ (some 25) _ = _
     simp only [Act.put, ls_, lz_, lc_, i64_w, i32_w]
     rfl
    refine pu_ (v := ?_) (a' := ?_) 12 26 (bz 14 8191) rfl rfl HT_ (by kernel_rfl) (fun _ _ _ h => h) (by rfl) ?_ ?_ ?_
    rotate_left; (intro w'; go_simp; with_reducible rfl); rotate_left; (simp only [Act.put, ls_, lz_, lc_, i64_w, i32_w]; rfl)
    refine last_ (i := 13) (N := none) (bz 14 16383) rfl rfl (one_of HT_.out (by kernel_rfl)) (by decide) (fun K hK => ?_)
    have hs43 : w42.cell? ⟨gb135, 0, none⟩ = some (.int .i64 t131) := (kc_ BK135.out 0).trans rfl
    have hfs43 := kf_ BK135.out 0
    have hns43_0 := NB129_135.out
    have hms43_0 := NB135_129.out
    have hs44 : w42.cell? ⟨gb135, 1, none⟩ = some (.int .i64 t132) := (kc_ BK135.out 1).trans rfl
    have hfs44 := kf_ BK135.out 1
    have hns44_0 := NB129_135.out
    have hms44_0 := NB135_129.out
    have hs45 : w42.cell? ⟨gb135, 2, none⟩ = some (.int .i64 t133) := (kc_ BK135.out 2).trans rfl
    have hfs45 := kf_ BK135.out 2
    have hns45_0 := NB129_135.out
    have hms45_0 := NB135_129.out
    have hs46 : w42.cell? ⟨gb135, 3, none⟩ = some (.int .i64 t134) := (kc_ BK135.out 3).trans rfl
    have hfs46 := kf_ BK135.out 3
    have hns46_0 := NB129_135.out
    have hms46_0 := NB135_129.out
    refine skip_ (w1 := ?_) (by rfl) rfl ?_ ?_
    rotate_left
    ·go_simp
     rfl
    refine hK.out _ _ ?_
    clear hK K
    refine done_ (done_of HT_.out (by kernel_rfl)) ?_
    have hcz47_0 : w42.cell? ⟨gb135, 0, none⟩ = some (.int .i64 t131) := (kc_ BK135.out 0).trans rfl
    have hcz47_1 : w42.cell? ⟨gb135, 1, none⟩ = some (.int .i64 t132) := (kc_ BK135.out 1).trans rfl
    have hcz47_2 : w42.cell? ⟨gb135, 2, none⟩ = some (.int .i64 t133) := (kc_ BK135.out 2).trans rfl
    have hcz47_3 : w42.cell? ⟨gb135, 3, none⟩ = some (.int .i64 t134) := (kc_ BK135.out 3).trans rfl
    have hfz47_0 := kf_ BK135.out 0
    have hfz47_1 := kf_ BK135.out 1
    have hfz47_2 := kf_ BK135.out 2
    have hfz47_3 := kf_ BK135.out 3
    try go_wp2_with (first | ((with_reducible refine gate_callee (f := 21) rfl ?_); refine goesL_ (some 28) rfl rfl Tryd.func21 (by kernel_rfl) rfl #[.agg #[.int .i64 t136, .int .i64 t137, .int .i64 t138, .int .i64 t139]] rfl (by (try simp only [lm_, lq_, lx_]); first | done | rfl | (simp only [ld_, lt_]; rfl)) ?_; (with_reducible refine (box_Check.calls t136 t137 t138 t139 false _ A11.out).mono ?_); rintro e w48 ⟨rfl, hb⟩; refine ⟨_, rfl, ?_⟩; replace BK129 := sd_ (blk_below (g := gb129) (o := .cells #[.int .i64 0, .int .i64 0, .int .i64 0, .int .i64 0] 30 (0, 0)) (by (with_reducible repeat first | apply kn_ | apply kd_ | apply ka_); refine blk_far ?_ NB129_135.out _; (with_reducible repeat first | apply kn_ | apply kd_ | apply ka_); refine blk_far ?_ NB129_135.out _; (with_reducible repeat first | apply kn_ | apply kd_ | apply ka_); refine blk_far ?_ NB129_135.out _; (with_reducible repeat first | apply kn_ | apply kd_ | apply ka_); refine blk_far ?_ NB129_135.out _; (with_reducible repeat first | apply kn_ | apply kd_ | apply ka_); exact BK129.out) hb); replace BK135 := sd_ (blk_below (g := gb135) (o := .cells #[.int .i64 t136, .int .i64 t137, .int .i64 t138, .int .i64 t139] 30 (0, 0)) (by (with_reducible repeat first | apply kn_ | apply kd_ | apply ka_); refine blk_put (cs := #[.int .i64 t136, .int .i64 t137, .int .i64 t138, .int .i64 t134]) ?_ 3 _ rfl; (with_reducible repeat first | apply kn_ | apply kd_ | apply ka_); refine blk_put (cs := #[.int .i64 t136, .int .i64 t137, .int .i64 t133, .int .i64 t134]) ?_ 2 _ rfl; (with_reducible repeat first | apply kn_ | apply kd_ | apply ka_); refine blk_put (cs := #[.int .i64 t136, .int .i64 t132, .int .i64 t133, .int .i64 t134]) ?_ 1 _ rfl; (with_reducible repeat first | apply kn_ | apply kd_ | apply ka_); refine blk_put (cs := #[.int .i64 t131, .int .i64 t132, .int .i64 t133, .int .i64 t134]) ?_ 0 _ rfl; (with_reducible repeat first | apply kn_ | apply kd_ | apply ka_); exact BK135.out) hb); replace HB := hb_ HB (e_ GE129 (e_ GE135 e0_)) hb; (try clear hb); (try clear hb2); (try clear hk); (try clear hi); have hcz49_0 : w48.cell? ⟨gb129, 0, none⟩ = some (.int .i64 0) := (kc_ BK129.out 0).trans rfl; have hcz49_1 : w48.cell? ⟨gb129, 1, none⟩ = some (.int .i64 0) := (kc_ BK129.out 1).trans rfl; have hcz49_2 : w48.cell? ⟨gb129, 2, none⟩ = some (.int .i64 0) := (kc_ BK129.out 2).trans rfl; have hcz49_3 : w48.cell? ⟨gb129, 3, none⟩ = some (.int .i64 0) := (kc_ BK129.out 3).trans rfl; have hfz49_0 := kf_ BK129.out 0; have hfz49_1 := kf_ BK129.out 1; have hfz49_2 := kf_ BK129.out 2; have hfz49_3 := kf_ BK129.out 3))
    refine bodyPost_ret (results_ct rfl _ _ gb129 30 #[.int .i64 0, .int .i64 0, .int .i64 0, .int .i64 0] (0, 0) _ rfl (by (with_reducible repeat first | apply kn_ | apply kd_ | apply ka_); refine blk_put (cs := #[.int .i64 0, .int .i64 0, .int .i64 0, .int .i64 0]) ?_ 3 _ rfl; (with_reducible repeat first | apply kn_ | apply kd_ | apply ka_); refine blk_put (cs := #[.int .i64 0, .int .i64 0, .int .i64 0, .int .i64 0]) ?_ 2 _ rfl; (with_reducible repeat first | apply kn_ | apply kd_ | apply ka_); refine blk_put (cs := #[.int .i64 0, .int .i64 0, .int .i64 0, .int .i64 0]) ?_ 1 _ rfl; (with_reducible repeat first | apply kn_ | apply kd_ | apply ka_); refine blk_put (cs := #[.int .i64 0, .int .i64 0, .int .i64 0, .int .i64 0]) ?_ 0 _ rfl; (with_reducible repeat first | apply kn_ | apply kd_ | apply ka_); exact BK129.out) Tryd.underlying30 rfl (by kernel_rfl)) rfl ?_
    exact ⟨by first | rfl | (simp [errW_none, errW_some] <;> rfl) | (simp [*, errW_none, errW_some] <;> rfl), by repeat (first | (with_reducible first | exact HB.out | apply ba_ | apply pd_ | apply d1_ | refine bs_ ?_ GE129.out | refine bs_ ?_ GE135.out) | exact HB.out)⟩
  ·replace c6 := bf_ c6
   subst c6
   have H1 : ((box_Check.f t131 t132 t133 t134).bind fun t141 => (if t141 = true then (some (t131, t132, t133, t134, 0)) else (some (0, 0, 0, 0, 2)))) = some (r1, r2, r3, r4, r5) := by rw [if_neg (show ¬ (false = true) by decide)] at H; exact H
   clear H; have H := H1; clear H1
   replace H := ob_ H
   obtain ⟨t141, A500, H⟩ := H
   replace H : (if t141 = true then (some (t131, t132, t133, t134, 0)) else (some (0, 0, 0, 0, 2))) = some (r1, r2, r3, r4, r5) := H
   have A50 := sd_ A500
   clear A500
   by_cases c51 : t141 = true
   ·subst c51
    have H1 : (some (t131, t132, t133, t134, 0)) = some (r1, r2, r3, r4, r5) := by rw [if_pos rfl] at H; exact H
    clear H; have H := H1; clear H1
    simp only [Option.some.injEq, Prod.mk.injEq] at H
    obtain ⟨rfl, rfl, rfl, rfl, rfl⟩ := H
    go_enter Tryd.func11, Tryd.ntmps11
    go_wp2_with (first | ((with_reducible refine gate_dst (N := 4) rfl ?_); refine box_event ?hg (N := 4) ?hd (cs := #[.int .i64 0, .int .i64 0, .int .i64 0, .int .i64 0]) (t := 30) ?hr ?_; (case hd => rfl); (case hg => rfl); (case hr => first | (go_simp; done) | (go_simp; rfl)); intro gb129 hg w52 hbox hb; have BK129 := sd_ hbox; have GW129 := gw_ HB e0_ hg; have GE129 := GW129; replace HB := hb_ HB e0_ hb; clear hb hbox hg) | ((with_reducible refine gate_callee (f := 9) rfl ?_); refine goesL_ (some 8) rfl rfl Tryd.func9 (by kernel_rfl) rfl #[.int .i64 a0] rfl (by (try simp only [lm_, lq_, lx_]); first | done | rfl | (simp only [ld_, lt_]; rfl)) ?_; (with_reducible refine (glyph_Known.calls a0 true _ A3.out).mono ?_); rintro e w' ⟨rfl, ⟨nd, rfl⟩⟩; refine ⟨_, rfl, ?_⟩; (repeat (rw [drewN_self w52]; generalize hq_ : World.drewN w52 _ = w52; have n0_ : Aside0 (w52.heap[gb129]? = some (.cells #[.int .i64 0, .int .i64 0, .int .i64 0, .int .i64 0] 30 (0, 0))) := ⟨by rw [← hq_]; exact (kk_ BK129.out)⟩; have n1_ : Aside0 (Below w.heap.size w w52) := ⟨by rw [← hq_]; exact (bb_ HB.out (e_ GE129 e0_))⟩; clear BK129 HB hq_; have BK129 := n0_; have HB := n1_; clear n0_ n1_))) | ((with_reducible refine gate_callee (f := 19) rfl ?_); refine goesL_ (some 12) rfl rfl Tryd.func19 (by kernel_rfl) rfl #[.int .i64 a0] rfl (by (try simp only [lm_, lq_, lx_]); first | done | rfl | (simp only [ld_, lt_]; rfl)) ?_; (with_reducible refine (glyph_full.calls a0 t131 t132 t133 t134 _ A5.out).mono ?_); rintro e w53 ⟨rfl, hb⟩; refine ⟨_, rfl, ?_⟩; replace BK129 := kb_ BK129 hb; replace HB := hb_ HB (e_ GE129 e0_) hb; (try clear hb); (try clear hb2); (try clear hk); (try clear hi)) | ((with_reducible refine gate_dst (N := 6) rfl ?_); refine box_event ?hg (N := 6) ?hd (cs := #[.int .i64 0, .int .i64 0, .int .i64 0, .int .i64 0]) (t := 30) ?hr ?_; (case hd => rfl); (case hg => rfl); (case hr => first | (go_simp; done) | (go_simp; rfl)); intro gb135 hg w54 hbox hb; have BK135 := sd_ hbox; have GW135 := gw_ HB (e_ GE129 e0_) hg; have GE135 := GW135; have NB129_135 := nb_ BK129 hg; have NB135_129 := sy_ NB129_135; replace BK129 := kb_ BK129 hb; replace HB := hb_ HB (e_ GE129 e0_) hb; clear hb hbox hg; have hnb55 := NB135_129.out; have hnc55 := NB129_135.out; have hcz56_0 : w54.cell? ⟨gb135, 0, none⟩ = some (.int .i64 0) := (kc_ BK135.out 0).trans rfl; have hcz56_1 : w54.cell? ⟨gb135, 1, none⟩ = some (.int .i64 0) := (kc_ BK135.out 1).trans rfl; have hcz56_2 : w54.cell? ⟨gb135, 2, none⟩ = some (.int .i64 0) := (kc_ BK135.out 2).trans rfl; have hcz56_3 : w54.cell? ⟨gb135, 3, none⟩ = some (.int .i64 0) := (kc_ BK135.out 3).trans rfl; have hfz56_0 := kf_ BK135.out 0; have hfz56_1 := kf_ BK135.out 1; have hfz56_2 := kf_ BK135.out 2; have hfz56_3 := kf_ BK135.out 3) | ((with_reducible refine gate_callee (f := 21) rfl ?_); refine goesL_ (some 28) rfl rfl Tryd.func21 (by kernel_rfl) rfl #[.agg #[.int .i64 t131, .int .i64 t132, .int .i64 t133, .int .i64 t134]] rfl (by (try simp only [lm_, lq_, lx_]); first | done | rfl | (simp only [ld_, lt_]; rfl)) ?_; (with_reducible refine (box_Check.calls t131 t132 t133 t134 true _ A50.out).mono ?_); rintro e w57 ⟨rfl, hb⟩; refine ⟨_, rfl, ?_⟩; replace BK129 := sd_ (blk_below (g := gb129) (o := .cells #[.int .i64 0, .int .i64 0, .int .i64 0, .int .i64 0] 30 (0, 0)) (by (with_reducible repeat first | apply kn_ | apply kd_ | apply ka_); refine blk_far ?_ NB129_135.out _; (with_reducible repeat first | apply kn_ | apply kd_ | apply ka_); refine blk_far ?_ NB129_135.out _; (with_reducible repeat first | apply kn_ | apply kd_ | apply ka_); refine blk_far ?_ NB129_135.out _; (with_reducible repeat first | apply kn_ | apply kd_ | apply ka_); refine blk_far ?_ NB129_135.out _; (with_reducible repeat first | apply kn_ | apply kd_ | apply ka_); exact BK129.out) hb); replace BK135 := sd_ (blk_below (g := gb135) (o := .cells #[.int .i64 t131, .int .i64 t132, .int .i64 t133, .int .i64 t134] 30 (0, 0)) (by (with_reducible repeat first | apply kn_ | apply kd_ | apply ka_); refine blk_put (cs := #[.int .i64 t131, .int .i64 t132, .int .i64 t133, .int .i64 0]) ?_ 3 _ rfl; (with_reducible repeat first | apply kn_ | apply kd_ | apply ka_); refine blk_put (cs := #[.int .i64 t131, .int .i64 t132, .int .i64 0, .int .i64 0]) ?_ 2 _ rfl; (with_reducible repeat first | apply kn_ | apply kd_ | apply ka_); refine blk_put (cs := #[.int .i64 t131, .int .i64 0, .int .i64 0, .int .i64 0]) ?_ 1 _ rfl; (with_reducible repeat first | apply kn_ | apply kd_ | apply ka_); refine blk_put (cs := #[.int .i64 0, .int .i64 0, .int .i64 0, .int .i64 0]) ?_ 0 _ rfl; (with_reducible repeat first | apply kn_ | apply kd_ | apply ka_); exact BK135.out) hb); replace HB := hb_ HB (e_ GE129 (e_ GE135 e0_)) hb; (try clear hb); (try clear hb2); (try clear hk); (try clear hi); have hcz58_0 : w57.cell? ⟨gb135, 0, none⟩ = some (.int .i64 t131) := (kc_ BK135.out 0).trans rfl; have hcz58_1 : w57.cell? ⟨gb135, 1, none⟩ = some (.int .i64 t132) := (kc_ BK135.out 1).trans rfl; have hcz58_2 : w57.cell? ⟨gb135, 2, none⟩ = some (.int .i64 t133) := (kc_ BK135.out 2).trans rfl; have hcz58_3 : w57.cell? ⟨gb135, 3, none⟩ = some (.int .i64 t134) := (kc_ BK135.out 3).trans rfl; have hfz58_0 := kf_ BK135.out 0; have hfz58_1 := kf_ BK135.out 1; have hfz58_2 := kf_ BK135.out 2; have hfz58_3 := kf_ BK135.out 3; have hcz59_0 : w57.cell? ⟨gb129, 0, none⟩ = some (.int .i64 0) := (kc_ BK129.out 0).trans rfl; have hcz59_1 : w57.cell? ⟨gb129, 1, none⟩ = some (.int .i64 0) := (kc_ BK129.out 1).trans rfl; have hcz59_2 : w57.cell? ⟨gb129, 2, none⟩ = some (.int .i64 0) := (kc_ BK129.out 2).trans rfl; have hcz59_3 : w57.cell? ⟨gb129, 3, none⟩ = some (.int .i64 0) := (kc_ BK129.out 3).trans rfl; have hfz59_0 := kf_ BK129.out 0; have hfz59_1 := kf_ BK129.out 1; have hfz59_2 := kf_ BK129.out 2; have hfz59_3 := kf_ BK129.out 3))
    refine bodyPost_ret (results_ct rfl _ _ gb129 30 #[.int .i64 t131, .int .i64 t132, .int .i64 t133, .int .i64 t134] (0, 0) _ rfl (by (with_reducible repeat first | apply kn_ | apply kd_ | apply ka_); refine blk_put (cs := #[.int .i64 t131, .int .i64 t132, .int .i64 t133, .int .i64 0]) ?_ 3 _ rfl; (with_reducible repeat first | apply kn_ | apply kd_ | apply ka_); refine blk_put (cs := #[.int .i64 t131, .int .i64 t132, .int .i64 0, .int .i64 0]) ?_ 2 _ rfl; (with_reducible repeat first | apply kn_ | apply kd_ | apply ka_); refine blk_put (cs := #[.int .i64 t131, .int .i64 0, .int .i64 0, .int .i64 0]) ?_ 1 _ rfl; (with_reducible repeat first | apply kn_ | apply kd_ | apply ka_); refine blk_put (cs := #[.int .i64 0, .int .i64 0, .int .i64 0, .int .i64 0]) ?_ 0 _ rfl; (with_reducible repeat first | apply kn_ | apply kd_ | apply ka_); exact BK129.out) Tryd.underlying30 rfl (by kernel_rfl)) rfl ?_
    exact ⟨by first | rfl | (simp [errW_none, errW_some] <;> rfl) | (simp [*, errW_none, errW_some] <;> rfl), by repeat (first | (with_reducible first | exact HB.out | apply ba_ | apply pd_ | apply d1_ | refine bs_ ?_ GE129.out | refine bs_ ?_ GE135.out) | exact HB.out)⟩
   ·replace c51 := bf_ c51
    subst c51
    have H1 : (some (0, 0, 0, 0, 2)) = some (r1, r2, r3, r4, r5) := by rw [if_neg (show ¬ (false = true) by decide)] at H; exact H
    clear H; have H := H1; clear H1
    simp only [Option.some.injEq, Prod.mk.injEq] at H
    obtain ⟨rfl, rfl, rfl, rfl, rfl⟩ := H
    go_enter Tryd.func11, Tryd.ntmps11
    go_wp2_with (first | ((with_reducible refine gate_dst (N := 4) rfl ?_); refine box_event ?hg (N := 4) ?hd (cs := #[.int .i64 0, .int .i64 0, .int .i64 0, .int .i64 0]) (t := 30) ?hr ?_; (case hd => rfl); (case hg => rfl); (case hr => first | (go_simp; done) | (go_simp; rfl)); intro gb129 hg w60 hbox hb; have BK129 := sd_ hbox; have GW129 := gw_ HB e0_ hg; have GE129 := GW129; replace HB := hb_ HB e0_ hb; clear hb hbox hg) | ((with_reducible refine gate_callee (f := 9) rfl ?_); refine goesL_ (some 8) rfl rfl Tryd.func9 (by kernel_rfl) rfl #[.int .i64 a0] rfl (by (try simp only [lm_, lq_, lx_]); first | done | rfl | (simp only [ld_, lt_]; rfl)) ?_; (with_reducible refine (glyph_Known.calls a0 true _ A3.out).mono ?_); rintro e w' ⟨rfl, ⟨nd, rfl⟩⟩; refine ⟨_, rfl, ?_⟩; (repeat (rw [drewN_self w60]; generalize hq_ : World.drewN w60 _ = w60; have n0_ : Aside0 (w60.heap[gb129]? = some (.cells #[.int .i64 0, .int .i64 0, .int .i64 0, .int .i64 0] 30 (0, 0))) := ⟨by rw [← hq_]; exact (kk_ BK129.out)⟩; have n1_ : Aside0 (Below w.heap.size w w60) := ⟨by rw [← hq_]; exact (bb_ HB.out (e_ GE129 e0_))⟩; clear BK129 HB hq_; have BK129 := n0_; have HB := n1_; clear n0_ n1_))) | ((with_reducible refine gate_callee (f := 19) rfl ?_); refine goesL_ (some 12) rfl rfl Tryd.func19 (by kernel_rfl) rfl #[.int .i64 a0] rfl (by (try simp only [lm_, lq_, lx_]); first | done | rfl | (simp only [ld_, lt_]; rfl)) ?_; (with_reducible refine (glyph_full.calls a0 t131 t132 t133 t134 _ A5.out).mono ?_); rintro e w61 ⟨rfl, hb⟩; refine ⟨_, rfl, ?_⟩; replace BK129 := kb_ BK129 hb; replace HB := hb_ HB (e_ GE129 e0_) hb; (try clear hb); (try clear hb2); (try clear hk); (try clear hi)) | ((with_reducible refine gate_dst (N := 6) rfl ?_); refine box_event ?hg (N := 6) ?hd (cs := #[.int .i64 0, .int .i64 0, .int .i64 0, .int .i64 0]) (t := 30) ?hr ?_; (case hd => rfl); (case hg => rfl); (case hr => first | (go_simp; done) | (go_simp; rfl)); intro gb135 hg w62 hbox hb; have BK135 := sd_ hbox; have GW135 := gw_ HB (e_ GE129 e0_) hg; have GE135 := GW135; have NB129_135 := nb_ BK129 hg; have NB135_129 := sy_ NB129_135; replace BK129 := kb_ BK129 hb; replace HB := hb_ HB (e_ GE129 e0_) hb; clear hb hbox hg; have hnb63 := NB135_129.out; have hnc63 := NB129_135.out; have hcz64_0 : w62.cell? ⟨gb135, 0, none⟩ = some (.int .i64 0) := (kc_ BK135.out 0).trans rfl; have hcz64_1 : w62.cell? ⟨gb135, 1, none⟩ = some (.int .i64 0) := (kc_ BK135.out 1).trans rfl; have hcz64_2 : w62.cell? ⟨gb135, 2, none⟩ = some (.int .i64 0) := (kc_ BK135.out 2).trans rfl; have hcz64_3 : w62.cell? ⟨gb135, 3, none⟩ = some (.int .i64 0) := (kc_ BK135.out 3).trans rfl; have hfz64_0 := kf_ BK135.out 0; have hfz64_1 := kf_ BK135.out 1; have hfz64_2 := kf_ BK135.out 2; have hfz64_3 := kf_ BK135.out 3) | ((with_reducible refine gate_callee (f := 21) rfl ?_); refine goesL_ (some 28) rfl rfl Tryd.func21 (by kernel_rfl) rfl #[.agg #[.int .i64 t131, .int .i64 t132, .int .i64 t133, .int .i64 t134]] rfl (by (try simp only [lm_, lq_, lx_]); first | done | rfl | (simp only [ld_, lt_]; rfl)) ?_; (with_reducible refine (box_Check.calls t131 t132 t133 t134 false _ A50.out).mono ?_); rintro e w65 ⟨rfl, hb⟩; refine ⟨_, rfl, ?_⟩; replace BK129 := sd_ (blk_below (g := gb129) (o := .cells #[.int .i64 0, .int .i64 0, .int .i64 0, .int .i64 0] 30 (0, 0)) (by (with_reducible repeat first | apply kn_ | apply kd_ | apply ka_); refine blk_far ?_ NB129_135.out _; (with_reducible repeat first | apply kn_ | apply kd_ | apply ka_); refine blk_far ?_ NB129_135.out _; (with_reducible repeat first | apply kn_ | apply kd_ | apply ka_); refine blk_far ?_ NB129_135.out _; (with_reducible repeat first | apply kn_ | apply kd_ | apply ka_); refine blk_far ?_ NB129_135.out _; (with_reducible repeat first | apply kn_ | apply kd_ | apply ka_); exact BK129.out) hb); replace BK135 := sd_ (blk_below (g := gb135) (o := .cells #[.int .i64 t131, .int .i64 t132, .int .i64 t133, .int .i64 t134] 30 (0, 0)) (by (with_reducible repeat first | apply kn_ | apply kd_ | apply ka_); refine blk_put (cs := #[.int .i64 t131, .int .i64 t132, .int .i64 t133, .int .i64 0]) ?_ 3 _ rfl; (with_reducible repeat first | apply kn_ | apply kd_ | apply ka_); refine blk_put (cs := #[.int .i64 t131, .int .i64 t132, .int .i64 0, .int .i64 0]) ?_ 2 _ rfl; (with_reducible repeat first | apply kn_ | apply kd_ | apply ka_); refine blk_put (cs := #[.int .i64 t131, .int .i64 0, .int .i64 0, .int .i64 0]) ?_ 1 _ rfl; (with_reducible repeat first | apply kn_ | apply kd_ | apply ka_); refine blk_put (cs := #[.int .i64 0, .int .i64 0, .int .i64 0, .int .i64 0]) ?_ 0 _ rfl; (with_reducible repeat first | apply kn_ | apply kd_ | apply ka_); exact BK135.out) hb); replace HB := hb_ HB (e_ GE129 (e_ GE135 e0_)) hb; (try clear hb); (try clear hb2); (try clear hk); (try clear hi); have hcz66_0 : w65.cell? ⟨gb129, 0, none⟩ = some (.int .i64 0) := (kc_ BK129.out 0).trans rfl; have hcz66_1 : w65.cell? ⟨gb129, 1, none⟩ = some (.int .i64 0) := (kc_ BK129.out 1).trans rfl; have hcz66_2 : w65.cell? ⟨gb129, 2, none⟩ = some (.int .i64 0) := (kc_ BK129.out 2).trans rfl; have hcz66_3 : w65.cell? ⟨gb129, 3, none⟩ = some (.int .i64 0) := (kc_ BK129.out 3).trans rfl; have hfz66_0 := kf_ BK129.out 0; have hfz66_1 := kf_ BK129.out 1; have hfz66_2 := kf_ BK129.out 2; have hfz66_3 := kf_ BK129.out 3))
    refine bodyPost_ret (results_ct rfl _ _ gb129 30 #[.int .i64 0, .int .i64 0, .int .i64 0, .int .i64 0] (0, 0) _ rfl (by (with_reducible repeat first | apply kn_ | apply kd_ | apply ka_); refine blk_put (cs := #[.int .i64 0, .int .i64 0, .int .i64 0, .int .i64 0]) ?_ 3 _ rfl; (with_reducible repeat first | apply kn_ | apply kd_ | apply ka_); refine blk_put (cs := #[.int .i64 0, .int .i64 0, .int .i64 0, .int .i64 0]) ?_ 2 _ rfl; (with_reducible repeat first | apply kn_ | apply kd_ | apply ka_); refine blk_put (cs := #[.int .i64 0, .int .i64 0, .int .i64 0, .int .i64 0]) ?_ 1 _ rfl; (with_reducible repeat first | apply kn_ | apply kd_ | apply ka_); refine blk_put (cs := #[.int .i64 0, .int .i64 0, .int .i64 0, .int .i64 0]) ?_ 0 _ rfl; (with_reducible repeat first | apply kn_ | apply kd_ | apply ka_); exact BK129.out) Tryd.underlying30 rfl (by kernel_rfl)) rfl ?_
    exact ⟨by first | rfl | (simp [errW_none, errW_some] <;> rfl) | (simp [*, errW_none, errW_some] <;> rfl), by repeat (first | (with_reducible first | exact HB.out | apply ba_ | apply pd_ | apply d1_ | refine bs_ ?_ GE129.out | refine bs_ ?_ GE135.out) | exact HB.out)⟩
 ·replace c4 := bf_ c4
  subst c4
  have H1 : (some (0, 0, 0, 0, 2)) = some (r1, r2, r3, r4, r5) := by rw [if_neg (show ¬ (false = true) by decide)] at H; exact H
  clear H; have H := H1; clear H1
  simp only [Option.some.injEq, Prod.mk.injEq] at H
  obtain ⟨rfl, rfl, rfl, rfl, rfl⟩ := H
  go_enter Tryd.func11, Tryd.ntmps11
  go_wp2_with (first | ((with_reducible refine gate_dst (N := 4) rfl ?_); refine box_event ?hg (N := 4) ?hd (cs := #[.int .i64 0, .int .i64 0, .int .i64 0, .int .i64 0]) (t := 30) ?hr ?_; (case hd => rfl); (case hg => rfl); (case hr => first | (go_simp; done) | (go_simp; rfl)); intro gb129 hg w67 hbox hb; have BK129 := sd_ hbox; have GW129 := gw_ HB e0_ hg; have GE129 := GW129; replace HB := hb_ HB e0_ hb; clear hb hbox hg) | ((with_reducible refine gate_callee (f := 9) rfl ?_); refine goesL_ (some 8) rfl rfl Tryd.func9 (by kernel_rfl) rfl #[.int .i64 a0] rfl (by (try simp only [lm_, lq_, lx_]); first | done | rfl | (simp only [ld_, lt_]; rfl)) ?_; (with_reducible refine (glyph_Known.calls a0 false _ A3.out).mono ?_); rintro e w' ⟨rfl, ⟨nd, rfl⟩⟩; refine ⟨_, rfl, ?_⟩; (repeat (rw [drewN_self w67]; generalize hq_ : World.drewN w67 _ = w67; have n0_ : Aside0 (w67.heap[gb129]? = some (.cells #[.int .i64 0, .int .i64 0, .int .i64 0, .int .i64 0] 30 (0, 0))) := ⟨by rw [← hq_]; exact (kk_ BK129.out)⟩; have n1_ : Aside0 (Below w.heap.size w w67) := ⟨by rw [← hq_]; exact (bb_ HB.out (e_ GE129 e0_))⟩; clear BK129 HB hq_; have BK129 := n0_; have HB := n1_; clear n0_ n1_)); have hcz68_0 : w67.cell? ⟨gb129, 0, none⟩ = some (.int .i64 0) := (kc_ BK129.out 0).trans rfl; have hcz68_1 : w67.cell? ⟨gb129, 1, none⟩ = some (.int .i64 0) := (kc_ BK129.out 1).trans rfl; have hcz68_2 : w67.cell? ⟨gb129, 2, none⟩ = some (.int .i64 0) := (kc_ BK129.out 2).trans rfl; have hcz68_3 : w67.cell? ⟨gb129, 3, none⟩ = some (.int .i64 0) := (kc_ BK129.out 3).trans rfl; have hfz68_0 := kf_ BK129.out 0; have hfz68_1 := kf_ BK129.out 1; have hfz68_2 := kf_ BK129.out 2; have hfz68_3 := kf_ BK129.out 3))
  refine bodyPost_ret (results_ct rfl _ _ gb129 30 #[.int .i64 0, .int .i64 0, .int .i64 0, .int .i64 0] (0, 0) _ rfl (by (with_reducible repeat first | apply kn_ | apply kd_ | apply ka_); refine blk_put (cs := #[.int .i64 0, .int .i64 0, .int .i64 0, .int .i64 0]) ?_ 3 _ rfl; (with_reducible repeat first | apply kn_ | apply kd_ | apply ka_); refine blk_put (cs := #[.int .i64 0, .int .i64 0, .int .i64 0, .int .i64 0]) ?_ 2 _ rfl; (with_reducible repeat first | apply kn_ | apply kd_ | apply ka_); refine blk_put (cs := #[.int .i64 0, .int .i64 0, .int .i64 0, .int .i64 0]) ?_ 1 _ rfl; (with_reducible repeat first | apply kn_ | apply kd_ | apply ka_); refine blk_put (cs := #[.int .i64 0, .int .i64 0, .int .i64 0, .int .i64 0]) ?_ 0 _ rfl; (with_reducible repeat first | apply kn_ | apply kd_ | apply ka_); exact BK129.out) Tryd.underlying30 rfl (by kernel_rfl)) rfl ?_
  exact ⟨by first | rfl | (simp [errW_none, errW_some] <;> rfl) | (simp [*, errW_none, errW_some] <;> rfl), by repeat (first | (with_reducible first | exact HB.out | apply ba_ | apply pd_ | apply d1_ | refine bs_ ?_ GE129.out) | exact HB.out)⟩

end Go.Proofs.YtbinlfichkdhlaaDoor.P
