-- Written by a program of this session (wip/tools/xprint.py, over the kit's print): Lean checks it.
import Derived.Test.YtcokemaiploejaaDoorPx0
import Derived.Test.YtcokemaiploejaaDoorPx2
import Derived.Test.YtcokemaiploejaaDoorPx3
import Derived.Test.YtcokemaiploejaaDoorPx4
import Derived.Test.YtcokemaiploejaaDoorPx13
namespace Go.Proofs.YtcokemaiploejaaDoor.P
open Go.RowKit Go.Proofs.YtcokemaiploejaaDoorW.PrintWords Go.Proofs.YtcokemaiploejaaDoorW.PrintLast Go.Proofs.YtcokemaiploejaaDoorW.PrintMore
attribute [local go_sem] max2_int min2_int max_two min_two max_three min_three max_four min_four   -- for this text's walks alone
set_option linter.unusedVariables false
set_option linter.unusedSimpArgs false

/-! ### glyph_Extent: function 28 -/
def glyph_Extent.f (a0 : Int) (a1 : Bool) : Option (Int × Int × Int × Int × Int) := (glyph_Known.f a0).bind fun t137 => (if t137 = true then ((glyph_full.f a0).bind fun bt138 => (if a1 = true then ((glyph_less.f bt138.1).bind fun t143 => ((glyph_less.f bt138.2.1).bind fun t144 => ((glyph_less.f bt138.2.2.1).bind fun t145 => ((glyph_less.f bt138.2.2.2).bind fun t146 => ((box_Check.f t143 t144 t145 t146).bind fun t147 => (if t147 = true then (some (t143, t144, t145, t146, 0)) else (some (0, 0, 0, 0, 2)))))))) else ((box_Check.f bt138.1 bt138.2.1 bt138.2.2.1 bt138.2.2.2).bind fun t148 => (if t148 = true then (some (bt138.1, bt138.2.1, bt138.2.2.1, bt138.2.2.2, 0)) else (some (0, 0, 0, 0, 2)))))) else (some (0, 0, 0, 0, 2)))
def glyph_Extent.T5 : Bool × List (List Nat × List Nat) := (true, [([], []), ([0], [0]), ([1], [1]), ([], []), ([3], [3]), ([4, 2], [4]), ([], []), ([6], [6]), ([7, 5], [7]), ([], []), ([9], [9]), ([10, 8], [10]), ([2, 5, 8, 11], [2, 5, 8, 11]), ([12, 11, 0, 1, 2, 3, 4, 5, 6, 7, 8, 9, 10, 11, 12], [12])])
def glyph_Extent.B5 : List Nat := [0, 1, 3, 0, 8, 31, 0, 64, 255, 0, 512, 2047, 4095, 8191]
theorem glyph_Extent.tab5 : rtab .any (opsOf Tryd.f28 5) = glyph_Extent.T5 := by kernel_rfl
theorem glyph_Extent.bits5 : waitsOk glyph_Extent.T5.2 glyph_Extent.B5 = true := by kernel_rfl
set_option maxHeartbeats 8000000 in
set_option maxRecDepth 100000 in
theorem glyph_Extent.calls (a0 : Int) (a1 : Bool) (r1 : Int) (r2 : Int) (r3 : Int) (r4 : Int) (r5 : Int) (w : World) (hE : Aside0 (LaidE w)) (h : glyph_Extent.f a0 a1 = some (r1, r2, r3, r4, r5)) :
  Calls Tryd.prog 28 #[.int .i64 a0, .bool a1] w fun e w' => e = .returned (.tuple #[.agg #[.int .i64 r1, .int .i64 r2, .int .i64 r3, .int .i64 r4], .int .i64 r5]) ∧ Below w.heap.size w w' := by
 have hu46 := Tryd.underlying46
 have HB := sd_ (Below.refl w.heap.size w)
 have H : ((glyph_Known.f a0).bind fun t137 => (if t137 = true then ((glyph_full.f a0).bind fun bt138 => (if a1 = true then ((glyph_less.f bt138.1).bind fun t143 => ((glyph_less.f bt138.2.1).bind fun t144 => ((glyph_less.f bt138.2.2.1).bind fun t145 => ((glyph_less.f bt138.2.2.2).bind fun t146 => ((box_Check.f t143 t144 t145 t146).bind fun t147 => (if t147 = true then (some (t143, t144, t145, t146, 0)) else (some (0, 0, 0, 0, 2)))))))) else ((box_Check.f bt138.1 bt138.2.1 bt138.2.2.1 bt138.2.2.2).bind fun t148 => (if t148 = true then (some (bt138.1, bt138.2.1, bt138.2.2.1, bt138.2.2.2, 0)) else (some (0, 0, 0, 0, 2)))))) else (some (0, 0, 0, 0, 2)))) = some (r1, r2, r3, r4, r5) := h
 clear h
 replace H := ob_ H
 obtain ⟨t137, A30, H⟩ := H
 replace H : (if t137 = true then ((glyph_full.f a0).bind fun bt138 => (if a1 = true then ((glyph_less.f bt138.1).bind fun t143 => ((glyph_less.f bt138.2.1).bind fun t144 => ((glyph_less.f bt138.2.2.1).bind fun t145 => ((glyph_less.f bt138.2.2.2).bind fun t146 => ((box_Check.f t143 t144 t145 t146).bind fun t147 => (if t147 = true then (some (t143, t144, t145, t146, 0)) else (some (0, 0, 0, 0, 2)))))))) else ((box_Check.f bt138.1 bt138.2.1 bt138.2.2.1 bt138.2.2.2).bind fun t148 => (if t148 = true then (some (bt138.1, bt138.2.1, bt138.2.2.1, bt138.2.2.2, 0)) else (some (0, 0, 0, 0, 2)))))) else (some (0, 0, 0, 0, 2))) = some (r1, r2, r3, r4, r5) := H
 have A3 := sd_ A30
 clear A30
 by_cases c4 : t137 = true
 ·subst c4
  have H1 : ((glyph_full.f a0).bind fun bt138 => (if a1 = true then ((glyph_less.f bt138.1).bind fun t143 => ((glyph_less.f bt138.2.1).bind fun t144 => ((glyph_less.f bt138.2.2.1).bind fun t145 => ((glyph_less.f bt138.2.2.2).bind fun t146 => ((box_Check.f t143 t144 t145 t146).bind fun t147 => (if t147 = true then (some (t143, t144, t145, t146, 0)) else (some (0, 0, 0, 0, 2)))))))) else ((box_Check.f bt138.1 bt138.2.1 bt138.2.2.1 bt138.2.2.2).bind fun t148 => (if t148 = true then (some (bt138.1, bt138.2.1, bt138.2.2.1, bt138.2.2.2, 0)) else (some (0, 0, 0, 0, 2)))))) = some (r1, r2, r3, r4, r5) := by rw [if_pos rfl] at H; exact H
  clear H; have H := H1; clear H1
  replace H := ob_ H
  obtain ⟨⟨t138, t139, t140, t141⟩, A50, H⟩ := H
  replace H : (if a1 = true then ((glyph_less.f t138).bind fun t143 => ((glyph_less.f t139).bind fun t144 => ((glyph_less.f t140).bind fun t145 => ((glyph_less.f t141).bind fun t146 => ((box_Check.f t143 t144 t145 t146).bind fun t147 => (if t147 = true then (some (t143, t144, t145, t146, 0)) else (some (0, 0, 0, 0, 2)))))))) else ((box_Check.f t138 t139 t140 t141).bind fun t148 => (if t148 = true then (some (t138, t139, t140, t141, 0)) else (some (0, 0, 0, 0, 2))))) = some (r1, r2, r3, r4, r5) := H
  have A5 := sd_ A50
  clear A50
  by_cases c6 : a1 = true
  ·subst c6
   have H1 : ((glyph_less.f t138).bind fun t143 => ((glyph_less.f t139).bind fun t144 => ((glyph_less.f t140).bind fun t145 => ((glyph_less.f t141).bind fun t146 => ((box_Check.f t143 t144 t145 t146).bind fun t147 => (if t147 = true then (some (t143, t144, t145, t146, 0)) else (some (0, 0, 0, 0, 2)))))))) = some (r1, r2, r3, r4, r5) := by rw [if_pos rfl] at H; exact H
   clear H; have H := H1; clear H1
   replace H := ob_ H
   obtain ⟨t143, A70, H⟩ := H
   replace H : ((glyph_less.f t139).bind fun t144 => ((glyph_less.f t140).bind fun t145 => ((glyph_less.f t141).bind fun t146 => ((box_Check.f t143 t144 t145 t146).bind fun t147 => (if t147 = true then (some (t143, t144, t145, t146, 0)) else (some (0, 0, 0, 0, 2))))))) = some (r1, r2, r3, r4, r5) := H
   have A7 := sd_ A70
   clear A70
   replace H := ob_ H
   obtain ⟨t144, A80, H⟩ := H
   replace H : ((glyph_less.f t140).bind fun t145 => ((glyph_less.f t141).bind fun t146 => ((box_Check.f t143 t144 t145 t146).bind fun t147 => (if t147 = true then (some (t143, t144, t145, t146, 0)) else (some (0, 0, 0, 0, 2)))))) = some (r1, r2, r3, r4, r5) := H
   have A8 := sd_ A80
   clear A80
   replace H := ob_ H
   obtain ⟨t145, A90, H⟩ := H
   replace H : ((glyph_less.f t141).bind fun t146 => ((box_Check.f t143 t144 t145 t146).bind fun t147 => (if t147 = true then (some (t143, t144, t145, t146, 0)) else (some (0, 0, 0, 0, 2))))) = some (r1, r2, r3, r4, r5) := H
   have A9 := sd_ A90
   clear A90
   replace H := ob_ H
   obtain ⟨t146, A100, H⟩ := H
   replace H : ((box_Check.f t143 t144 t145 t146).bind fun t147 => (if t147 = true then (some (t143, t144, t145, t146, 0)) else (some (0, 0, 0, 0, 2)))) = some (r1, r2, r3, r4, r5) := H
   have A10 := sd_ A100
   clear A100
   replace H := ob_ H
   obtain ⟨t147, A110, H⟩ := H
   replace H : (if t147 = true then (some (t143, t144, t145, t146, 0)) else (some (0, 0, 0, 0, 2))) = some (r1, r2, r3, r4, r5) := H
   have A11 := sd_ A110
   clear A110
   by_cases c12 : t147 = true
   ·subst c12
    have H1 : (some (t143, t144, t145, t146, 0)) = some (r1, r2, r3, r4, r5) := by rw [if_pos rfl] at H; exact H
    clear H; have H := H1; clear H1
    simp only [Option.some.injEq, Prod.mk.injEq] at H
    obtain ⟨rfl, rfl, rfl, rfl, rfl⟩ := H
    go_enter Tryd.func28, Tryd.ntmps28
    try go_wp2_with (first | ((with_reducible refine gate_dst (N := 4) rfl ?_); refine box_event ?hg (N := 4) ?hd (cs := #[.int .i64 0, .int .i64 0, .int .i64 0, .int .i64 0]) (t := 46) ?hr ?_; (case hd => rfl); (case hg => rfl); (case hr => first | (go_simp; done) | (go_simp; rfl)); intro gb136 hg w13 hbox hb; have BK136 := sd_ hbox; have GW136 := gw_ HB e0_ hg; have GE136 := GW136; replace HB := hb_ HB e0_ hb; clear hb hbox hg) | ((with_reducible refine gate_callee (f := 34) rfl ?_); refine goesL_ (some 8) rfl rfl Tryd.func34 (by kernel_rfl) rfl #[.int .i64 a0] rfl (by (try simp only [lm_, lq_, lx_]); first | done | rfl | (simp only [ld_, lt_]; rfl)) ?_; (with_reducible refine (glyph_Known.calls a0 true _ A3.out).mono ?_); rintro e w' ⟨rfl, ⟨nd, rfl⟩⟩; refine ⟨_, rfl, ?_⟩; (repeat (rw [drewN_self w13]; generalize hq_ : World.drewN w13 _ = w13; have n0_ : Aside0 (w13.heap[gb136]? = some (.cells #[.int .i64 0, .int .i64 0, .int .i64 0, .int .i64 0] 46 (0, 0))) := ⟨by rw [← hq_]; exact (kk_ BK136.out)⟩; have n1_ : Aside0 (Below w.heap.size w w13) := ⟨by rw [← hq_]; exact (bb_ HB.out (e_ GE136 e0_))⟩; clear BK136 HB hq_; have BK136 := n0_; have HB := n1_; clear n0_ n1_))) | ((with_reducible refine gate_callee (f := 35) rfl ?_); refine goesL_ (some 12) rfl rfl Tryd.func35 (by kernel_rfl) rfl #[.int .i64 a0] rfl (by (try simp only [lm_, lq_, lx_]); first | done | rfl | (simp only [ld_, lt_]; rfl)) ?_; (with_reducible refine (glyph_full.calls a0 t138 t139 t140 t141 _ A5.out).mono ?_); rintro e w14 ⟨rfl, hb⟩; refine ⟨_, rfl, ?_⟩; replace BK136 := kb_ BK136 hb; replace HB := hb_ HB (e_ GE136 e0_) hb; (try clear hb); (try clear hb2); (try clear hk); (try clear hi)) | ((with_reducible refine gate_dst (N := 6) rfl ?_); refine box_event ?hg (N := 6) ?hd (cs := #[.int .i64 0, .int .i64 0, .int .i64 0, .int .i64 0]) (t := 46) ?hr ?_; (case hd => rfl); (case hg => rfl); (case hr => first | (go_simp; done) | (go_simp; rfl)); intro gb142 hg w15 hbox hb; have BK142 := sd_ hbox; have GW142 := gw_ HB (e_ GE136 e0_) hg; have GE142 := GW142; have NB136_142 := nb_ BK136 hg; have NB142_136 := sy_ NB136_142; replace BK136 := kb_ BK136 hb; replace HB := hb_ HB (e_ GE136 e0_) hb; clear hb hbox hg; have hnb16 := NB142_136.out; have hnc16 := NB136_142.out; have hcz17_0 : w15.cell? ⟨gb142, 0, none⟩ = some (.int .i64 0) := (kc_ BK142.out 0).trans rfl; have hcz17_1 : w15.cell? ⟨gb142, 1, none⟩ = some (.int .i64 0) := (kc_ BK142.out 1).trans rfl; have hcz17_2 : w15.cell? ⟨gb142, 2, none⟩ = some (.int .i64 0) := (kc_ BK142.out 2).trans rfl; have hcz17_3 : w15.cell? ⟨gb142, 3, none⟩ = some (.int .i64 0) := (kc_ BK142.out 3).trans rfl; have hfz17_0 := kf_ BK142.out 0; have hfz17_1 := kf_ BK142.out 1; have hfz17_2 := kf_ BK142.out 2; have hfz17_3 := kf_ BK142.out 3))
    have n0_ : Aside0 (((((w15.setCell ⟨gb142, 0, none⟩ (.int .i64 t138)).setCell ⟨gb142, 1, none⟩ (.int .i64 t139)).setCell ⟨gb142, 2, none⟩ (.int .i64 t140)).setCell ⟨gb142, 3, none⟩ (.int .i64 t141)).heap[gb136]? = some (.cells #[.int .i64 0, .int .i64 0, .int .i64 0, .int .i64 0] 46 (0, 0))) := ⟨by (with_reducible repeat first | apply kn_ | apply kd_ | apply ka_); refine blk_far ?_ NB136_142.out _; (with_reducible repeat first | apply kn_ | apply kd_ | apply ka_); refine blk_far ?_ NB136_142.out _; (with_reducible repeat first | apply kn_ | apply kd_ | apply ka_); refine blk_far ?_ NB136_142.out _; (with_reducible repeat first | apply kn_ | apply kd_ | apply ka_); refine blk_far ?_ NB136_142.out _; (with_reducible repeat first | apply kn_ | apply kd_ | apply ka_); exact BK136.out⟩
    have n1_ : Aside0 (((((w15.setCell ⟨gb142, 0, none⟩ (.int .i64 t138)).setCell ⟨gb142, 1, none⟩ (.int .i64 t139)).setCell ⟨gb142, 2, none⟩ (.int .i64 t140)).setCell ⟨gb142, 3, none⟩ (.int .i64 t141)).heap[gb142]? = some (.cells #[.int .i64 t138, .int .i64 t139, .int .i64 t140, .int .i64 t141] 46 (0, 0))) := ⟨by (with_reducible repeat first | apply kn_ | apply kd_ | apply ka_); refine blk_put (cs := #[.int .i64 t138, .int .i64 t139, .int .i64 t140, .int .i64 0]) ?_ 3 _ rfl; (with_reducible repeat first | apply kn_ | apply kd_ | apply ka_); refine blk_put (cs := #[.int .i64 t138, .int .i64 t139, .int .i64 0, .int .i64 0]) ?_ 2 _ rfl; (with_reducible repeat first | apply kn_ | apply kd_ | apply ka_); refine blk_put (cs := #[.int .i64 t138, .int .i64 0, .int .i64 0, .int .i64 0]) ?_ 1 _ rfl; (with_reducible repeat first | apply kn_ | apply kd_ | apply ka_); refine blk_put (cs := #[.int .i64 0, .int .i64 0, .int .i64 0, .int .i64 0]) ?_ 0 _ rfl; (with_reducible repeat first | apply kn_ | apply kd_ | apply ka_); exact BK142.out⟩
    have n2_ : Aside0 (Below w.heap.size w ((((w15.setCell ⟨gb142, 0, none⟩ (.int .i64 t138)).setCell ⟨gb142, 1, none⟩ (.int .i64 t139)).setCell ⟨gb142, 2, none⟩ (.int .i64 t140)).setCell ⟨gb142, 3, none⟩ (.int .i64 t141))) := ⟨by repeat (first | (with_reducible first | exact HB.out | apply ba_ | apply pd_ | apply d1_ | refine bs_ ?_ GE136.out | refine bs_ ?_ GE142.out) | exact HB.out)⟩
    (try clear BK136)
    (try clear BK142)
    (try clear HB)
    generalize ((((w15.setCell ⟨gb142, 0, none⟩ (.int .i64 t138)).setCell ⟨gb142, 1, none⟩ (.int .i64 t139)).setCell ⟨gb142, 2, none⟩ (.int .i64 t140)).setCell ⟨gb142, 3, none⟩ (.int .i64 t141)) = w18 at n0_ n1_ n2_ ⊢
    have BK136 := n0_
    have BK142 := n1_
    have HB := n2_
    clear n0_ n1_ n2_
    replace BK136 := sd_ (kd_ BK136.out)
    replace BK142 := sd_ (kd_ BK142.out)
    replace HB := sd_ (d1_ HB.out)
    refine start_ (n := 14) (S := fun w' => w'.cell? ⟨gb142, 0, none⟩ = some (.int .i64 t138) ∧ w'.cell? ⟨gb142, 1, none⟩ = some (.int .i64 t139) ∧ w'.cell? ⟨gb142, 2, none⟩ = some (.int .i64 t140) ∧ w'.cell? ⟨gb142, 3, none⟩ = some (.int .i64 t141)) (ds := [13]) (Array.replicate 14 false) (by kernel_rfl) rfl rfl ⟨(kc_ BK142.out 0).trans rfl, (kc_ BK142.out 1).trans rfl, (kc_ BK142.out 2).trans rfl, (kc_ BK142.out 3).trans rfl⟩ (fun hHeld => ?_); refine with_tabW glyph_Extent.tab5 glyph_Extent.bits5 (fun HT_ HW_ => ?_)
    generalize w18.drew = w19 at BK136 BK142 HB hHeld ⊢
    refine pu_ (v := ?_) (a' := ?_) 0 14 (bz 14 1) rfl rfl HT_ (by kernel_rfl) (fun _ _ _ h => h) (by rfl) ?_ ?_ ?_
    rotate_left; (intro w'; go_simp; with_reducible rfl); rotate_left; (simp only [Act.put, ls_, lz_, lc_, i64_w, i32_w]; rfl)
    refine pu_ (v := ?_) (a' := ?_) 3 17 (bz 14 9) rfl rfl HT_ (by kernel_rfl) (fun _ _ _ h => h) (by rfl) ?_ ?_ ?_
    rotate_left; (intro w'; go_simp; with_reducible rfl); rotate_left; (simp only [Act.put, ls_, lz_, lc_, i64_w, i32_w]; rfl)
    refine pu_ (v := ?_) (a' := ?_) 6 20 (bz 14 73) rfl rfl HT_ (by kernel_rfl) (fun _ _ _ h => h) (by rfl) ?_ ?_ ?_
    rotate_left; (intro w'; go_simp; with_reducible rfl); rotate_left; (simp only [Act.put, ls_, lz_, lc_, i64_w, i32_w]; rfl)
    refine pu_ (v := ?_) (a' := ?_) 9 23 (bz 14 585) rfl rfl HT_ (by kernel_rfl) (fun _ _ _ h => h) (by rfl) ?_ ?_ ?_
    rotate_left; (intro w'; go_simp; with_reducible rfl); rotate_left; (simp only [Act.put, ls_, lz_, lc_, i64_w, i32_w]; rfl)
    refine ta_ (v := ?_) (a' := ?_) 1 15 (bz 14 587) rfl rfl HT_ HW_ (by kernel_rfl) (fun _ _ _ h => h) (by rfl) ?_ hHeld ?_ ?_
    rotate_left
    ·rintro w' ⟨s0, s1, s2, s3⟩
     go_simp
     with_reducible rfl
    rotate_left
    ·simp only [Act.put, ls_, lz_, lc_, i64_w, i32_w]
     rfl
    refine ta_ (v := ?_) (a' := ?_) 4 18 (bz 14 603) rfl rfl HT_ HW_ (by kernel_rfl) (fun _ _ _ h => h) (by rfl) ?_ hHeld ?_ ?_
    rotate_left
    ·rintro w' ⟨s0, s1, s2, s3⟩
     go_simp
     with_reducible rfl
    rotate_left
    ·simp only [Act.put, ls_, lz_, lc_, i64_w, i32_w]
     rfl
    refine ta_ (v := ?_) (a' := ?_) 7 21 (bz 14 731) rfl rfl HT_ HW_ (by kernel_rfl) (fun _ _ _ h => h) (by rfl) ?_ hHeld ?_ ?_
    rotate_left
    ·rintro w' ⟨s0, s1, s2, s3⟩
     go_simp
     with_reducible rfl
    rotate_left
    ·simp only [Act.put, ls_, lz_, lc_, i64_w, i32_w]
     rfl
    refine ta_ (v := ?_) (a' := ?_) 10 24 (bz 14 1755) rfl rfl HT_ HW_ (by kernel_rfl) (fun _ _ _ h => h) (by rfl) ?_ hHeld ?_ ?_
    rotate_left
    ·rintro w' ⟨s0, s1, s2, s3⟩
     go_simp
     with_reducible rfl
    rotate_left
    ·simp only [Act.put, ls_, lz_, lc_, i64_w, i32_w]
     rfl
    refine on_ (N := some 16) 2 (bz 14 1759) rfl rfl HT_ (by kernel_rfl) (by decide) (fun K hK => ?_)
    refine goes_ Tryd.func36 (by kernel_rfl) rfl #[.int .i64 t138] (by rfl) rfl rfl (by (try simp only [lm_, lq_, lx_]); first | done | rfl | (simp only [ld_, lt_]; rfl)) ?_
    with_reducible refine (glyph_less.calls t138 t143 _ ?side1 A7.out).mono ?_
    (case side1 => first | (with_reducible exact hE) | exact sd_ (LaidE.below hE.out (bb_ HB.out (e_ GE136 (e_ GE142 e0_)))))
    rintro e w20 ⟨rfl, hb⟩
    refine ⟨_, rfl, ?_⟩
    replace BK136 := kb_ BK136 hb
    replace BK142 := kb_ BK142 hb
    replace HB := hb_ HB (e_ GE136 (e_ GE142 e0_)) hb
    (try clear hb)
    (try clear hb2)
    (try clear hk)
    (try clear hi)
    refine hK.out _ _ ⟨(kc_ BK142.out 0).trans rfl, (kc_ BK142.out 1).trans rfl, (kc_ BK142.out 2).trans rfl, (kc_ BK142.out 3).trans rfl⟩ (fun hHeld => ?_)
    clear hK K
    refine norm_ (a' := ?_) ?_ ?_
    rotate_left
    ·show Act.put _ (some 16) _ = _
     simp only [Act.put, ls_, lz_, lc_, i64_w, i32_w]
     rfl
    refine on_ (N := some 19) 5 (bz 14 1791) rfl rfl HT_ (by kernel_rfl) (by decide) (fun K hK => ?_)
    refine goes_ Tryd.func36 (by kernel_rfl) rfl #[.int .i64 t139] (by rfl) rfl rfl (by (try simp only [lm_, lq_, lx_]); first | done | rfl | (simp only [ld_, lt_]; rfl)) ?_
    with_reducible refine (glyph_less.calls t139 t144 _ ?side1 A8.out).mono ?_
    (case side1 => first | (with_reducible exact hE) | exact sd_ (LaidE.below hE.out (bb_ HB.out (e_ GE136 (e_ GE142 e0_)))))
    rintro e w21 ⟨rfl, hb⟩
    refine ⟨_, rfl, ?_⟩
    replace BK136 := kb_ BK136 hb
    replace BK142 := kb_ BK142 hb
    replace HB := hb_ HB (e_ GE136 (e_ GE142 e0_)) hb
    (try clear hb)
    (try clear hb2)
    (try clear hk)
    (try clear hi)
    refine hK.out _ _ ⟨(kc_ BK142.out 0).trans rfl, (kc_ BK142.out 1).trans rfl, (kc_ BK142.out 2).trans rfl, (kc_ BK142.out 3).trans rfl⟩ (fun hHeld => ?_)
    clear hK K
    refine norm_ (a' := ?_) ?_ ?_
    rotate_left
    ·show Act.put _ (some 19) _ = _
     simp only [Act.put, ls_, lz_, lc_, i64_w, i32_w]
     rfl
    refine on_ (N := some 22) 8 (bz 14 2047) rfl rfl HT_ (by kernel_rfl) (by decide) (fun K hK => ?_)
    refine goes_ Tryd.func36 (by kernel_rfl) rfl #[.int .i64 t140] (by rfl) rfl rfl (by (try simp only [lm_, lq_, lx_]); first | done | rfl | (simp only [ld_, lt_]; rfl)) ?_
    with_reducible refine (glyph_less.calls t140 t145 _ ?side1 A9.out).mono ?_
    (case side1 => first | (with_reducible exact hE) | exact sd_ (LaidE.below hE.out (bb_ HB.out (e_ GE136 (e_ GE142 e0_)))))
    rintro e w22 ⟨rfl, hb⟩
    refine ⟨_, rfl, ?_⟩
    replace BK136 := kb_ BK136 hb
    replace BK142 := kb_ BK142 hb
    replace HB := hb_ HB (e_ GE136 (e_ GE142 e0_)) hb
    (try clear hb)
    (try clear hb2)
    (try clear hk)
    (try clear hi)
    refine hK.out _ _ ⟨(kc_ BK142.out 0).trans rfl, (kc_ BK142.out 1).trans rfl, (kc_ BK142.out 2).trans rfl, (kc_ BK142.out 3).trans rfl⟩ (fun hHeld => ?_)
    clear hK K
    refine norm_ (a' := ?_) ?_ ?_
    rotate_left
    ·show Act.put _ (some 22) _ = _
     simp only [Act.put, ls_, lz_, lc_, i64_w, i32_w]
     rfl
    refine on_ (N := some 25) 11 (bz 14 4095) rfl rfl HT_ (by kernel_rfl) (by decide) (fun K hK => ?_)
    refine goes_ Tryd.func36 (by kernel_rfl) rfl #[.int .i64 t141] (by rfl) rfl rfl (by (try simp only [lm_, lq_, lx_]); first | done | rfl | (simp only [ld_, lt_]; rfl)) ?_
    with_reducible refine (glyph_less.calls t141 t146 _ ?side1 A10.out).mono ?_
    (case side1 => first | (with_reducible exact hE) | exact sd_ (LaidE.below hE.out (bb_ HB.out (e_ GE136 (e_ GE142 e0_)))))
    rintro e w23 ⟨rfl, hb⟩
    refine ⟨_, rfl, ?_⟩
    replace BK136 := kb_ BK136 hb
    replace BK142 := kb_ BK142 hb
    replace HB := hb_ HB (e_ GE136 (e_ GE142 e0_)) hb
    (try clear hb)
    (try clear hb2)
    (try clear hk)
    (try clear hi)
    refine hK.out _ _ ⟨(kc_ BK142.out 0).trans rfl, (kc_ BK142.out 1).trans rfl, (kc_ BK142.out 2).trans rfl, (kc_ BK142.out 3).trans rfl⟩ (fun hHeld => ?_)
    clear hK K
    refine norm_ (a' := ?_) ?_ ?_
    rotate_left
    ·show Act.put _ (some 25) _ = _
     simp only [Act.put, ls_, lz_, lc_, i64_w, i32_w]
     rfl
    refine pu_ (v := ?_) (a' := ?_) 12 26 (bz 14 8191) rfl rfl HT_ (by kernel_rfl) (fun _ _ _ h => h) (by rfl) ?_ ?_ ?_
    rotate_left; (intro w'; go_simp; with_reducible rfl); rotate_left; (simp only [Act.put, ls_, lz_, lc_, i64_w, i32_w]; rfl)
    refine last_ (i := 13) (N := none) (bz 14 16383) rfl rfl (one_of HT_.out (by kernel_rfl)) (by decide) (fun K hK => ?_)
    have hs24 : w23.cell? ⟨gb142, 0, none⟩ = some (.int .i64 t138) := (kc_ BK142.out 0).trans rfl
    have hfs24 := kf_ BK142.out 0
    have hns24_0 := NB136_142.out
    have hms24_0 := NB142_136.out
    have hs25 : w23.cell? ⟨gb142, 1, none⟩ = some (.int .i64 t139) := (kc_ BK142.out 1).trans rfl
    have hfs25 := kf_ BK142.out 1
    have hns25_0 := NB136_142.out
    have hms25_0 := NB142_136.out
    have hs26 : w23.cell? ⟨gb142, 2, none⟩ = some (.int .i64 t140) := (kc_ BK142.out 2).trans rfl
    have hfs26 := kf_ BK142.out 2
    have hns26_0 := NB136_142.out
    have hms26_0 := NB142_136.out
    have hs27 : w23.cell? ⟨gb142, 3, none⟩ = some (.int .i64 t141) := (kc_ BK142.out 3).trans rfl
    have hfs27 := kf_ BK142.out 3
    have hns27_0 := NB136_142.out
    have hms27_0 := NB142_136.out
    refine skip_ (w1 := ?_) (by rfl) rfl ?_ ?_
    rotate_left
    ·go_simp
     rfl
    refine hK.out _ _ ?_
    clear hK K
    refine done_ (done_of HT_.out (by kernel_rfl)) ?_
    have hcz28_0 : w23.cell? ⟨gb142, 0, none⟩ = some (.int .i64 t138) := (kc_ BK142.out 0).trans rfl
    have hcz28_1 : w23.cell? ⟨gb142, 1, none⟩ = some (.int .i64 t139) := (kc_ BK142.out 1).trans rfl
    have hcz28_2 : w23.cell? ⟨gb142, 2, none⟩ = some (.int .i64 t140) := (kc_ BK142.out 2).trans rfl
    have hcz28_3 : w23.cell? ⟨gb142, 3, none⟩ = some (.int .i64 t141) := (kc_ BK142.out 3).trans rfl
    have hfz28_0 := kf_ BK142.out 0
    have hfz28_1 := kf_ BK142.out 1
    have hfz28_2 := kf_ BK142.out 2
    have hfz28_3 := kf_ BK142.out 3
    try go_wp2_with (first | ((with_reducible refine gate_callee (f := 37) rfl ?_); refine goesL_ (some 28) rfl rfl Tryd.func37 (by kernel_rfl) rfl #[.agg #[.int .i64 t143, .int .i64 t144, .int .i64 t145, .int .i64 t146]] rfl (by (try simp only [lm_, lq_, lx_]); first | done | rfl | (simp only [ld_, lt_]; rfl)) ?_; (with_reducible refine (box_Check.calls t143 t144 t145 t146 true _ A11.out).mono ?_); rintro e w29 ⟨rfl, hb⟩; refine ⟨_, rfl, ?_⟩; replace BK136 := sd_ (blk_below (g := gb136) (o := .cells #[.int .i64 0, .int .i64 0, .int .i64 0, .int .i64 0] 46 (0, 0)) (by (with_reducible repeat first | apply kn_ | apply kd_ | apply ka_); refine blk_far ?_ NB136_142.out _; (with_reducible repeat first | apply kn_ | apply kd_ | apply ka_); refine blk_far ?_ NB136_142.out _; (with_reducible repeat first | apply kn_ | apply kd_ | apply ka_); refine blk_far ?_ NB136_142.out _; (with_reducible repeat first | apply kn_ | apply kd_ | apply ka_); refine blk_far ?_ NB136_142.out _; (with_reducible repeat first | apply kn_ | apply kd_ | apply ka_); exact BK136.out) hb); replace BK142 := sd_ (blk_below (g := gb142) (o := .cells #[.int .i64 t143, .int .i64 t144, .int .i64 t145, .int .i64 t146] 46 (0, 0)) (by (with_reducible repeat first | apply kn_ | apply kd_ | apply ka_); refine blk_put (cs := #[.int .i64 t143, .int .i64 t144, .int .i64 t145, .int .i64 t141]) ?_ 3 _ rfl; (with_reducible repeat first | apply kn_ | apply kd_ | apply ka_); refine blk_put (cs := #[.int .i64 t143, .int .i64 t144, .int .i64 t140, .int .i64 t141]) ?_ 2 _ rfl; (with_reducible repeat first | apply kn_ | apply kd_ | apply ka_); refine blk_put (cs := #[.int .i64 t143, .int .i64 t139, .int .i64 t140, .int .i64 t141]) ?_ 1 _ rfl; (with_reducible repeat first | apply kn_ | apply kd_ | apply ka_); refine blk_put (cs := #[.int .i64 t138, .int .i64 t139, .int .i64 t140, .int .i64 t141]) ?_ 0 _ rfl; (with_reducible repeat first | apply kn_ | apply kd_ | apply ka_); exact BK142.out) hb); replace HB := hb_ HB (e_ GE136 (e_ GE142 e0_)) hb; (try clear hb); (try clear hb2); (try clear hk); (try clear hi); have hcz30_0 : w29.cell? ⟨gb142, 0, none⟩ = some (.int .i64 t143) := (kc_ BK142.out 0).trans rfl; have hcz30_1 : w29.cell? ⟨gb142, 1, none⟩ = some (.int .i64 t144) := (kc_ BK142.out 1).trans rfl; have hcz30_2 : w29.cell? ⟨gb142, 2, none⟩ = some (.int .i64 t145) := (kc_ BK142.out 2).trans rfl; have hcz30_3 : w29.cell? ⟨gb142, 3, none⟩ = some (.int .i64 t146) := (kc_ BK142.out 3).trans rfl; have hfz30_0 := kf_ BK142.out 0; have hfz30_1 := kf_ BK142.out 1; have hfz30_2 := kf_ BK142.out 2; have hfz30_3 := kf_ BK142.out 3; have hcz31_0 : w29.cell? ⟨gb136, 0, none⟩ = some (.int .i64 0) := (kc_ BK136.out 0).trans rfl; have hcz31_1 : w29.cell? ⟨gb136, 1, none⟩ = some (.int .i64 0) := (kc_ BK136.out 1).trans rfl; have hcz31_2 : w29.cell? ⟨gb136, 2, none⟩ = some (.int .i64 0) := (kc_ BK136.out 2).trans rfl; have hcz31_3 : w29.cell? ⟨gb136, 3, none⟩ = some (.int .i64 0) := (kc_ BK136.out 3).trans rfl; have hfz31_0 := kf_ BK136.out 0; have hfz31_1 := kf_ BK136.out 1; have hfz31_2 := kf_ BK136.out 2; have hfz31_3 := kf_ BK136.out 3))
    refine bodyPost_ret (results_ct rfl _ _ gb136 46 #[.int .i64 t143, .int .i64 t144, .int .i64 t145, .int .i64 t146] (0, 0) _ rfl (by (with_reducible repeat first | apply kn_ | apply kd_ | apply ka_); refine blk_put (cs := #[.int .i64 t143, .int .i64 t144, .int .i64 t145, .int .i64 0]) ?_ 3 _ rfl; (with_reducible repeat first | apply kn_ | apply kd_ | apply ka_); refine blk_put (cs := #[.int .i64 t143, .int .i64 t144, .int .i64 0, .int .i64 0]) ?_ 2 _ rfl; (with_reducible repeat first | apply kn_ | apply kd_ | apply ka_); refine blk_put (cs := #[.int .i64 t143, .int .i64 0, .int .i64 0, .int .i64 0]) ?_ 1 _ rfl; (with_reducible repeat first | apply kn_ | apply kd_ | apply ka_); refine blk_put (cs := #[.int .i64 0, .int .i64 0, .int .i64 0, .int .i64 0]) ?_ 0 _ rfl; (with_reducible repeat first | apply kn_ | apply kd_ | apply ka_); exact BK136.out) Tryd.underlying46 rfl (by kernel_rfl)) rfl ?_
    exact ⟨by first | rfl | (simp [errW_none, errW_some] <;> rfl) | (simp [*, errW_none, errW_some] <;> rfl), by repeat (first | (with_reducible first | exact HB.out | apply ba_ | apply pd_ | apply d1_ | refine bs_ ?_ GE136.out | refine bs_ ?_ GE142.out) | exact HB.out)⟩
   ·replace c12 := bf_ c12
    subst c12
    have H1 : (some (0, 0, 0, 0, 2)) = some (r1, r2, r3, r4, r5) := by rw [if_neg (show ¬ (false = true) by decide)] at H; exact H
    clear H; have H := H1; clear H1
    simp only [Option.some.injEq, Prod.mk.injEq] at H
    obtain ⟨rfl, rfl, rfl, rfl, rfl⟩ := H
    go_enter Tryd.func28, Tryd.ntmps28
    try go_wp2_with (first | ((with_reducible refine gate_dst (N := 4) rfl ?_); refine box_event ?hg (N := 4) ?hd (cs := #[.int .i64 0, .int .i64 0, .int .i64 0, .int .i64 0]) (t := 46) ?hr ?_; (case hd => rfl); (case hg => rfl); (case hr => first | (go_simp; done) | (go_simp; rfl)); intro gb136 hg w32 hbox hb; have BK136 := sd_ hbox; have GW136 := gw_ HB e0_ hg; have GE136 := GW136; replace HB := hb_ HB e0_ hb; clear hb hbox hg) | ((with_reducible refine gate_callee (f := 34) rfl ?_); refine goesL_ (some 8) rfl rfl Tryd.func34 (by kernel_rfl) rfl #[.int .i64 a0] rfl (by (try simp only [lm_, lq_, lx_]); first | done | rfl | (simp only [ld_, lt_]; rfl)) ?_; (with_reducible refine (glyph_Known.calls a0 true _ A3.out).mono ?_); rintro e w' ⟨rfl, ⟨nd, rfl⟩⟩; refine ⟨_, rfl, ?_⟩; (repeat (rw [drewN_self w32]; generalize hq_ : World.drewN w32 _ = w32; have n0_ : Aside0 (w32.heap[gb136]? = some (.cells #[.int .i64 0, .int .i64 0, .int .i64 0, .int .i64 0] 46 (0, 0))) := ⟨by rw [← hq_]; exact (kk_ BK136.out)⟩; have n1_ : Aside0 (Below w.heap.size w w32) := ⟨by rw [← hq_]; exact (bb_ HB.out (e_ GE136 e0_))⟩; clear BK136 HB hq_; have BK136 := n0_; have HB := n1_; clear n0_ n1_))) | ((with_reducible refine gate_callee (f := 35) rfl ?_); refine goesL_ (some 12) rfl rfl Tryd.func35 (by kernel_rfl) rfl #[.int .i64 a0] rfl (by (try simp only [lm_, lq_, lx_]); first | done | rfl | (simp only [ld_, lt_]; rfl)) ?_; (with_reducible refine (glyph_full.calls a0 t138 t139 t140 t141 _ A5.out).mono ?_); rintro e w33 ⟨rfl, hb⟩; refine ⟨_, rfl, ?_⟩; replace BK136 := kb_ BK136 hb; replace HB := hb_ HB (e_ GE136 e0_) hb; (try clear hb); (try clear hb2); (try clear hk); (try clear hi)) | ((with_reducible refine gate_dst (N := 6) rfl ?_); refine box_event ?hg (N := 6) ?hd (cs := #[.int .i64 0, .int .i64 0, .int .i64 0, .int .i64 0]) (t := 46) ?hr ?_; (case hd => rfl); (case hg => rfl); (case hr => first | (go_simp; done) | (go_simp; rfl)); intro gb142 hg w34 hbox hb; have BK142 := sd_ hbox; have GW142 := gw_ HB (e_ GE136 e0_) hg; have GE142 := GW142; have NB136_142 := nb_ BK136 hg; have NB142_136 := sy_ NB136_142; replace BK136 := kb_ BK136 hb; replace HB := hb_ HB (e_ GE136 e0_) hb; clear hb hbox hg; have hnb35 := NB142_136.out; have hnc35 := NB136_142.out; have hcz36_0 : w34.cell? ⟨gb142, 0, none⟩ = some (.int .i64 0) := (kc_ BK142.out 0).trans rfl; have hcz36_1 : w34.cell? ⟨gb142, 1, none⟩ = some (.int .i64 0) := (kc_ BK142.out 1).trans rfl; have hcz36_2 : w34.cell? ⟨gb142, 2, none⟩ = some (.int .i64 0) := (kc_ BK142.out 2).trans rfl; have hcz36_3 : w34.cell? ⟨gb142, 3, none⟩ = some (.int .i64 0) := (kc_ BK142.out 3).trans rfl; have hfz36_0 := kf_ BK142.out 0; have hfz36_1 := kf_ BK142.out 1; have hfz36_2 := kf_ BK142.out 2; have hfz36_3 := kf_ BK142.out 3))
    have n0_ : Aside0 (((((w34.setCell ⟨gb142, 0, none⟩ (.int .i64 t138)).setCell ⟨gb142, 1, none⟩ (.int .i64 t139)).setCell ⟨gb142, 2, none⟩ (.int .i64 t140)).setCell ⟨gb142, 3, none⟩ (.int .i64 t141)).heap[gb136]? = some (.cells #[.int .i64 0, .int .i64 0, .int .i64 0, .int .i64 0] 46 (0, 0))) := ⟨by (with_reducible repeat first | apply kn_ | apply kd_ | apply ka_); refine blk_far ?_ NB136_142.out _; (with_reducible repeat first | apply kn_ | apply kd_ | apply ka_); refine blk_far ?_ NB136_142.out _; (with_reducible repeat first | apply kn_ | apply kd_ | apply ka_); refine blk_far ?_ NB136_142.out _; (with_reducible repeat first | apply kn_ | apply kd_ | apply ka_); refine blk_far ?_ NB136_142.out _; (with_reducible repeat first | apply kn_ | apply kd_ | apply ka_); exact BK136.out⟩
    have n1_ : Aside0 (((((w34.setCell ⟨gb142, 0, none⟩ (.int .i64 t138)).setCell ⟨gb142, 1, none⟩ (.int .i64 t139)).setCell ⟨gb142, 2, none⟩ (.int .i64 t140)).setCell ⟨gb142, 3, none⟩ (.int .i64 t141)).heap[gb142]? = some (.cells #[.int .i64 t138, .int .i64 t139, .int .i64 t140, .int .i64 t141] 46 (0, 0))) := ⟨by (with_reducible repeat first | apply kn_ | apply kd_ | apply ka_); refine blk_put (cs := #[.int .i64 t138, .int .i64 t139, .int .i64 t140, .int .i64 0]) ?_ 3 _ rfl; (with_reducible repeat first | apply kn_ | apply kd_ | apply ka_); refine blk_put (cs := #[.int .i64 t138, .int .i64 t139, .int .i64 0, .int .i64 0]) ?_ 2 _ rfl; (with_reducible repeat first | apply kn_ | apply kd_ | apply ka_); refine blk_put (cs := #[.int .i64 t138, .int .i64 0, .int .i64 0, .int .i64 0]) ?_ 1 _ rfl; (with_reducible repeat first | apply kn_ | apply kd_ | apply ka_); refine blk_put (cs := #[.int .i64 0, .int .i64 0, .int .i64 0, .int .i64 0]) ?_ 0 _ rfl; (with_reducible repeat first | apply kn_ | apply kd_ | apply ka_); exact BK142.out⟩
    have n2_ : Aside0 (Below w.heap.size w ((((w34.setCell ⟨gb142, 0, none⟩ (.int .i64 t138)).setCell ⟨gb142, 1, none⟩ (.int .i64 t139)).setCell ⟨gb142, 2, none⟩ (.int .i64 t140)).setCell ⟨gb142, 3, none⟩ (.int .i64 t141))) := ⟨by repeat (first | (with_reducible first | exact HB.out | apply ba_ | apply pd_ | apply d1_ | refine bs_ ?_ GE136.out | refine bs_ ?_ GE142.out) | exact HB.out)⟩
    (try clear BK136)
    (try clear BK142)
    (try clear HB)
    generalize ((((w34.setCell ⟨gb142, 0, none⟩ (.int .i64 t138)).setCell ⟨gb142, 1, none⟩ (.int .i64 t139)).setCell ⟨gb142, 2, none⟩ (.int .i64 t140)).setCell ⟨gb142, 3, none⟩ (.int .i64 t141)) = w37 at n0_ n1_ n2_ ⊢
    have BK136 := n0_
    have BK142 := n1_
    have HB := n2_
    clear n0_ n1_ n2_
    replace BK136 := sd_ (kd_ BK136.out)
    replace BK142 := sd_ (kd_ BK142.out)
    replace HB := sd_ (d1_ HB.out)
    refine start_ (n := 14) (S := fun w' => w'.cell? ⟨gb142, 0, none⟩ = some (.int .i64 t138) ∧ w'.cell? ⟨gb142, 1, none⟩ = some (.int .i64 t139) ∧ w'.cell? ⟨gb142, 2, none⟩ = some (.int .i64 t140) ∧ w'.cell? ⟨gb142, 3, none⟩ = some (.int .i64 t141)) (ds := [13]) (Array.replicate 14 false) (by kernel_rfl) rfl rfl ⟨(kc_ BK142.out 0).trans rfl, (kc_ BK142.out 1).trans rfl, (kc_ BK142.out 2).trans rfl, (kc_ BK142.out 3).trans rfl⟩ (fun hHeld => ?_); refine with_tabW glyph_Extent.tab5 glyph_Extent.bits5 (fun HT_ HW_ => ?_)
    generalize w37.drew = w38 at BK136 BK142 HB hHeld ⊢
    refine pu_ (v := ?_) (a' := ?_) 0 14 (bz 14 1) rfl rfl HT_ (by kernel_rfl) (fun _ _ _ h => h) (by rfl) ?_ ?_ ?_
    rotate_left; (intro w'; go_simp; with_reducible rfl); rotate_left; (simp only [Act.put, ls_, lz_, lc_, i64_w, i32_w]; rfl)
    refine pu_ (v := ?_) (a' := ?_) 3 17 (bz 14 9) rfl rfl HT_ (by kernel_rfl) (fun _ _ _ h => h) (by rfl) ?_ ?_ ?_
    rotate_left; (intro w'; go_simp; with_reducible rfl); rotate_left; (simp only [Act.put, ls_, lz_, lc_, i64_w, i32_w]; rfl)
    refine pu_ (v := ?_) (a' := ?_) 6 20 (bz 14 73) rfl rfl HT_ (by kernel_rfl) (fun _ _ _ h => h) (by rfl) ?_ ?_ ?_
    rotate_left; (intro w'; go_simp; with_reducible rfl); rotate_left; (simp only [Act.put, ls_, lz_, lc_, i64_w, i32_w]; rfl)
    refine pu_ (v := ?_) (a' := ?_) 9 23 (bz 14 585) rfl rfl HT_ (by kernel_rfl) (fun _ _ _ h => h) (by rfl) ?_ ?_ ?_
    rotate_left; (intro w'; go_simp; with_reducible rfl); rotate_left; (simp only [Act.put, ls_, lz_, lc_, i64_w, i32_w]; rfl)
    refine ta_ (v := ?_) (a' := ?_) 1 15 (bz 14 587) rfl rfl HT_ HW_ (by kernel_rfl) (fun _ _ _ h => h) (by rfl) ?_ hHeld ?_ ?_
    rotate_left
    ·rintro w' ⟨s0, s1, s2, s3⟩
     go_simp
     with_reducible rfl
    rotate_left
    ·simp only [Act.put, ls_, lz_, lc_, i64_w, i32_w]
     rfl
    refine ta_ (v := ?_) (a' := ?_) 4 18 (bz 14 603) rfl rfl HT_ HW_ (by kernel_rfl) (fun _ _ _ h => h) (by rfl) ?_ hHeld ?_ ?_
    rotate_left
    ·rintro w' ⟨s0, s1, s2, s3⟩
     go_simp
     with_reducible rfl
    rotate_left
    ·simp only [Act.put, ls_, lz_, lc_, i64_w, i32_w]
     rfl
    refine ta_ (v := ?_) (a' := ?_) 7 21 (bz 14 731) rfl rfl HT_ HW_ (by kernel_rfl) (fun _ _ _ h => h) (by rfl) ?_ hHeld ?_ ?_
    rotate_left
    ·rintro w' ⟨s0, s1, s2, s3⟩
     go_simp
     with_reducible rfl
    rotate_left
    ·simp only [Act.put, ls_, lz_, lc_, i64_w, i32_w]
     rfl
    refine ta_ (v := ?_) (a' := ?_) 10 24 (bz 14 1755) rfl rfl HT_ HW_ (by kernel_rfl) (fun _ _ _ h => h) (by rfl) ?_ hHeld ?_ ?_
    rotate_left
    ·rintro w' ⟨s0, s1, s2, s3⟩
     go_simp
     with_reducible rfl
    rotate_left
    ·simp only [Act.put, ls_, lz_, lc_, i64_w, i32_w]
     rfl
    refine on_ (N := some 16) 2 (bz 14 1759) rfl rfl HT_ (by kernel_rfl) (by decide) (fun K hK => ?_)
    refine goes_ Tryd.func36 (by kernel_rfl) rfl #[.int .i64 t138] (by rfl) rfl rfl (by (try simp only [lm_, lq_, lx_]); first | done | rfl | (simp only [ld_, lt_]; rfl)) ?_
    with_reducible refine (glyph_less.calls t138 t143 _ ?side1 A7.out).mono ?_
    (case side1 => first | (with_reducible exact hE) | exact sd_ (LaidE.below hE.out (bb_ HB.out (e_ GE136 (e_ GE142 e0_)))))
    rintro e w39 ⟨rfl, hb⟩
    refine ⟨_, rfl, ?_⟩
    replace BK136 := kb_ BK136 hb
    replace BK142 := kb_ BK142 hb
    replace HB := hb_ HB (e_ GE136 (e_ GE142 e0_)) hb
    (try clear hb)
    (try clear hb2)
    (try clear hk)
    (try clear hi)
    refine hK.out _ _ ⟨(kc_ BK142.out 0).trans rfl, (kc_ BK142.out 1).trans rfl, (kc_ BK142.out 2).trans rfl, (kc_ BK142.out 3).trans rfl⟩ (fun hHeld => ?_)
    clear hK K
    refine norm_ (a' := ?_) ?_ ?_
    rotate_left
    ·show Act.put _ (some 16) _ = _
     simp only [Act.put, ls_, lz_, lc_, i64_w, i32_w]
     rfl
    refine on_ (N := some 19) 5 (bz 14 1791) rfl rfl HT_ (by kernel_rfl) (by decide) (fun K hK => ?_)
    refine goes_ Tryd.func36 (by kernel_rfl) rfl #[.int .i64 t139] (by rfl) rfl rfl (by (try simp only [lm_, lq_, lx_]); first | done | rfl | (simp only [ld_, lt_]; rfl)) ?_
    with_reducible refine (glyph_less.calls t139 t144 _ ?side1 A8.out).mono ?_
    (case side1 => first | (with_reducible exact hE) | exact sd_ (LaidE.below hE.out (bb_ HB.out (e_ GE136 (e_ GE142 e0_)))))
    rintro e w40 ⟨rfl, hb⟩
    refine ⟨_, rfl, ?_⟩
    replace BK136 := kb_ BK136 hb
    replace BK142 := kb_ BK142 hb
    replace HB := hb_ HB (e_ GE136 (e_ GE142 e0_)) hb
    (try clear hb)
    (try clear hb2)
    (try clear hk)
    (try clear hi)
    refine hK.out _ _ ⟨(kc_ BK142.out 0).trans rfl, (kc_ BK142.out 1).trans rfl, (kc_ BK142.out 2).trans rfl, (kc_ BK142.out 3).trans rfl⟩ (fun hHeld => ?_)
    clear hK K
    refine norm_ (a' := ?_) ?_ ?_
    rotate_left
    ·show Act.put _ (some 19) _ = _
     simp only [Act.put, ls_, lz_, lc_, i64_w, i32_w]
     rfl
    refine on_ (N := some 22) 8 (bz 14 2047) rfl rfl HT_ (by kernel_rfl) (by decide) (fun K hK => ?_)
    refine goes_ Tryd.func36 (by kernel_rfl) rfl #[.int .i64 t140] (by rfl) rfl rfl (by (try simp only [lm_, lq_, lx_]); first | done | rfl | (simp only [ld_, lt_]; rfl)) ?_
    with_reducible refine (glyph_less.calls t140 t145 _ ?side1 A9.out).mono ?_
    (case side1 => first | (with_reducible exact hE) | exact sd_ (LaidE.below hE.out (bb_ HB.out (e_ GE136 (e_ GE142 e0_)))))
    rintro e w41 ⟨rfl, hb⟩
    refine ⟨_, rfl, ?_⟩
    replace BK136 := kb_ BK136 hb
    replace BK142 := kb_ BK142 hb
    replace HB := hb_ HB (e_ GE136 (e_ GE142 e0_)) hb
    (try clear hb)
    (try clear hb2)
    (try clear hk)
    (try clear hi)
    refine hK.out _ _ ⟨(kc_ BK142.out 0).trans rfl, (kc_ BK142.out 1).trans rfl, (kc_ BK142.out 2).trans rfl, (kc_ BK142.out 3).trans rfl⟩ (fun hHeld => ?_)
    clear hK K
    refine norm_ (a' := ?_) ?_ ?_
    rotate_left
    ·show Act.put _ (some 22) _ = _
     simp only [Act.put, ls_, lz_, lc_, i64_w, i32_w]
     rfl
    refine on_ (N := some 25) 11 (bz 14 4095) rfl rfl HT_ (by kernel_rfl) (by decide) (fun K hK => ?_)
    refine goes_ Tryd.func36 (by kernel_rfl) rfl #[.int .i64 t141] (by rfl) rfl rfl (by (try simp only [lm_, lq_, lx_]); first | done | rfl | (simp only [ld_, lt_]; rfl)) ?_
    with_reducible refine (glyph_less.calls t141 t146 _ ?side1 A10.out).mono ?_
    (case side1 => first | (with_reducible exact hE) | exact sd_ (LaidE.below hE.out (bb_ HB.out (e_ GE136 (e_ GE142 e0_)))))
    rintro e w42 ⟨rfl, hb⟩
    refine ⟨_, rfl, ?_⟩
    replace BK136 := kb_ BK136 hb
    replace BK142 := kb_ BK142 hb
    replace HB := hb_ HB (e_ GE136 (e_ GE142 e0_)) hb
    (try clear hb)
    (try clear hb2)
    (try clear hk)
    (try clear hi)
    refine hK.out _ _ ⟨(kc_ BK142.out 0).trans rfl, (kc_ BK142.out 1).trans rfl, (kc_ BK142.out 2).trans rfl, (kc_ BK142.out 3).trans rfl⟩ (fun hHeld => ?_)
    clear hK K
    refine norm_ (a' := ?_) ?_ ?_
    rotate_left
    ·show Act.put _ (some 25) _ = _
     simp only [Act.put, ls_, lz_, lc_, i64_w, i32_w]
     rfl
    refine pu_ (v := ?_) (a' := ?_) 12 26 (bz 14 8191) rfl rfl HT_ (by kernel_rfl) (fun _ _ _ h => h) (by rfl) ?_ ?_ ?_
    rotate_left; (intro w'; go_simp; with_reducible rfl); rotate_left; (simp only [Act.put, ls_, lz_, lc_, i64_w, i32_w]; rfl)
    refine last_ (i := 13) (N := none) (bz 14 16383) rfl rfl (one_of HT_.out (by kernel_rfl)) (by decide) (fun K hK => ?_)
    have hs43 : w42.cell? ⟨gb142, 0, none⟩ = some (.int .i64 t138) := (kc_ BK142.out 0).trans rfl
    have hfs43 := kf_ BK142.out 0
    have hns43_0 := NB136_142.out
    have hms43_0 := NB142_136.out
    have hs44 : w42.cell? ⟨gb142, 1, none⟩ = some (.int .i64 t139) := (kc_ BK142.out 1).trans rfl
    have hfs44 := kf_ BK142.out 1
    have hns44_0 := NB136_142.out
    have hms44_0 := NB142_136.out
    have hs45 : w42.cell? ⟨gb142, 2, none⟩ = some (.int .i64 t140) := (kc_ BK142.out 2).trans rfl
    have hfs45 := kf_ BK142.out 2
    have hns45_0 := NB136_142.out
    have hms45_0 := NB142_136.out
    have hs46 : w42.cell? ⟨gb142, 3, none⟩ = some (.int .i64 t141) := (kc_ BK142.out 3).trans rfl
    have hfs46 := kf_ BK142.out 3
    have hns46_0 := NB136_142.out
    have hms46_0 := NB142_136.out
    refine skip_ (w1 := ?_) (by rfl) rfl ?_ ?_
    rotate_left
    ·go_simp
     rfl
    refine hK.out _ _ ?_
    clear hK K
    refine done_ (done_of HT_.out (by kernel_rfl)) ?_
    have hcz47_0 : w42.cell? ⟨gb142, 0, none⟩ = some (.int .i64 t138) := (kc_ BK142.out 0).trans rfl
    have hcz47_1 : w42.cell? ⟨gb142, 1, none⟩ = some (.int .i64 t139) := (kc_ BK142.out 1).trans rfl
    have hcz47_2 : w42.cell? ⟨gb142, 2, none⟩ = some (.int .i64 t140) := (kc_ BK142.out 2).trans rfl
    have hcz47_3 : w42.cell? ⟨gb142, 3, none⟩ = some (.int .i64 t141) := (kc_ BK142.out 3).trans rfl
    have hfz47_0 := kf_ BK142.out 0
    have hfz47_1 := kf_ BK142.out 1
    have hfz47_2 := kf_ BK142.out 2
    have hfz47_3 := kf_ BK142.out 3
    try go_wp2_with (first | ((with_reducible refine gate_callee (f := 37) rfl ?_); refine goesL_ (some 28) rfl rfl Tryd.func37 (by kernel_rfl) rfl #[.agg #[.int .i64 t143, .int .i64 t144, .int .i64 t145, .int .i64 t146]] rfl (by (try simp only [lm_, lq_, lx_]); first | done | rfl | (simp only [ld_, lt_]; rfl)) ?_; (with_reducible refine (box_Check.calls t143 t144 t145 t146 false _ A11.out).mono ?_); rintro e w48 ⟨rfl, hb⟩; refine ⟨_, rfl, ?_⟩; replace BK136 := sd_ (blk_below (g := gb136) (o := .cells #[.int .i64 0, .int .i64 0, .int .i64 0, .int .i64 0] 46 (0, 0)) (by (with_reducible repeat first | apply kn_ | apply kd_ | apply ka_); refine blk_far ?_ NB136_142.out _; (with_reducible repeat first | apply kn_ | apply kd_ | apply ka_); refine blk_far ?_ NB136_142.out _; (with_reducible repeat first | apply kn_ | apply kd_ | apply ka_); refine blk_far ?_ NB136_142.out _; (with_reducible repeat first | apply kn_ | apply kd_ | apply ka_); refine blk_far ?_ NB136_142.out _; (with_reducible repeat first | apply kn_ | apply kd_ | apply ka_); exact BK136.out) hb); replace BK142 := sd_ (blk_below (g := gb142) (o := .cells #[.int .i64 t143, .int .i64 t144, .int .i64 t145, .int .i64 t146] 46 (0, 0)) (by (with_reducible repeat first | apply kn_ | apply kd_ | apply ka_); refine blk_put (cs := #[.int .i64 t143, .int .i64 t144, .int .i64 t145, .int .i64 t141]) ?_ 3 _ rfl; (with_reducible repeat first | apply kn_ | apply kd_ | apply ka_); refine blk_put (cs := #[.int .i64 t143, .int .i64 t144, .int .i64 t140, .int .i64 t141]) ?_ 2 _ rfl; (with_reducible repeat first | apply kn_ | apply kd_ | apply ka_); refine blk_put (cs := #[.int .i64 t143, .int .i64 t139, .int .i64 t140, .int .i64 t141]) ?_ 1 _ rfl; (with_reducible repeat first | apply kn_ | apply kd_ | apply ka_); refine blk_put (cs := #[.int .i64 t138, .int .i64 t139, .int .i64 t140, .int .i64 t141]) ?_ 0 _ rfl; (with_reducible repeat first | apply kn_ | apply kd_ | apply ka_); exact BK142.out) hb); replace HB := hb_ HB (e_ GE136 (e_ GE142 e0_)) hb; (try clear hb); (try clear hb2); (try clear hk); (try clear hi); have hcz49_0 : w48.cell? ⟨gb136, 0, none⟩ = some (.int .i64 0) := (kc_ BK136.out 0).trans rfl; have hcz49_1 : w48.cell? ⟨gb136, 1, none⟩ = some (.int .i64 0) := (kc_ BK136.out 1).trans rfl; have hcz49_2 : w48.cell? ⟨gb136, 2, none⟩ = some (.int .i64 0) := (kc_ BK136.out 2).trans rfl; have hcz49_3 : w48.cell? ⟨gb136, 3, none⟩ = some (.int .i64 0) := (kc_ BK136.out 3).trans rfl; have hfz49_0 := kf_ BK136.out 0; have hfz49_1 := kf_ BK136.out 1; have hfz49_2 := kf_ BK136.out 2; have hfz49_3 := kf_ BK136.out 3))
    refine bodyPost_ret (results_ct rfl _ _ gb136 46 #[.int .i64 0, .int .i64 0, .int .i64 0, .int .i64 0] (0, 0) _ rfl (by (with_reducible repeat first | apply kn_ | apply kd_ | apply ka_); refine blk_put (cs := #[.int .i64 0, .int .i64 0, .int .i64 0, .int .i64 0]) ?_ 3 _ rfl; (with_reducible repeat first | apply kn_ | apply kd_ | apply ka_); refine blk_put (cs := #[.int .i64 0, .int .i64 0, .int .i64 0, .int .i64 0]) ?_ 2 _ rfl; (with_reducible repeat first | apply kn_ | apply kd_ | apply ka_); refine blk_put (cs := #[.int .i64 0, .int .i64 0, .int .i64 0, .int .i64 0]) ?_ 1 _ rfl; (with_reducible repeat first | apply kn_ | apply kd_ | apply ka_); refine blk_put (cs := #[.int .i64 0, .int .i64 0, .int .i64 0, .int .i64 0]) ?_ 0 _ rfl; (with_reducible repeat first | apply kn_ | apply kd_ | apply ka_); exact BK136.out) Tryd.underlying46 rfl (by kernel_rfl)) rfl ?_
    exact ⟨by first | rfl | (simp [errW_none, errW_some] <;> rfl) | (simp [*, errW_none, errW_some] <;> rfl), by repeat (first | (with_reducible first | exact HB.out | apply ba_ | apply pd_ | apply d1_ | refine bs_ ?_ GE136.out | refine bs_ ?_ GE142.out) | exact HB.out)⟩
  ·replace c6 := bf_ c6
   subst c6
   have H1 : ((box_Check.f t138 t139 t140 t141).bind fun t148 => (if t148 = true then (some (t138, t139, t140, t141, 0)) else (some (0, 0, 0, 0, 2)))) = some (r1, r2, r3, r4, r5) := by rw [if_neg (show ¬ (false = true) by decide)] at H; exact H
   clear H; have H := H1; clear H1
   replace H := ob_ H
   obtain ⟨t148, A500, H⟩ := H
   replace H : (if t148 = true then (some (t138, t139, t140, t141, 0)) else (some (0, 0, 0, 0, 2))) = some (r1, r2, r3, r4, r5) := H
   have A50 := sd_ A500
   clear A500
   by_cases c51 : t148 = true
   ·subst c51
    have H1 : (some (t138, t139, t140, t141, 0)) = some (r1, r2, r3, r4, r5) := by rw [if_pos rfl] at H; exact H
    clear H; have H := H1; clear H1
    simp only [Option.some.injEq, Prod.mk.injEq] at H
    obtain ⟨rfl, rfl, rfl, rfl, rfl⟩ := H
    go_enter Tryd.func28, Tryd.ntmps28
    go_wp2_with (first | ((with_reducible refine gate_dst (N := 4) rfl ?_); refine box_event ?hg (N := 4) ?hd (cs := #[.int .i64 0, .int .i64 0, .int .i64 0, .int .i64 0]) (t := 46) ?hr ?_; (case hd => rfl); (case hg => rfl); (case hr => first | (go_simp; done) | (go_simp; rfl)); intro gb136 hg w52 hbox hb; have BK136 := sd_ hbox; have GW136 := gw_ HB e0_ hg; have GE136 := GW136; replace HB := hb_ HB e0_ hb; clear hb hbox hg) | ((with_reducible refine gate_callee (f := 34) rfl ?_); refine goesL_ (some 8) rfl rfl Tryd.func34 (by kernel_rfl) rfl #[.int .i64 a0] rfl (by (try simp only [lm_, lq_, lx_]); first | done | rfl | (simp only [ld_, lt_]; rfl)) ?_; (with_reducible refine (glyph_Known.calls a0 true _ A3.out).mono ?_); rintro e w' ⟨rfl, ⟨nd, rfl⟩⟩; refine ⟨_, rfl, ?_⟩; (repeat (rw [drewN_self w52]; generalize hq_ : World.drewN w52 _ = w52; have n0_ : Aside0 (w52.heap[gb136]? = some (.cells #[.int .i64 0, .int .i64 0, .int .i64 0, .int .i64 0] 46 (0, 0))) := ⟨by rw [← hq_]; exact (kk_ BK136.out)⟩; have n1_ : Aside0 (Below w.heap.size w w52) := ⟨by rw [← hq_]; exact (bb_ HB.out (e_ GE136 e0_))⟩; clear BK136 HB hq_; have BK136 := n0_; have HB := n1_; clear n0_ n1_))) | ((with_reducible refine gate_callee (f := 35) rfl ?_); refine goesL_ (some 12) rfl rfl Tryd.func35 (by kernel_rfl) rfl #[.int .i64 a0] rfl (by (try simp only [lm_, lq_, lx_]); first | done | rfl | (simp only [ld_, lt_]; rfl)) ?_; (with_reducible refine (glyph_full.calls a0 t138 t139 t140 t141 _ A5.out).mono ?_); rintro e w53 ⟨rfl, hb⟩; refine ⟨_, rfl, ?_⟩; replace BK136 := kb_ BK136 hb; replace HB := hb_ HB (e_ GE136 e0_) hb; (try clear hb); (try clear hb2); (try clear hk); (try clear hi)) | ((with_reducible refine gate_dst (N := 6) rfl ?_); refine box_event ?hg (N := 6) ?hd (cs := #[.int .i64 0, .int .i64 0, .int .i64 0, .int .i64 0]) (t := 46) ?hr ?_; (case hd => rfl); (case hg => rfl); (case hr => first | (go_simp; done) | (go_simp; rfl)); intro gb142 hg w54 hbox hb; have BK142 := sd_ hbox; have GW142 := gw_ HB (e_ GE136 e0_) hg; have GE142 := GW142; have NB136_142 := nb_ BK136 hg; have NB142_136 := sy_ NB136_142; replace BK136 := kb_ BK136 hb; replace HB := hb_ HB (e_ GE136 e0_) hb; clear hb hbox hg; have hnb55 := NB142_136.out; have hnc55 := NB136_142.out; have hcz56_0 : w54.cell? ⟨gb142, 0, none⟩ = some (.int .i64 0) := (kc_ BK142.out 0).trans rfl; have hcz56_1 : w54.cell? ⟨gb142, 1, none⟩ = some (.int .i64 0) := (kc_ BK142.out 1).trans rfl; have hcz56_2 : w54.cell? ⟨gb142, 2, none⟩ = some (.int .i64 0) := (kc_ BK142.out 2).trans rfl; have hcz56_3 : w54.cell? ⟨gb142, 3, none⟩ = some (.int .i64 0) := (kc_ BK142.out 3).trans rfl; have hfz56_0 := kf_ BK142.out 0; have hfz56_1 := kf_ BK142.out 1; have hfz56_2 := kf_ BK142.out 2; have hfz56_3 := kf_ BK142.out 3) | ((with_reducible refine gate_callee (f := 37) rfl ?_); refine goesL_ (some 28) rfl rfl Tryd.func37 (by kernel_rfl) rfl #[.agg #[.int .i64 t138, .int .i64 t139, .int .i64 t140, .int .i64 t141]] rfl (by (try simp only [lm_, lq_, lx_]); first | done | rfl | (simp only [ld_, lt_]; rfl)) ?_; (with_reducible refine (box_Check.calls t138 t139 t140 t141 true _ A50.out).mono ?_); rintro e w57 ⟨rfl, hb⟩; refine ⟨_, rfl, ?_⟩; replace BK136 := sd_ (blk_below (g := gb136) (o := .cells #[.int .i64 0, .int .i64 0, .int .i64 0, .int .i64 0] 46 (0, 0)) (by (with_reducible repeat first | apply kn_ | apply kd_ | apply ka_); refine blk_far ?_ NB136_142.out _; (with_reducible repeat first | apply kn_ | apply kd_ | apply ka_); refine blk_far ?_ NB136_142.out _; (with_reducible repeat first | apply kn_ | apply kd_ | apply ka_); refine blk_far ?_ NB136_142.out _; (with_reducible repeat first | apply kn_ | apply kd_ | apply ka_); refine blk_far ?_ NB136_142.out _; (with_reducible repeat first | apply kn_ | apply kd_ | apply ka_); exact BK136.out) hb); replace BK142 := sd_ (blk_below (g := gb142) (o := .cells #[.int .i64 t138, .int .i64 t139, .int .i64 t140, .int .i64 t141] 46 (0, 0)) (by (with_reducible repeat first | apply kn_ | apply kd_ | apply ka_); refine blk_put (cs := #[.int .i64 t138, .int .i64 t139, .int .i64 t140, .int .i64 0]) ?_ 3 _ rfl; (with_reducible repeat first | apply kn_ | apply kd_ | apply ka_); refine blk_put (cs := #[.int .i64 t138, .int .i64 t139, .int .i64 0, .int .i64 0]) ?_ 2 _ rfl; (with_reducible repeat first | apply kn_ | apply kd_ | apply ka_); refine blk_put (cs := #[.int .i64 t138, .int .i64 0, .int .i64 0, .int .i64 0]) ?_ 1 _ rfl; (with_reducible repeat first | apply kn_ | apply kd_ | apply ka_); refine blk_put (cs := #[.int .i64 0, .int .i64 0, .int .i64 0, .int .i64 0]) ?_ 0 _ rfl; (with_reducible repeat first | apply kn_ | apply kd_ | apply ka_); exact BK142.out) hb); replace HB := hb_ HB (e_ GE136 (e_ GE142 e0_)) hb; (try clear hb); (try clear hb2); (try clear hk); (try clear hi); have hcz58_0 : w57.cell? ⟨gb142, 0, none⟩ = some (.int .i64 t138) := (kc_ BK142.out 0).trans rfl; have hcz58_1 : w57.cell? ⟨gb142, 1, none⟩ = some (.int .i64 t139) := (kc_ BK142.out 1).trans rfl; have hcz58_2 : w57.cell? ⟨gb142, 2, none⟩ = some (.int .i64 t140) := (kc_ BK142.out 2).trans rfl; have hcz58_3 : w57.cell? ⟨gb142, 3, none⟩ = some (.int .i64 t141) := (kc_ BK142.out 3).trans rfl; have hfz58_0 := kf_ BK142.out 0; have hfz58_1 := kf_ BK142.out 1; have hfz58_2 := kf_ BK142.out 2; have hfz58_3 := kf_ BK142.out 3; have hcz59_0 : w57.cell? ⟨gb136, 0, none⟩ = some (.int .i64 0) := (kc_ BK136.out 0).trans rfl; have hcz59_1 : w57.cell? ⟨gb136, 1, none⟩ = some (.int .i64 0) := (kc_ BK136.out 1).trans rfl; have hcz59_2 : w57.cell? ⟨gb136, 2, none⟩ = some (.int .i64 0) := (kc_ BK136.out 2).trans rfl; have hcz59_3 : w57.cell? ⟨gb136, 3, none⟩ = some (.int .i64 0) := (kc_ BK136.out 3).trans rfl; have hfz59_0 := kf_ BK136.out 0; have hfz59_1 := kf_ BK136.out 1; have hfz59_2 := kf_ BK136.out 2; have hfz59_3 := kf_ BK136.out 3))
    refine bodyPost_ret (results_ct rfl _ _ gb136 46 #[.int .i64 t138, .int .i64 t139, .int .i64 t140, .int .i64 t141] (0, 0) _ rfl (by (with_reducible repeat first | apply kn_ | apply kd_ | apply ka_); refine blk_put (cs := #[.int .i64 t138, .int .i64 t139, .int .i64 t140, .int .i64 0]) ?_ 3 _ rfl; (with_reducible repeat first | apply kn_ | apply kd_ | apply ka_); refine blk_put (cs := #[.int .i64 t138, .int .i64 t139, .int .i64 0, .int .i64 0]) ?_ 2 _ rfl; (with_reducible repeat first | apply kn_ | apply kd_ | apply ka_); refine blk_put (cs := #[.int .i64 t138, .int .i64 0, .int .i64 0, .int .i64 0]) ?_ 1 _ rfl; (with_reducible repeat first | apply kn_ | apply kd_ | apply ka_); refine blk_put (cs := #[.int .i64 0, .int .i64 0, .int .i64 0, .int .i64 0]) ?_ 0 _ rfl; (with_reducible repeat first | apply kn_ | apply kd_ | apply ka_); exact BK136.out) Tryd.underlying46 rfl (by kernel_rfl)) rfl ?_
    exact ⟨by first | rfl | (simp [errW_none, errW_some] <;> rfl) | (simp [*, errW_none, errW_some] <;> rfl), by repeat (first | (with_reducible first | exact HB.out | apply ba_ | apply pd_ | apply d1_ | refine bs_ ?_ GE136.out | refine bs_ ?_ GE142.out) | exact HB.out)⟩
   ·replace c51 := bf_ c51
    subst c51
    have H1 : (some (0, 0, 0, 0, 2)) = some (r1, r2, r3, r4, r5) := by rw [if_neg (show ¬ (false = true) by decide)] at H; exact H
    clear H; have H := H1; clear H1
    simp only [Option.some.injEq, Prod.mk.injEq] at H
    obtain ⟨rfl, rfl, rfl, rfl, rfl⟩ := H
    go_enter Tryd.func28, Tryd.ntmps28
    go_wp2_with (first | ((with_reducible refine gate_dst (N := 4) rfl ?_); refine box_event ?hg (N := 4) ?hd (cs := #[.int .i64 0, .int .i64 0, .int .i64 0, .int .i64 0]) (t := 46) ?hr ?_; (case hd => rfl); (case hg => rfl); (case hr => first | (go_simp; done) | (go_simp; rfl)); intro gb136 hg w60 hbox hb; have BK136 := sd_ hbox; have GW136 := gw_ HB e0_ hg; have GE136 := GW136; replace HB := hb_ HB e0_ hb; clear hb hbox hg) | ((with_reducible refine gate_callee (f := 34) rfl ?_); refine goesL_ (some 8) rfl rfl Tryd.func34 (by kernel_rfl) rfl #[.int .i64 a0] rfl (by (try simp only [lm_, lq_, lx_]); first | done | rfl | (simp only [ld_, lt_]; rfl)) ?_; (with_reducible refine (glyph_Known.calls a0 true _ A3.out).mono ?_); rintro e w' ⟨rfl, ⟨nd, rfl⟩⟩; refine ⟨_, rfl, ?_⟩; (repeat (rw [drewN_self w60]; generalize hq_ : World.drewN w60 _ = w60; have n0_ : Aside0 (w60.heap[gb136]? = some (.cells #[.int .i64 0, .int .i64 0, .int .i64 0, .int .i64 0] 46 (0, 0))) := ⟨by rw [← hq_]; exact (kk_ BK136.out)⟩; have n1_ : Aside0 (Below w.heap.size w w60) := ⟨by rw [← hq_]; exact (bb_ HB.out (e_ GE136 e0_))⟩; clear BK136 HB hq_; have BK136 := n0_; have HB := n1_; clear n0_ n1_))) | ((with_reducible refine gate_callee (f := 35) rfl ?_); refine goesL_ (some 12) rfl rfl Tryd.func35 (by kernel_rfl) rfl #[.int .i64 a0] rfl (by (try simp only [lm_, lq_, lx_]); first | done | rfl | (simp only [ld_, lt_]; rfl)) ?_; (with_reducible refine (glyph_full.calls a0 t138 t139 t140 t141 _ A5.out).mono ?_); rintro e w61 ⟨rfl, hb⟩; refine ⟨_, rfl, ?_⟩; replace BK136 := kb_ BK136 hb; replace HB := hb_ HB (e_ GE136 e0_) hb; (try clear hb); (try clear hb2); (try clear hk); (try clear hi)) | ((with_reducible refine gate_dst (N := 6) rfl ?_); refine box_event ?hg (N := 6) ?hd (cs := #[.int .i64 0, .int .i64 0, .int .i64 0, .int .i64 0]) (t := 46) ?hr ?_; (case hd => rfl); (case hg => rfl); (case hr => first | (go_simp; done) | (go_simp; rfl)); intro gb142 hg w62 hbox hb; have BK142 := sd_ hbox; have GW142 := gw_ HB (e_ GE136 e0_) hg; have GE142 := GW142; have NB136_142 := nb_ BK136 hg; have NB142_136 := sy_ NB136_142; replace BK136 := kb_ BK136 hb; replace HB := hb_ HB (e_ GE136 e0_) hb; clear hb hbox hg; have hnb63 := NB142_136.out; have hnc63 := NB136_142.out; have hcz64_0 : w62.cell? ⟨gb142, 0, none⟩ = some (.int .i64 0) := (kc_ BK142.out 0).trans rfl; have hcz64_1 : w62.cell? ⟨gb142, 1, none⟩ = some (.int .i64 0) := (kc_ BK142.out 1).trans rfl; have hcz64_2 : w62.cell? ⟨gb142, 2, none⟩ = some (.int .i64 0) := (kc_ BK142.out 2).trans rfl; have hcz64_3 : w62.cell? ⟨gb142, 3, none⟩ = some (.int .i64 0) := (kc_ BK142.out 3).trans rfl; have hfz64_0 := kf_ BK142.out 0; have hfz64_1 := kf_ BK142.out 1; have hfz64_2 := kf_ BK142.out 2; have hfz64_3 := kf_ BK142.out 3) | ((with_reducible refine gate_callee (f := 37) rfl ?_); refine goesL_ (some 28) rfl rfl Tryd.func37 (by kernel_rfl) rfl #[.agg #[.int .i64 t138, .int .i64 t139, .int .i64 t140, .int .i64 t141]] rfl (by (try simp only [lm_, lq_, lx_]); first | done | rfl | (simp only [ld_, lt_]; rfl)) ?_; (with_reducible refine (box_Check.calls t138 t139 t140 t141 false _ A50.out).mono ?_); rintro e w65 ⟨rfl, hb⟩; refine ⟨_, rfl, ?_⟩; replace BK136 := sd_ (blk_below (g := gb136) (o := .cells #[.int .i64 0, .int .i64 0, .int .i64 0, .int .i64 0] 46 (0, 0)) (by (with_reducible repeat first | apply kn_ | apply kd_ | apply ka_); refine blk_far ?_ NB136_142.out _; (with_reducible repeat first | apply kn_ | apply kd_ | apply ka_); refine blk_far ?_ NB136_142.out _; (with_reducible repeat first | apply kn_ | apply kd_ | apply ka_); refine blk_far ?_ NB136_142.out _; (with_reducible repeat first | apply kn_ | apply kd_ | apply ka_); refine blk_far ?_ NB136_142.out _; (with_reducible repeat first | apply kn_ | apply kd_ | apply ka_); exact BK136.out) hb); replace BK142 := sd_ (blk_below (g := gb142) (o := .cells #[.int .i64 t138, .int .i64 t139, .int .i64 t140, .int .i64 t141] 46 (0, 0)) (by (with_reducible repeat first | apply kn_ | apply kd_ | apply ka_); refine blk_put (cs := #[.int .i64 t138, .int .i64 t139, .int .i64 t140, .int .i64 0]) ?_ 3 _ rfl; (with_reducible repeat first | apply kn_ | apply kd_ | apply ka_); refine blk_put (cs := #[.int .i64 t138, .int .i64 t139, .int .i64 0, .int .i64 0]) ?_ 2 _ rfl; (with_reducible repeat first | apply kn_ | apply kd_ | apply ka_); refine blk_put (cs := #[.int .i64 t138, .int .i64 0, .int .i64 0, .int .i64 0]) ?_ 1 _ rfl; (with_reducible repeat first | apply kn_ | apply kd_ | apply ka_); refine blk_put (cs := #[.int .i64 0, .int .i64 0, .int .i64 0, .int .i64 0]) ?_ 0 _ rfl; (with_reducible repeat first | apply kn_ | apply kd_ | apply ka_); exact BK142.out) hb); replace HB := hb_ HB (e_ GE136 (e_ GE142 e0_)) hb; (try clear hb); (try clear hb2); (try clear hk); (try clear hi); have hcz66_0 : w65.cell? ⟨gb136, 0, none⟩ = some (.int .i64 0) := (kc_ BK136.out 0).trans rfl; have hcz66_1 : w65.cell? ⟨gb136, 1, none⟩ = some (.int .i64 0) := (kc_ BK136.out 1).trans rfl; have hcz66_2 : w65.cell? ⟨gb136, 2, none⟩ = some (.int .i64 0) := (kc_ BK136.out 2).trans rfl; have hcz66_3 : w65.cell? ⟨gb136, 3, none⟩ = some (.int .i64 0) := (kc_ BK136.out 3).trans rfl; have hfz66_0 := kf_ BK136.out 0; have hfz66_1 := kf_ BK136.out 1; have hfz66_2 := kf_ BK136.out 2; have hfz66_3 := kf_ BK136.out 3))
    refine bodyPost_ret (results_ct rfl _ _ gb136 46 #[.int .i64 0, .int .i64 0, .int .i64 0, .int .i64 0] (0, 0) _ rfl (by (with_reducible repeat first | apply kn_ | apply kd_ | apply ka_); refine blk_put (cs := #[.int .i64 0, .int .i64 0, .int .i64 0, .int .i64 0]) ?_ 3 _ rfl; (with_reducible repeat first | apply kn_ | apply kd_ | apply ka_); refine blk_put (cs := #[.int .i64 0, .int .i64 0, .int .i64 0, .int .i64 0]) ?_ 2 _ rfl; (with_reducible repeat first | apply kn_ | apply kd_ | apply ka_); refine blk_put (cs := #[.int .i64 0, .int .i64 0, .int .i64 0, .int .i64 0]) ?_ 1 _ rfl; (with_reducible repeat first | apply kn_ | apply kd_ | apply ka_); refine blk_put (cs := #[.int .i64 0, .int .i64 0, .int .i64 0, .int .i64 0]) ?_ 0 _ rfl; (with_reducible repeat first | apply kn_ | apply kd_ | apply ka_); exact BK136.out) Tryd.underlying46 rfl (by kernel_rfl)) rfl ?_
    exact ⟨by first | rfl | (simp [errW_none, errW_some] <;> rfl) | (simp [*, errW_none, errW_some] <;> rfl), by repeat (first | (with_reducible first | exact HB.out | apply ba_ | apply pd_ | apply d1_ | refine bs_ ?_ GE136.out | refine bs_ ?_ GE142.out) | exact HB.out)⟩
 ·replace c4 := bf_ c4
  subst c4
  have H1 : (some (0, 0, 0, 0, 2)) = some (r1, r2, r3, r4, r5) := by rw [if_neg (show ¬ (false = true) by decide)] at H; exact H
  clear H; have H := H1; clear H1
  simp only [Option.some.injEq, Prod.mk.injEq] at H
  obtain ⟨rfl, rfl, rfl, rfl, rfl⟩ := H
  go_enter Tryd.func28, Tryd.ntmps28
  go_wp2_with (first | ((with_reducible refine gate_dst (N := 4) rfl ?_); refine box_event ?hg (N := 4) ?hd (cs := #[.int .i64 0, .int .i64 0, .int .i64 0, .int .i64 0]) (t := 46) ?hr ?_; (case hd => rfl); (case hg => rfl); (case hr => first | (go_simp; done) | (go_simp; rfl)); intro gb136 hg w67 hbox hb; have BK136 := sd_ hbox; have GW136 := gw_ HB e0_ hg; have GE136 := GW136; replace HB := hb_ HB e0_ hb; clear hb hbox hg) | ((with_reducible refine gate_callee (f := 34) rfl ?_); refine goesL_ (some 8) rfl rfl Tryd.func34 (by kernel_rfl) rfl #[.int .i64 a0] rfl (by (try simp only [lm_, lq_, lx_]); first | done | rfl | (simp only [ld_, lt_]; rfl)) ?_; (with_reducible refine (glyph_Known.calls a0 false _ A3.out).mono ?_); rintro e w' ⟨rfl, ⟨nd, rfl⟩⟩; refine ⟨_, rfl, ?_⟩; (repeat (rw [drewN_self w67]; generalize hq_ : World.drewN w67 _ = w67; have n0_ : Aside0 (w67.heap[gb136]? = some (.cells #[.int .i64 0, .int .i64 0, .int .i64 0, .int .i64 0] 46 (0, 0))) := ⟨by rw [← hq_]; exact (kk_ BK136.out)⟩; have n1_ : Aside0 (Below w.heap.size w w67) := ⟨by rw [← hq_]; exact (bb_ HB.out (e_ GE136 e0_))⟩; clear BK136 HB hq_; have BK136 := n0_; have HB := n1_; clear n0_ n1_)); have hcz68_0 : w67.cell? ⟨gb136, 0, none⟩ = some (.int .i64 0) := (kc_ BK136.out 0).trans rfl; have hcz68_1 : w67.cell? ⟨gb136, 1, none⟩ = some (.int .i64 0) := (kc_ BK136.out 1).trans rfl; have hcz68_2 : w67.cell? ⟨gb136, 2, none⟩ = some (.int .i64 0) := (kc_ BK136.out 2).trans rfl; have hcz68_3 : w67.cell? ⟨gb136, 3, none⟩ = some (.int .i64 0) := (kc_ BK136.out 3).trans rfl; have hfz68_0 := kf_ BK136.out 0; have hfz68_1 := kf_ BK136.out 1; have hfz68_2 := kf_ BK136.out 2; have hfz68_3 := kf_ BK136.out 3))
  refine bodyPost_ret (results_ct rfl _ _ gb136 46 #[.int .i64 0, .int .i64 0, .int .i64 0, .int .i64 0] (0, 0) _ rfl (by (with_reducible repeat first | apply kn_ | apply kd_ | apply ka_); refine blk_put (cs := #[.int .i64 0, .int .i64 0, .int .i64 0, .int .i64 0]) ?_ 3 _ rfl; (with_reducible repeat first | apply kn_ | apply kd_ | apply ka_); refine blk_put (cs := #[.int .i64 0, .int .i64 0, .int .i64 0, .int .i64 0]) ?_ 2 _ rfl; (with_reducible repeat first | apply kn_ | apply kd_ | apply ka_); refine blk_put (cs := #[.int .i64 0, .int .i64 0, .int .i64 0, .int .i64 0]) ?_ 1 _ rfl; (with_reducible repeat first | apply kn_ | apply kd_ | apply ka_); refine blk_put (cs := #[.int .i64 0, .int .i64 0, .int .i64 0, .int .i64 0]) ?_ 0 _ rfl; (with_reducible repeat first | apply kn_ | apply kd_ | apply ka_); exact BK136.out) Tryd.underlying46 rfl (by kernel_rfl)) rfl ?_
  exact ⟨by first | rfl | (simp [errW_none, errW_some] <;> rfl) | (simp [*, errW_none, errW_some] <;> rfl), by repeat (first | (with_reducible first | exact HB.out | apply ba_ | apply pd_ | apply d1_ | refine bs_ ?_ GE136.out) | exact HB.out)⟩

/-! ### chord_wide: function 25 -/
def chord_wide.f (a0 : Int) (a1 : Bool) : Option (Int) := (glyph_Extent.f a0 a1).bind fun bt149 => (some (wrap64 (bt149.2.2.1 - bt149.1)))
set_option maxHeartbeats 8000000 in
set_option maxRecDepth 100000 in
theorem chord_wide.calls (a0 : Int) (a1 : Bool) (r : Int) (w : World) (hE : Aside0 (LaidE w)) (h : chord_wide.f a0 a1 = some r) :
  Calls Tryd.prog 25 #[.int .i64 a0, .bool a1] w fun e w' => e = .returned (.int .i64 r) ∧ Below w.heap.size w w' := by
 have hu46 := Tryd.underlying46
 have HB := sd_ (Below.refl w.heap.size w)
 have H : ((glyph_Extent.f a0 a1).bind fun bt149 => (some (wrap64 (bt149.2.2.1 - bt149.1)))) = some r := h
 clear h
 replace H := ob_ H
 obtain ⟨⟨t149, t150, t151, t152, t153⟩, A30, H⟩ := H
 replace H : (some (wrap64 (t151 - t149))) = some r := H
 have A3 := sd_ A30
 clear A30
 obtain rfl := Option.some.inj H
 go_enter Tryd.func25, Tryd.ntmps25
 go_wp2_with (first | ((with_reducible refine gate_callee (f := 28) rfl ?_); refine goesL_ (some 10) rfl rfl Tryd.func28 (by kernel_rfl) rfl #[.int .i64 a0, .bool a1] rfl (by (try simp only [lm_, lq_, lx_]); first | done | rfl | (simp only [ld_, lt_]; rfl)) ?_; (with_reducible refine (glyph_Extent.calls a0 a1 t149 t150 t151 t152 t153 _ ?side1 A3.out).mono ?_); (case side1 => first | (with_reducible exact hE) | exact sd_ (LaidE.below hE.out (bb_ HB.out e0_))); rintro e w4 ⟨rfl, hb⟩; refine ⟨_, rfl, ?_⟩; replace HB := hb_ HB e0_ hb; (try clear hb); (try clear hb2); (try clear hk); (try clear hi)) | ((with_reducible refine gate_dst (N := 5) rfl ?_); refine box_event ?hg (N := 5) ?hd (cs := #[.int .i64 0, .int .i64 0, .int .i64 0, .int .i64 0]) (t := 46) ?hr ?_; (case hd => rfl); (case hg => rfl); (case hr => first | (go_simp; done) | (go_simp; rfl)); intro gb154 hg w5 hbox hb; have BK154 := sd_ hbox; have GW154 := gw_ HB e0_ hg; have GE154 := GW154; replace HB := hb_ HB e0_ hb; clear hb hbox hg; have hcz6_0 : w5.cell? ⟨gb154, 0, none⟩ = some (.int .i64 0) := (kc_ BK154.out 0).trans rfl; have hcz6_1 : w5.cell? ⟨gb154, 1, none⟩ = some (.int .i64 0) := (kc_ BK154.out 1).trans rfl; have hcz6_2 : w5.cell? ⟨gb154, 2, none⟩ = some (.int .i64 0) := (kc_ BK154.out 2).trans rfl; have hcz6_3 : w5.cell? ⟨gb154, 3, none⟩ = some (.int .i64 0) := (kc_ BK154.out 3).trans rfl; have hfz6_0 := kf_ BK154.out 0; have hfz6_1 := kf_ BK154.out 1; have hfz6_2 := kf_ BK154.out 2; have hfz6_3 := kf_ BK154.out 3))
 go_ret
 exact ⟨by first | rfl | (simp [errW_none, errW_some] <;> rfl) | (simp [*, errW_none, errW_some] <;> rfl), by repeat (first | (with_reducible first | exact HB.out | apply ba_ | apply pd_ | apply d1_ | refine bs_ ?_ GE154.out) | exact HB.out)⟩

end Go.Proofs.YtcokemaiploejaaDoor.P
