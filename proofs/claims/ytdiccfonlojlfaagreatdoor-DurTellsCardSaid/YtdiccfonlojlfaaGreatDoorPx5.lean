-- Written by a program of this session (wip/tools/xprint.py, over the kit's print): Lean checks it.
import Derived.Test.YtdiccfonlojlfaaGreatDoorPx0
import Derived.Test.YtdiccfonlojlfaaGreatDoorPx3
import Derived.Test.YtdiccfonlojlfaaGreatDoorPx4
namespace Go.Proofs.YtdiccfonlojlfaaGreatDoor.P
open Go.RowKit Go.Proofs.YtdiccfonlojlfaaGreatDoorW.PrintWords Go.Proofs.YtdiccfonlojlfaaGreatDoorW.PrintLast Go.Proofs.YtdiccfonlojlfaaGreatDoorW.PrintMore
attribute [local go_sem] max2_int min2_int max_two min_two max_three min_three max_four min_four   -- for this text's walks alone
set_option linter.unusedVariables false
set_option linter.unusedSimpArgs false

/-! ### dur_longestIn: function 45 -/
def dur_longestIn.l0 : Nat → Int → Int → Int → Option (Int × Int × Int × Int × Bool)
 | 0, _, _, _ => none
 | k + 1, x5, x168000, x168001 => if x5 ≤ 6 then ((dur_Value.f k x5 0).bind fun bt171 => ((rat_Cmp.f k bt171.1 bt171.2.1 x168000 x168001).bind fun t175 => (if t175 ≤ 0 then (some (x5, 0, bt171.1, bt171.2.1, true)) else (dur_longestIn.l0 k (wrap64 (x5 + 1)) x168000 x168001)))) else (some (0, 0, 0, 0, false))
def dur_longestIn.f (k : Nat) (a0_0 : Int) (a0_1 : Int) : Option (Int × Int × Int × Int × Bool) := dur_longestIn.l0 k (-1) a0_0 a0_1
theorem dur_longestIn.mono_l : ∀ k, (∀ y0 y1 y2, LeO (dur_longestIn.l0 k y0 y1 y2) (dur_longestIn.l0 (k + 1) y0 y1 y2))
 | 0 => fun _ _ _ r h => by simp [dur_longestIn.l0] at h
 | k + 1 => by
  have ih0 := dur_longestIn.mono_l k
  ·intro y0 y1 y2
   unfold dur_longestIn.l0
   repeat' first
   | (with_reducible exact ih0 _ _ _)
   | (with_reducible exact dur_Value.mono _ _ _)
   | (with_reducible exact rat_Cmp.mono _ _ _ _ _)
   | (with_reducible exact LeO.refl _)
   | (with_reducible exact LeO.none _)
   | (with_reducible refine LeO.ite ?_ ?_)
   | (with_reducible refine LeO.bind ?_ (fun _ => ?_))
   | exact ih0 _ _ _
   | exact dur_Value.mono _ _ _
   | exact rat_Cmp.mono _ _ _ _ _
   | exact LeO.none _
   | refine LeO.ite ?_ ?_
   | refine LeO.bind ?_ (fun _ => ?_)
theorem dur_longestIn.mono : ∀ a0 a1 k, LeO (dur_longestIn.f k a0 a1) (dur_longestIn.f (k + 1) a0 a1) := by
 intro a0 a1 k
 have ih0 := dur_longestIn.mono_l k
 unfold dur_longestIn.f
 repeat' first
   | (with_reducible exact ih0 _ _ _)
   | (with_reducible exact dur_Value.mono _ _ _)
   | (with_reducible exact rat_Cmp.mono _ _ _ _ _)
   | (with_reducible exact LeO.refl _)
   | (with_reducible exact LeO.none _)
   | (with_reducible refine LeO.ite ?_ ?_)
   | (with_reducible refine LeO.bind ?_ (fun _ => ?_))
   | exact ih0 _ _ _
   | exact dur_Value.mono _ _ _
   | exact rat_Cmp.mono _ _ _ _ _
   | exact LeO.none _
   | refine LeO.ite ?_ ?_
   | refine LeO.bind ?_ (fun _ => ?_)
set_option maxHeartbeats 8000000 in
set_option maxRecDepth 100000 in
theorem dur_longestIn.calls (k : Nat) (a0_0 : Int) (a0_1 : Int) (r1 : Int) (r2 : Int) (r3 : Int) (r4 : Int) (r5 : Bool) (w : World) (hE : Aside0 (LaidE w)) (h : dur_longestIn.f k a0_0 a0_1 = some (r1, r2, r3, r4, r5)) :
  Calls Tryz.prog 45 #[.agg #[.int .i64 a0_0, .int .i64 a0_1]] w fun e w' => e = .returned (.tuple #[.agg #[.int .i64 r1, .int .i64 r2], .agg #[.int .i64 r3, .int .i64 r4], .bool r5]) ∧ Below w.heap.size w w' := by
 have hu25 := Tryz.underlying25
 have hu23 := Tryz.underlying23
 have HB := sd_ (Below.refl w.heap.size w)
 have H : (dur_longestIn.l0 k (-1) a0_0 a0_1) = some (r1, r2, r3, r4, r5) := h
 clear h
 have H' := sd_ H
 clear H
 go_enter Tryz.func45, Tryz.ntmps45
 go_wp2_with (first | ((with_reducible refine gate_dst (N := 1) rfl ?_); refine box_event ?hg (N := 1) ?hd (cs := #[.int .i64 a0_0, .int .i64 a0_1]) (t := 25) ?hr ?_; (case hd => rfl); (case hg => rfl); (case hr => first | (go_simp; done) | (go_simp; rfl)); intro gb167 hg w2 hbox hb; have BK167 := sd_ hbox; have GW167 := gw_ HB e0_ hg; have GE167 := GW167; replace HB := hb_ HB e0_ hb; clear hb hbox hg) | ((with_reducible refine gate_dst (N := 2) rfl ?_); refine box_event ?hg (N := 2) ?hd (cs := #[.int .i64 0, .int .i64 0]) (t := 23) ?hr ?_; (case hd => rfl); (case hg => rfl); (case hr => first | (go_simp; done) | (go_simp; rfl)); intro gb168 hg w3 hbox hb; have BK168 := sd_ hbox; have GW168 := gw_ HB (e_ GE167 e0_) hg; have GE168 := GW168; have NB167_168 := nb_ BK167 hg; have NB168_167 := sy_ NB167_168; replace BK167 := kb_ BK167 hb; replace HB := hb_ HB (e_ GE167 e0_) hb; clear hb hbox hg) | ((with_reducible refine gate_dst (N := 3) rfl ?_); refine box_event ?hg (N := 3) ?hd (cs := #[.int .i64 0, .int .i64 0]) (t := 25) ?hr ?_; (case hd => rfl); (case hg => rfl); (case hr => first | (go_simp; done) | (go_simp; rfl)); intro gb169 hg w4 hbox hb; have BK169 := sd_ hbox; have GW169 := gw_ HB (e_ GE167 (e_ GE168 e0_)) hg; have GE169 := GW169; have NB167_169 := nb_ BK167 hg; have NB169_167 := sy_ NB167_169; have NB168_169 := nb_ BK168 hg; have NB169_168 := sy_ NB168_169; replace BK167 := kb_ BK167 hb; replace BK168 := kb_ BK168 hb; replace HB := hb_ HB (e_ GE167 (e_ GE168 e0_)) hb; clear hb hbox hg))
 go_loopg [5] k (fun kq v5 w' => ∃ (x5_1 : Int) (x169000_1 : Int) (x169001_1 : Int) (x170000_1 : Int) (x170001_1 : Int), v5 = .int .i64 x5_1 ∧ Aside0 (dur_longestIn.l0 kq x5_1 a0_0 a0_1 = some (r1, r2, r3, r4, r5)) ∧ Aside0 (kq ≤ k) ∧ Aside0 (w'.heap[gb167]? = some (.cells #[.int .i64 a0_0, .int .i64 a0_1] 25 (0, 0))) ∧ Aside0 (w'.heap[gb168]? = some (.cells #[.int .i64 x169000_1, .int .i64 x169001_1] 23 (0, 0))) ∧ Aside0 (w'.heap[gb169]? = some (.cells #[.int .i64 x170000_1, .int .i64 x170001_1] 25 (0, 0))) ∧ Aside0 (Below w.heap.size w w'))
 case atStart => exact ⟨((-1)), (0), (0), (0), (0), (by first | rfl | (simp; done) | (simp [*]; done) | (simp [bne]; done)), H', ⟨Nat.le_refl _⟩, ⟨by (with_reducible repeat first | apply kn_ | apply kd_ | apply ka_); exact BK167.out⟩, ⟨by (with_reducible repeat first | apply kn_ | apply kd_ | apply ka_); exact BK168.out⟩, ⟨by (with_reducible repeat first | apply kn_ | apply kd_ | apply ka_); exact BK169.out⟩, ⟨by repeat (first | (with_reducible first | exact HB.out | apply ba_ | apply pd_ | apply d1_ | refine bs_ ?_ GE167.out | refine bs_ ?_ GE168.out | refine bs_ ?_ GE169.out) | exact HB.out)⟩⟩
 case round =>
  clear H'
  try clear p2; try clear c4
  obtain ⟨x5_1, x169000_1, x169001_1, x170000_1, x170001_1, rfl, HA, HK1, BK167, BK168, BK169, HB⟩ := hrel
  cases gk with
  | zero => exact absurd HA.out (by simp [dur_longestIn.l0])
  | succ k1 =>
   have H := HA.out
   clear HA
   simp only [dur_longestIn.l0] at H
   by_cases c5 : x5_1 ≤ 6
   ·rw [if_pos c5] at H
    have c5b0 : decide (x5_1 ≤ 6) = true := dt_ c5
    clear c5
    replace H := ob_ H
    obtain ⟨⟨t171, t172, t173⟩, A60, H⟩ := H
    replace H : ((rat_Cmp.f k1 t171 t172 a0_0 a0_1).bind fun t175 => (if t175 ≤ 0 then (some (x5_1, 0, t171, t172, true)) else (dur_longestIn.l0 k1 (wrap64 (x5_1 + 1)) a0_0 a0_1))) = some (r1, r2, r3, r4, r5) := H
    have A6 := sd_ A60
    clear A60
    replace H := ob_ H
    obtain ⟨t175, A70, H⟩ := H
    replace H : (if t175 ≤ 0 then (some (x5_1, 0, t171, t172, true)) else (dur_longestIn.l0 k1 (wrap64 (x5_1 + 1)) a0_0 a0_1)) = some (r1, r2, r3, r4, r5) := H
    have A7 := sd_ A70
    clear A70
    by_cases c8 : t175 ≤ 0
    ·rw [if_pos c8] at H
     have c8b0 : decide (t175 ≤ 0) = true := dt_ c8
     clear c8
     simp only [Option.some.injEq, Prod.mk.injEq] at H
     obtain ⟨rfl, rfl, rfl, rfl, rfl⟩ := H
     try go_wp2_with (first | ((with_reducible refine gate_dst (N := 6) rfl ?_); refine box_event ?hg (N := 6) ?hd (cs := #[.int .i64 0, .int .i64 0]) (t := 23) ?hr ?_; (case hd => rfl); (case hg => rfl); (case hr => first | (go_simp; done) | (go_simp; rfl)); intro gb170 hg w9 hbox hb; have BK170 := sd_ hbox; have GW170 := gw_ HB (e_ GE167 (e_ GE168 (e_ GE169 e0_))) hg; have GE170 := GW170; have NB167_170 := nb_ BK167 hg; have NB170_167 := sy_ NB167_170; have NB168_170 := nb_ BK168 hg; have NB170_168 := sy_ NB168_170; have NB169_170 := nb_ BK169 hg; have NB170_169 := sy_ NB169_170; replace BK167 := kb_ BK167 hb; replace BK168 := kb_ BK168 hb; replace BK169 := kb_ BK169 hb; replace HB := hb_ HB (e_ GE167 (e_ GE168 (e_ GE169 e0_))) hb; clear hb hbox hg; have hnb10 := NB170_167.out; have hnc10 := NB167_170.out; have hnb11 := NB170_168.out; have hnc11 := NB168_170.out; have hnb12 := NB170_169.out; have hnc12 := NB169_170.out; have hcz13_0 : w9.cell? ⟨gb170, 0, none⟩ = some (.int .i64 0) := (kc_ BK170.out 0).trans rfl; have hcz13_1 : w9.cell? ⟨gb170, 1, none⟩ = some (.int .i64 0) := (kc_ BK170.out 1).trans rfl; have hfz13_0 := kf_ BK170.out 0; have hfz13_1 := kf_ BK170.out 1) | ((with_reducible refine gate_callee (f := 6) rfl ?_); refine goesL_ (some 17) rfl rfl Tryz.func6 (by kernel_rfl) rfl #[.agg #[.int .i64 x5_1, .int .i64 0]] rfl (by (try simp only [lm_, lq_, lx_]); first | done | rfl | (simp only [ld_, lt_]; rfl)) ?_; (with_reducible refine (dur_Value.calls k1 x5_1 0 t171 t172 t173 _ ?side1 A6.out).mono ?_); (case side1 => first | (with_reducible exact hE) | exact sd_ (LaidE.below hE.out (bb_ HB.out (e_ GE167 (e_ GE168 (e_ GE169 (e_ GE170 e0_))))))); rintro e w14 ⟨rfl, hb⟩; refine ⟨_, rfl, ?_⟩; replace BK167 := sd_ (blk_below (g := gb167) (o := .cells #[.int .i64 a0_0, .int .i64 a0_1] 25 (0, 0)) (by (with_reducible repeat first | apply kn_ | apply kd_ | apply ka_); refine blk_far ?_ NB167_170.out _; (with_reducible repeat first | apply kn_ | apply kd_ | apply ka_); refine blk_far ?_ NB167_170.out _; (with_reducible repeat first | apply kn_ | apply kd_ | apply ka_); exact BK167.out) hb); replace BK168 := sd_ (blk_below (g := gb168) (o := .cells #[.int .i64 x169000_1, .int .i64 x169001_1] 23 (0, 0)) (by (with_reducible repeat first | apply kn_ | apply kd_ | apply ka_); refine blk_far ?_ NB168_170.out _; (with_reducible repeat first | apply kn_ | apply kd_ | apply ka_); refine blk_far ?_ NB168_170.out _; (with_reducible repeat first | apply kn_ | apply kd_ | apply ka_); exact BK168.out) hb); replace BK169 := sd_ (blk_below (g := gb169) (o := .cells #[.int .i64 x170000_1, .int .i64 x170001_1] 25 (0, 0)) (by (with_reducible repeat first | apply kn_ | apply kd_ | apply ka_); refine blk_far ?_ NB169_170.out _; (with_reducible repeat first | apply kn_ | apply kd_ | apply ka_); refine blk_far ?_ NB169_170.out _; (with_reducible repeat first | apply kn_ | apply kd_ | apply ka_); exact BK169.out) hb); replace BK170 := sd_ (blk_below (g := gb170) (o := .cells #[.int .i64 x5_1, .int .i64 0] 23 (0, 0)) (by (with_reducible repeat first | apply kn_ | apply kd_ | apply ka_); refine blk_put (cs := #[.int .i64 x5_1, .int .i64 0]) ?_ 1 _ rfl; (with_reducible repeat first | apply kn_ | apply kd_ | apply ka_); refine blk_put (cs := #[.int .i64 0, .int .i64 0]) ?_ 0 _ rfl; (with_reducible repeat first | apply kn_ | apply kd_ | apply ka_); exact BK170.out) hb); replace HB := hb_ HB (e_ GE167 (e_ GE168 (e_ GE169 (e_ GE170 e0_)))) hb; (try clear hb); (try clear hb2); (try clear hk); (try clear hi)) | ((with_reducible refine gate_dst (N := 7) rfl ?_); refine box_event ?hg (N := 7) ?hd (cs := #[.int .i64 0, .int .i64 0]) (t := 25) ?hr ?_; (case hd => rfl); (case hg => rfl); (case hr => first | (go_simp; done) | (go_simp; rfl)); intro gb174 hg w15 hbox hb; have BK174 := sd_ hbox; have GW174 := gw_ HB (e_ GE167 (e_ GE168 (e_ GE169 (e_ GE170 e0_)))) hg; have GE174 := GW174; have NB167_174 := nb_ BK167 hg; have NB174_167 := sy_ NB167_174; have NB168_174 := nb_ BK168 hg; have NB174_168 := sy_ NB168_174; have NB169_174 := nb_ BK169 hg; have NB174_169 := sy_ NB169_174; have NB170_174 := nb_ BK170 hg; have NB174_170 := sy_ NB170_174; replace BK167 := kb_ BK167 hb; replace BK168 := kb_ BK168 hb; replace BK169 := kb_ BK169 hb; replace BK170 := kb_ BK170 hb; replace HB := hb_ HB (e_ GE167 (e_ GE168 (e_ GE169 (e_ GE170 e0_)))) hb; clear hb hbox hg; have hnb16 := NB174_167.out; have hnc16 := NB167_174.out; have hnb17 := NB174_168.out; have hnc17 := NB168_174.out; have hnb18 := NB174_169.out; have hnc18 := NB169_174.out; have hnb19 := NB174_170.out; have hnc19 := NB170_174.out; have hcz20_0 : w15.cell? ⟨gb174, 0, none⟩ = some (.int .i64 0) := (kc_ BK174.out 0).trans rfl; have hcz20_1 : w15.cell? ⟨gb174, 1, none⟩ = some (.int .i64 0) := (kc_ BK174.out 1).trans rfl; have hfz20_0 := kf_ BK174.out 0; have hfz20_1 := kf_ BK174.out 1; have hnb21 := NB167_168.out; have hnc21 := NB168_167.out; have hnb22 := NB167_169.out; have hnc22 := NB169_167.out; have hcz23_0 : w15.cell? ⟨gb167, 0, none⟩ = some (.int .i64 a0_0) := (kc_ BK167.out 0).trans rfl; have hcz23_1 : w15.cell? ⟨gb167, 1, none⟩ = some (.int .i64 a0_1) := (kc_ BK167.out 1).trans rfl; have hfz23_0 := kf_ BK167.out 0; have hfz23_1 := kf_ BK167.out 1) | ((with_reducible refine gate_callee (f := 52) rfl ?_); refine goesL_ (some 22) rfl rfl Tryz.func52 (by kernel_rfl) rfl #[.agg #[.int .i64 t171, .int .i64 t172], .agg #[.int .i64 a0_0, .int .i64 a0_1]] rfl (by (try simp only [lm_, lq_, lx_]); first | done | rfl | (simp only [ld_, lt_]; rfl)) ?_; (with_reducible refine (rat_Cmp.calls k1 t171 t172 a0_0 a0_1 t175 _ A7.out).mono ?_); rintro e w24 ⟨rfl, hb⟩; refine ⟨_, rfl, ?_⟩; replace BK167 := sd_ (blk_below (g := gb167) (o := .cells #[.int .i64 a0_0, .int .i64 a0_1] 25 (0, 0)) (by (with_reducible repeat first | apply kn_ | apply kd_ | apply ka_); refine blk_far ?_ NB167_174.out _; (with_reducible repeat first | apply kn_ | apply kd_ | apply ka_); refine blk_far ?_ NB167_174.out _; (with_reducible repeat first | apply kn_ | apply kd_ | apply ka_); exact BK167.out) hb); replace BK168 := sd_ (blk_below (g := gb168) (o := .cells #[.int .i64 x169000_1, .int .i64 x169001_1] 23 (0, 0)) (by (with_reducible repeat first | apply kn_ | apply kd_ | apply ka_); refine blk_far ?_ NB168_174.out _; (with_reducible repeat first | apply kn_ | apply kd_ | apply ka_); refine blk_far ?_ NB168_174.out _; (with_reducible repeat first | apply kn_ | apply kd_ | apply ka_); exact BK168.out) hb); replace BK169 := sd_ (blk_below (g := gb169) (o := .cells #[.int .i64 x170000_1, .int .i64 x170001_1] 25 (0, 0)) (by (with_reducible repeat first | apply kn_ | apply kd_ | apply ka_); refine blk_far ?_ NB169_174.out _; (with_reducible repeat first | apply kn_ | apply kd_ | apply ka_); refine blk_far ?_ NB169_174.out _; (with_reducible repeat first | apply kn_ | apply kd_ | apply ka_); exact BK169.out) hb); replace BK170 := sd_ (blk_below (g := gb170) (o := .cells #[.int .i64 x5_1, .int .i64 0] 23 (0, 0)) (by (with_reducible repeat first | apply kn_ | apply kd_ | apply ka_); refine blk_far ?_ NB170_174.out _; (with_reducible repeat first | apply kn_ | apply kd_ | apply ka_); refine blk_far ?_ NB170_174.out _; (with_reducible repeat first | apply kn_ | apply kd_ | apply ka_); exact BK170.out) hb); replace BK174 := sd_ (blk_below (g := gb174) (o := .cells #[.int .i64 t171, .int .i64 t172] 25 (0, 0)) (by (with_reducible repeat first | apply kn_ | apply kd_ | apply ka_); refine blk_put (cs := #[.int .i64 t171, .int .i64 0]) ?_ 1 _ rfl; (with_reducible repeat first | apply kn_ | apply kd_ | apply ka_); refine blk_put (cs := #[.int .i64 0, .int .i64 0]) ?_ 0 _ rfl; (with_reducible repeat first | apply kn_ | apply kd_ | apply ka_); exact BK174.out) hb); replace HB := hb_ HB (e_ GE167 (e_ GE168 (e_ GE169 (e_ GE170 (e_ GE174 e0_))))) hb; (try clear hb); (try clear hb2); (try clear hk); (try clear hi)))
     replace BK167 := sd_ (kd_ BK167.out)
     replace BK168 := sd_ (kd_ BK168.out)
     replace BK169 := sd_ (kd_ BK169.out)
     replace BK170 := sd_ (kd_ BK170.out)
     replace BK174 := sd_ (kd_ BK174.out)
     replace HB := sd_ (d1_ HB.out)
     refine start_ (n := 5) (S := fun w' => w'.cell? ⟨gb170, 0, none⟩ = some (.int .i64 x5_1) ∧ w'.cell? ⟨gb170, 1, none⟩ = some (.int .i64 0) ∧ w'.cell? ⟨gb174, 0, none⟩ = some (.int .i64 t171) ∧ w'.cell? ⟨gb174, 1, none⟩ = some (.int .i64 t172)) (ds := []) (Array.replicate 5 false) (by kernel_rfl) rfl rfl ⟨(kc_ BK170.out 0).trans rfl, (kc_ BK170.out 1).trans rfl, (kc_ BK174.out 0).trans rfl, (kc_ BK174.out 1).trans rfl⟩ (fun hHeld => ?_)
     generalize w24.drew = w25 at BK167 BK168 BK169 BK170 BK174 HB hHeld ⊢
     refine take_ (i := 0) (N := some 24) (v := ?_) (a' := ?_) (bz 5 1) rfl rfl (by kernel_rfl) (fun _ _ _ h => h) (Or.inl ⟨by rfl, ?_⟩) hHeld ?_ ?_
     rotate_left
     ·rintro w' ⟨s0, s1, s2, s3⟩
      go_simp
      with_reducible rfl
     rotate_left
     ·simp only [Act.put, ls_, lz_, lc_, i64_w, i32_w]
      rfl
     refine take_ (i := 1) (N := some 25) (v := ?_) (a' := ?_) (bz 5 3) rfl rfl (by kernel_rfl) (fun _ _ _ h => h) (Or.inl ⟨by rfl, ?_⟩) hHeld ?_ ?_
     rotate_left
     ·rintro w' ⟨s0, s1, s2, s3⟩
      go_simp
      with_reducible rfl
     rotate_left
     ·simp only [Act.put, ls_, lz_, lc_, i64_w, i32_w]
      rfl
     refine one_ (i := 2) (N := none) (bz 5 7) rfl rfl (by kernel_rfl) (by decide) (fun K hK => ?_)
     have hs26 : w25.cell? ⟨gb168, 0, none⟩ = some (.int .i64 x169000_1) := (kc_ BK168.out 0).trans rfl
     have hfs26 := kf_ BK168.out 0
     have hns26_0 := NB167_168.out
     have hns26_2 := NB169_168.out
     have hns26_3 := NB170_168.out
     have hns26_4 := NB174_168.out
     have hms26_0 := NB168_167.out
     have hms26_2 := NB168_169.out
     have hms26_3 := NB168_170.out
     have hms26_4 := NB168_174.out
     have hs27 : w25.cell? ⟨gb168, 1, none⟩ = some (.int .i64 x169001_1) := (kc_ BK168.out 1).trans rfl
     have hfs27 := kf_ BK168.out 1
     have hns27_0 := NB167_168.out
     have hns27_2 := NB169_168.out
     have hns27_3 := NB170_168.out
     have hns27_4 := NB174_168.out
     have hms27_0 := NB168_167.out
     have hms27_2 := NB168_169.out
     have hms27_3 := NB168_170.out
     have hms27_4 := NB168_174.out
     refine skip_ (w1 := ?_) (by rfl) rfl ?_ ?_
     rotate_left
     ·go_simp
      rfl
     refine hK.out _ _ ⟨((cell_far (p := ⟨gb168, _, none⟩) NB170_168.out _).trans (((cell_far (p := ⟨gb168, _, none⟩) NB170_168.out _).trans (hHeld.1)))), ((cell_far (p := ⟨gb168, _, none⟩) NB170_168.out _).trans (((cell_far (p := ⟨gb168, _, none⟩) NB170_168.out _).trans (hHeld.2.1)))), ((cell_far (p := ⟨gb168, _, none⟩) NB174_168.out _).trans (((cell_far (p := ⟨gb168, _, none⟩) NB174_168.out _).trans (hHeld.2.2.1)))), ((cell_far (p := ⟨gb168, _, none⟩) NB174_168.out _).trans (((cell_far (p := ⟨gb168, _, none⟩) NB174_168.out _).trans (hHeld.2.2.2))))⟩ (fun hHeld => ?_)
     clear hK K
     refine one_ (i := 3) (N := none) (bz 5 15) rfl rfl (by kernel_rfl) (by decide) (fun K hK => ?_)
     have hs28 : w25.cell? ⟨gb169, 0, none⟩ = some (.int .i64 x170000_1) := (kc_ BK169.out 0).trans rfl
     have hfs28 := kf_ BK169.out 0
     have hns28_0 := NB167_169.out
     have hns28_1 := NB168_169.out
     have hns28_3 := NB170_169.out
     have hns28_4 := NB174_169.out
     have hms28_0 := NB169_167.out
     have hms28_1 := NB169_168.out
     have hms28_3 := NB169_170.out
     have hms28_4 := NB169_174.out
     have hs29 : w25.cell? ⟨gb169, 1, none⟩ = some (.int .i64 x170001_1) := (kc_ BK169.out 1).trans rfl
     have hfs29 := kf_ BK169.out 1
     have hns29_0 := NB167_169.out
     have hns29_1 := NB168_169.out
     have hns29_3 := NB170_169.out
     have hns29_4 := NB174_169.out
     have hms29_0 := NB169_167.out
     have hms29_1 := NB169_168.out
     have hms29_3 := NB169_170.out
     have hms29_4 := NB169_174.out
     refine skip_ (w1 := ?_) (by rfl) rfl ?_ ?_
     rotate_left
     ·go_simp
      rfl
     refine hK.out _ _ ⟨((cell_far (p := ⟨gb169, _, none⟩) NB170_169.out _).trans (((cell_far (p := ⟨gb169, _, none⟩) NB170_169.out _).trans (hHeld.1)))), ((cell_far (p := ⟨gb169, _, none⟩) NB170_169.out _).trans (((cell_far (p := ⟨gb169, _, none⟩) NB170_169.out _).trans (hHeld.2.1)))), ((cell_far (p := ⟨gb169, _, none⟩) NB174_169.out _).trans (((cell_far (p := ⟨gb169, _, none⟩) NB174_169.out _).trans (hHeld.2.2.1)))), ((cell_far (p := ⟨gb169, _, none⟩) NB174_169.out _).trans (((cell_far (p := ⟨gb169, _, none⟩) NB174_169.out _).trans (hHeld.2.2.2))))⟩ (fun hHeld => ?_)
     clear hK K
     refine pure_ (i := 4) (N := some 4) (v := ?_) (a' := ?_) (bz 5 31) rfl rfl (by kernel_rfl) (fun _ _ _ h => h) (Or.inl ⟨by rfl, ?_⟩) ?_ ?_
     rotate_left; (intro w'; go_simp; with_reducible rfl); rotate_left; (simp only [Act.put, ls_, lz_, lc_, i64_w, i32_w]; rfl)
     refine done_ (by kernel_rfl) ?_
     try go_wp2
     refine bodyPost_ret (results_list (rs := [.cell 2 23, .cell 3 25, .tmp 4]) rfl (by simp) (.cell gb168 23 #[.int .i64 x5_1, .int .i64 0] (0, 0) _ rfl (by (with_reducible repeat first | apply kn_ | apply kd_ | apply ka_); refine blk_far ?_ NB168_169.out _; (with_reducible repeat first | apply kn_ | apply kd_ | apply ka_); refine blk_far ?_ NB168_169.out _; (with_reducible repeat first | apply kn_ | apply kd_ | apply ka_); refine blk_put (cs := #[.int .i64 x5_1, .int .i64 x169001_1]) ?_ 1 _ rfl; (with_reducible repeat first | apply kn_ | apply kd_ | apply ka_); refine blk_put (cs := #[.int .i64 x169000_1, .int .i64 x169001_1]) ?_ 0 _ rfl; (with_reducible repeat first | apply kn_ | apply kd_ | apply ka_); exact BK168.out) Tryz.underlying23 rfl (by kernel_rfl) (.cell gb169 25 #[.int .i64 t171, .int .i64 t172] (0, 0) _ rfl (by (with_reducible repeat first | apply kn_ | apply kd_ | apply ka_); refine blk_put (cs := #[.int .i64 t171, .int .i64 x170001_1]) ?_ 1 _ rfl; (with_reducible repeat first | apply kn_ | apply kd_ | apply ka_); refine blk_put (cs := #[.int .i64 x170000_1, .int .i64 x170001_1]) ?_ 0 _ rfl; (with_reducible repeat first | apply kn_ | apply kd_ | apply ka_); refine blk_far ?_ NB169_168.out _; (with_reducible repeat first | apply kn_ | apply kd_ | apply ka_); refine blk_far ?_ NB169_168.out _; (with_reducible repeat first | apply kn_ | apply kd_ | apply ka_); exact BK169.out) Tryz.underlying25 rfl (by kernel_rfl) (.tmp .nil)))) rfl ?_
     exact ⟨by first | rfl | (simp [errW_none, errW_some] <;> rfl) | (simp [*, errW_none, errW_some] <;> rfl), by repeat (first | (with_reducible first | exact HB.out | apply ba_ | apply pd_ | apply d1_ | refine bs_ ?_ GE167.out | refine bs_ ?_ GE168.out | refine bs_ ?_ GE169.out | refine bs_ ?_ GE170.out | refine bs_ ?_ GE174.out) | exact HB.out)⟩
    ·rw [if_neg c8] at H
     have c8b0 : decide (t175 ≤ 0) = false := df_ c8
     clear c8
     have H' := sd_ H
     clear H
     go_wp2_with (first | ((with_reducible refine gate_dst (N := 6) rfl ?_); refine box_event ?hg (N := 6) ?hd (cs := #[.int .i64 0, .int .i64 0]) (t := 23) ?hr ?_; (case hd => rfl); (case hg => rfl); (case hr => first | (go_simp; done) | (go_simp; rfl)); intro gb170 hg w30 hbox hb; have BK170 := sd_ hbox; have GW170 := gw_ HB (e_ GE167 (e_ GE168 (e_ GE169 e0_))) hg; have GE170 := GW170; have NB167_170 := nb_ BK167 hg; have NB170_167 := sy_ NB167_170; have NB168_170 := nb_ BK168 hg; have NB170_168 := sy_ NB168_170; have NB169_170 := nb_ BK169 hg; have NB170_169 := sy_ NB169_170; replace BK167 := kb_ BK167 hb; replace BK168 := kb_ BK168 hb; replace BK169 := kb_ BK169 hb; replace HB := hb_ HB (e_ GE167 (e_ GE168 (e_ GE169 e0_))) hb; clear hb hbox hg; have hnb31 := NB170_167.out; have hnc31 := NB167_170.out; have hnb32 := NB170_168.out; have hnc32 := NB168_170.out; have hnb33 := NB170_169.out; have hnc33 := NB169_170.out; have hcz34_0 : w30.cell? ⟨gb170, 0, none⟩ = some (.int .i64 0) := (kc_ BK170.out 0).trans rfl; have hcz34_1 : w30.cell? ⟨gb170, 1, none⟩ = some (.int .i64 0) := (kc_ BK170.out 1).trans rfl; have hfz34_0 := kf_ BK170.out 0; have hfz34_1 := kf_ BK170.out 1) | ((with_reducible refine gate_callee (f := 6) rfl ?_); refine goesL_ (some 17) rfl rfl Tryz.func6 (by kernel_rfl) rfl #[.agg #[.int .i64 x5_1, .int .i64 0]] rfl (by (try simp only [lm_, lq_, lx_]); first | done | rfl | (simp only [ld_, lt_]; rfl)) ?_; (with_reducible refine (dur_Value.calls k1 x5_1 0 t171 t172 t173 _ ?side1 A6.out).mono ?_); (case side1 => first | (with_reducible exact hE) | exact sd_ (LaidE.below hE.out (bb_ HB.out (e_ GE167 (e_ GE168 (e_ GE169 (e_ GE170 e0_))))))); rintro e w35 ⟨rfl, hb⟩; refine ⟨_, rfl, ?_⟩; replace BK167 := sd_ (blk_below (g := gb167) (o := .cells #[.int .i64 a0_0, .int .i64 a0_1] 25 (0, 0)) (by (with_reducible repeat first | apply kn_ | apply kd_ | apply ka_); refine blk_far ?_ NB167_170.out _; (with_reducible repeat first | apply kn_ | apply kd_ | apply ka_); refine blk_far ?_ NB167_170.out _; (with_reducible repeat first | apply kn_ | apply kd_ | apply ka_); exact BK167.out) hb); replace BK168 := sd_ (blk_below (g := gb168) (o := .cells #[.int .i64 x169000_1, .int .i64 x169001_1] 23 (0, 0)) (by (with_reducible repeat first | apply kn_ | apply kd_ | apply ka_); refine blk_far ?_ NB168_170.out _; (with_reducible repeat first | apply kn_ | apply kd_ | apply ka_); refine blk_far ?_ NB168_170.out _; (with_reducible repeat first | apply kn_ | apply kd_ | apply ka_); exact BK168.out) hb); replace BK169 := sd_ (blk_below (g := gb169) (o := .cells #[.int .i64 x170000_1, .int .i64 x170001_1] 25 (0, 0)) (by (with_reducible repeat first | apply kn_ | apply kd_ | apply ka_); refine blk_far ?_ NB169_170.out _; (with_reducible repeat first | apply kn_ | apply kd_ | apply ka_); refine blk_far ?_ NB169_170.out _; (with_reducible repeat first | apply kn_ | apply kd_ | apply ka_); exact BK169.out) hb); replace BK170 := sd_ (blk_below (g := gb170) (o := .cells #[.int .i64 x5_1, .int .i64 0] 23 (0, 0)) (by (with_reducible repeat first | apply kn_ | apply kd_ | apply ka_); refine blk_put (cs := #[.int .i64 x5_1, .int .i64 0]) ?_ 1 _ rfl; (with_reducible repeat first | apply kn_ | apply kd_ | apply ka_); refine blk_put (cs := #[.int .i64 0, .int .i64 0]) ?_ 0 _ rfl; (with_reducible repeat first | apply kn_ | apply kd_ | apply ka_); exact BK170.out) hb); replace HB := hb_ HB (e_ GE167 (e_ GE168 (e_ GE169 (e_ GE170 e0_)))) hb; (try clear hb); (try clear hb2); (try clear hk); (try clear hi)) | ((with_reducible refine gate_dst (N := 7) rfl ?_); refine box_event ?hg (N := 7) ?hd (cs := #[.int .i64 0, .int .i64 0]) (t := 25) ?hr ?_; (case hd => rfl); (case hg => rfl); (case hr => first | (go_simp; done) | (go_simp; rfl)); intro gb174 hg w36 hbox hb; have BK174 := sd_ hbox; have GW174 := gw_ HB (e_ GE167 (e_ GE168 (e_ GE169 (e_ GE170 e0_)))) hg; have GE174 := GW174; have NB167_174 := nb_ BK167 hg; have NB174_167 := sy_ NB167_174; have NB168_174 := nb_ BK168 hg; have NB174_168 := sy_ NB168_174; have NB169_174 := nb_ BK169 hg; have NB174_169 := sy_ NB169_174; have NB170_174 := nb_ BK170 hg; have NB174_170 := sy_ NB170_174; replace BK167 := kb_ BK167 hb; replace BK168 := kb_ BK168 hb; replace BK169 := kb_ BK169 hb; replace BK170 := kb_ BK170 hb; replace HB := hb_ HB (e_ GE167 (e_ GE168 (e_ GE169 (e_ GE170 e0_)))) hb; clear hb hbox hg; have hnb37 := NB174_167.out; have hnc37 := NB167_174.out; have hnb38 := NB174_168.out; have hnc38 := NB168_174.out; have hnb39 := NB174_169.out; have hnc39 := NB169_174.out; have hnb40 := NB174_170.out; have hnc40 := NB170_174.out; have hcz41_0 : w36.cell? ⟨gb174, 0, none⟩ = some (.int .i64 0) := (kc_ BK174.out 0).trans rfl; have hcz41_1 : w36.cell? ⟨gb174, 1, none⟩ = some (.int .i64 0) := (kc_ BK174.out 1).trans rfl; have hfz41_0 := kf_ BK174.out 0; have hfz41_1 := kf_ BK174.out 1; have hnb42 := NB167_168.out; have hnc42 := NB168_167.out; have hnb43 := NB167_169.out; have hnc43 := NB169_167.out; have hcz44_0 : w36.cell? ⟨gb167, 0, none⟩ = some (.int .i64 a0_0) := (kc_ BK167.out 0).trans rfl; have hcz44_1 : w36.cell? ⟨gb167, 1, none⟩ = some (.int .i64 a0_1) := (kc_ BK167.out 1).trans rfl; have hfz44_0 := kf_ BK167.out 0; have hfz44_1 := kf_ BK167.out 1) | ((with_reducible refine gate_callee (f := 52) rfl ?_); refine goesL_ (some 22) rfl rfl Tryz.func52 (by kernel_rfl) rfl #[.agg #[.int .i64 t171, .int .i64 t172], .agg #[.int .i64 a0_0, .int .i64 a0_1]] rfl (by (try simp only [lm_, lq_, lx_]); first | done | rfl | (simp only [ld_, lt_]; rfl)) ?_; (with_reducible refine (rat_Cmp.calls k1 t171 t172 a0_0 a0_1 t175 _ A7.out).mono ?_); rintro e w45 ⟨rfl, hb⟩; refine ⟨_, rfl, ?_⟩; replace BK167 := sd_ (blk_below (g := gb167) (o := .cells #[.int .i64 a0_0, .int .i64 a0_1] 25 (0, 0)) (by (with_reducible repeat first | apply kn_ | apply kd_ | apply ka_); refine blk_far ?_ NB167_174.out _; (with_reducible repeat first | apply kn_ | apply kd_ | apply ka_); refine blk_far ?_ NB167_174.out _; (with_reducible repeat first | apply kn_ | apply kd_ | apply ka_); exact BK167.out) hb); replace BK168 := sd_ (blk_below (g := gb168) (o := .cells #[.int .i64 x169000_1, .int .i64 x169001_1] 23 (0, 0)) (by (with_reducible repeat first | apply kn_ | apply kd_ | apply ka_); refine blk_far ?_ NB168_174.out _; (with_reducible repeat first | apply kn_ | apply kd_ | apply ka_); refine blk_far ?_ NB168_174.out _; (with_reducible repeat first | apply kn_ | apply kd_ | apply ka_); exact BK168.out) hb); replace BK169 := sd_ (blk_below (g := gb169) (o := .cells #[.int .i64 x170000_1, .int .i64 x170001_1] 25 (0, 0)) (by (with_reducible repeat first | apply kn_ | apply kd_ | apply ka_); refine blk_far ?_ NB169_174.out _; (with_reducible repeat first | apply kn_ | apply kd_ | apply ka_); refine blk_far ?_ NB169_174.out _; (with_reducible repeat first | apply kn_ | apply kd_ | apply ka_); exact BK169.out) hb); replace BK170 := sd_ (blk_below (g := gb170) (o := .cells #[.int .i64 x5_1, .int .i64 0] 23 (0, 0)) (by (with_reducible repeat first | apply kn_ | apply kd_ | apply ka_); refine blk_far ?_ NB170_174.out _; (with_reducible repeat first | apply kn_ | apply kd_ | apply ka_); refine blk_far ?_ NB170_174.out _; (with_reducible repeat first | apply kn_ | apply kd_ | apply ka_); exact BK170.out) hb); replace BK174 := sd_ (blk_below (g := gb174) (o := .cells #[.int .i64 t171, .int .i64 t172] 25 (0, 0)) (by (with_reducible repeat first | apply kn_ | apply kd_ | apply ka_); refine blk_put (cs := #[.int .i64 t171, .int .i64 0]) ?_ 1 _ rfl; (with_reducible repeat first | apply kn_ | apply kd_ | apply ka_); refine blk_put (cs := #[.int .i64 0, .int .i64 0]) ?_ 0 _ rfl; (with_reducible repeat first | apply kn_ | apply kd_ | apply ka_); exact BK174.out) hb); replace HB := hb_ HB (e_ GE167 (e_ GE168 (e_ GE169 (e_ GE170 (e_ GE174 e0_))))) hb; (try clear hb); (try clear hb2); (try clear hk); (try clear hi)))
     go_roundg k1
     case measure => have := HK1.out; omega
     case rel => exact ⟨(wrap64 (x5_1 + 1)), (x169000_1), (x169001_1), (x170000_1), (x170001_1), (by first | rfl | (simp; done) | (simp [*]; done) | (simp [bne]; done)), H', ⟨by have := HK1.out; omega⟩, ⟨by (with_reducible repeat first | apply kn_ | apply kd_ | apply ka_); exact BK167.out⟩, ⟨by (with_reducible repeat first | apply kn_ | apply kd_ | apply ka_); exact BK168.out⟩, ⟨by (with_reducible repeat first | apply kn_ | apply kd_ | apply ka_); exact BK169.out⟩, ⟨by repeat (first | (with_reducible first | exact HB.out | apply ba_ | apply pd_ | apply d1_ | refine bs_ ?_ GE167.out | refine bs_ ?_ GE168.out | refine bs_ ?_ GE169.out | refine bs_ ?_ GE170.out | refine bs_ ?_ GE174.out) | exact HB.out)⟩⟩
   ·rw [if_neg c5] at H
    have c5b0 : decide (x5_1 ≤ 6) = false := df_ c5
    clear c5
    simp only [Option.some.injEq, Prod.mk.injEq] at H
    obtain ⟨rfl, rfl, rfl, rfl, rfl⟩ := H
    have hnb46 := NB168_167.out
    have hnc46 := NB167_168.out
    have hnb47 := NB168_169.out
    have hnc47 := NB169_168.out
    have hcz48_0 : wr.cell? ⟨gb168, 0, none⟩ = some (.int .i64 x169000_1) := (kc_ BK168.out 0).trans rfl
    have hcz48_1 : wr.cell? ⟨gb168, 1, none⟩ = some (.int .i64 x169001_1) := (kc_ BK168.out 1).trans rfl
    have hfz48_0 := kf_ BK168.out 0
    have hfz48_1 := kf_ BK168.out 1
    have hnb49 := NB169_167.out
    have hnc49 := NB167_169.out
    have hcz50_0 : wr.cell? ⟨gb169, 0, none⟩ = some (.int .i64 x170000_1) := (kc_ BK169.out 0).trans rfl
    have hcz50_1 : wr.cell? ⟨gb169, 1, none⟩ = some (.int .i64 x170001_1) := (kc_ BK169.out 1).trans rfl
    have hfz50_0 := kf_ BK169.out 0
    have hfz50_1 := kf_ BK169.out 1
    go_wp2
    refine bodyPost_ret (results_list (rs := [.cell 2 23, .cell 3 25, .tmp 4]) rfl (by simp) (.cell gb168 23 #[.int .i64 0, .int .i64 0] (0, 0) _ rfl (by (with_reducible repeat first | apply kn_ | apply kd_ | apply ka_); refine blk_far ?_ NB168_169.out _; (with_reducible repeat first | apply kn_ | apply kd_ | apply ka_); refine blk_far ?_ NB168_169.out _; (with_reducible repeat first | apply kn_ | apply kd_ | apply ka_); refine blk_put (cs := #[.int .i64 0, .int .i64 x169001_1]) ?_ 1 _ rfl; (with_reducible repeat first | apply kn_ | apply kd_ | apply ka_); refine blk_put (cs := #[.int .i64 x169000_1, .int .i64 x169001_1]) ?_ 0 _ rfl; (with_reducible repeat first | apply kn_ | apply kd_ | apply ka_); exact BK168.out) Tryz.underlying23 rfl (by kernel_rfl) (.cell gb169 25 #[.int .i64 0, .int .i64 0] (0, 0) _ rfl (by (with_reducible repeat first | apply kn_ | apply kd_ | apply ka_); refine blk_put (cs := #[.int .i64 0, .int .i64 x170001_1]) ?_ 1 _ rfl; (with_reducible repeat first | apply kn_ | apply kd_ | apply ka_); refine blk_put (cs := #[.int .i64 x170000_1, .int .i64 x170001_1]) ?_ 0 _ rfl; (with_reducible repeat first | apply kn_ | apply kd_ | apply ka_); refine blk_far ?_ NB169_168.out _; (with_reducible repeat first | apply kn_ | apply kd_ | apply ka_); refine blk_far ?_ NB169_168.out _; (with_reducible repeat first | apply kn_ | apply kd_ | apply ka_); exact BK169.out) Tryz.underlying25 rfl (by kernel_rfl) (.tmp .nil)))) rfl ?_
    exact ⟨by first | rfl | (simp [errW_none, errW_some] <;> rfl) | (simp [*, errW_none, errW_some] <;> rfl), by repeat (first | (with_reducible first | exact HB.out | apply ba_ | apply pd_ | apply d1_ | refine bs_ ?_ GE167.out | refine bs_ ?_ GE168.out | refine bs_ ?_ GE169.out) | exact HB.out)⟩

/-! ### rat_Add: function 67 -/
def rat_Add.f (k : Nat) (a0_0 : Int) (a0_1 : Int) (a1_0 : Int) (a1_1 : Int) : Option (Int × Int × Int) := (rat_both.f k a0_0 a0_1 a1_0 a1_1).bind fun t179 => (if t179 = true then ((rat_common.f k a0_1 a1_1).bind fun t180 => (if t180 = 0 then (none) else ((rat_lowest.f k (wrap64 ((wrap64 (a0_0 * (wrap64 (Int.tdiv a1_1 t180)))) + (wrap64 (a1_0 * (wrap64 (Int.tdiv a0_1 t180)))))) (wrap64 ((wrap64 (Int.tdiv a0_1 t180)) * a1_1))).bind fun bt181 => (some (bt181.1, bt181.2.1, bt181.2.2))))) else ((rat_zero.f).bind fun bt184 => (some (bt184.1, bt184.2, 2))))
theorem rat_Add.mono : ∀ a0 a1 a2 a3 k, LeO (rat_Add.f k a0 a1 a2 a3) (rat_Add.f (k + 1) a0 a1 a2 a3) := by
 intro a0 a1 a2 a3 k
 unfold rat_Add.f
 repeat' first
   | (with_reducible exact rat_both.mono _ _ _ _ _)
   | (with_reducible exact rat_common.mono _ _ _)
   | (with_reducible exact rat_lowest.mono _ _ _)
   | (with_reducible exact LeO.refl _)
   | (with_reducible exact LeO.none _)
   | (with_reducible refine LeO.ite ?_ ?_)
   | (with_reducible refine LeO.bind ?_ (fun _ => ?_))
   | exact rat_both.mono _ _ _ _ _
   | exact rat_common.mono _ _ _
   | exact rat_lowest.mono _ _ _
   | exact LeO.none _
   | refine LeO.ite ?_ ?_
   | refine LeO.bind ?_ (fun _ => ?_)
def rat_Add.T4 : Bool × List (List Nat × List Nat) := (true, [([], []), ([0], [0]), ([], []), ([2], [2]), ([], []), ([3, 4], [3, 4]), ([1, 5], [1, 5]), ([], []), ([7], [7]), ([], []), ([9], [9]), ([], []), ([10, 11], [10, 11]), ([8, 12], [8, 12]), ([6, 13], [6, 13]), ([], []), ([15], [15]), ([], []), ([16, 17], [16, 17]), ([], []), ([19], [19]), ([18, 20], [18, 20]), ([14, 21], [14, 21]), ([22], [22]), ([22], [22]), ([23, 22, 0, 1, 2, 3, 4, 5, 6, 7, 8, 9, 10, 11, 12, 13, 14, 15, 16, 17, 18, 19, 20, 21, 22, 23, 24], [23]), ([24, 25, 0, 1, 2, 3, 4, 5, 6, 7, 8, 9, 10, 11, 12, 13, 14, 15, 16, 17, 18, 19, 20, 21, 22, 23, 24, 25], [24])])
def rat_Add.B4 : List Nat := [0, 1, 0, 4, 0, 28, 63, 0, 128, 0, 512, 0, 3584, 8064, 16383, 0, 32768, 0, 229376, 0, 524288, 2064384, 4194303, 8388607, 8388607, 33554431, 67108863]
theorem rat_Add.tab4 : rtab .any (opsOf Tryz.f67 4) = rat_Add.T4 := by kernel_rfl
theorem rat_Add.bits4 : waitsOk rat_Add.T4.2 rat_Add.B4 = true := by kernel_rfl
set_option maxHeartbeats 8000000 in
set_option maxRecDepth 100000 in
theorem rat_Add.calls (k : Nat) (a0_0 : Int) (a0_1 : Int) (a1_0 : Int) (a1_1 : Int) (r1 : Int) (r2 : Int) (r3 : Int) (w : World) (h : rat_Add.f k a0_0 a0_1 a1_0 a1_1 = some (r1, r2, r3)) :
  Calls Tryz.prog 67 #[.agg #[.int .i64 a0_0, .int .i64 a0_1], .agg #[.int .i64 a1_0, .int .i64 a1_1]] w fun e w' => e = .returned (.tuple #[.agg #[.int .i64 r1, .int .i64 r2], .int .i64 r3]) ∧ Below w.heap.size w w' := by
 have hu25 := Tryz.underlying25
 have HB := sd_ (Below.refl w.heap.size w)
 have H : ((rat_both.f k a0_0 a0_1 a1_0 a1_1).bind fun t179 => (if t179 = true then ((rat_common.f k a0_1 a1_1).bind fun t180 => (if t180 = 0 then (none) else ((rat_lowest.f k (wrap64 ((wrap64 (a0_0 * (wrap64 (Int.tdiv a1_1 t180)))) + (wrap64 (a1_0 * (wrap64 (Int.tdiv a0_1 t180)))))) (wrap64 ((wrap64 (Int.tdiv a0_1 t180)) * a1_1))).bind fun bt181 => (some (bt181.1, bt181.2.1, bt181.2.2))))) else ((rat_zero.f).bind fun bt184 => (some (bt184.1, bt184.2, 2))))) = some (r1, r2, r3) := h
 clear h
 replace H := ob_ H
 obtain ⟨t179, A30, H⟩ := H
 replace H : (if t179 = true then ((rat_common.f k a0_1 a1_1).bind fun t180 => (if t180 = 0 then (none) else ((rat_lowest.f k (wrap64 ((wrap64 (a0_0 * (wrap64 (Int.tdiv a1_1 t180)))) + (wrap64 (a1_0 * (wrap64 (Int.tdiv a0_1 t180)))))) (wrap64 ((wrap64 (Int.tdiv a0_1 t180)) * a1_1))).bind fun bt181 => (some (bt181.1, bt181.2.1, bt181.2.2))))) else ((rat_zero.f).bind fun bt184 => (some (bt184.1, bt184.2, 2)))) = some (r1, r2, r3) := H
 have A3 := sd_ A30
 clear A30
 by_cases c4 : t179 = true
 ·subst c4
  have H1 : ((rat_common.f k a0_1 a1_1).bind fun t180 => (if t180 = 0 then (none) else ((rat_lowest.f k (wrap64 ((wrap64 (a0_0 * (wrap64 (Int.tdiv a1_1 t180)))) + (wrap64 (a1_0 * (wrap64 (Int.tdiv a0_1 t180)))))) (wrap64 ((wrap64 (Int.tdiv a0_1 t180)) * a1_1))).bind fun bt181 => (some (bt181.1, bt181.2.1, bt181.2.2))))) = some (r1, r2, r3) := by rw [if_pos rfl] at H; exact H
  clear H; have H := H1; clear H1
  replace H := ob_ H
  obtain ⟨t180, A50, H⟩ := H
  replace H : (if t180 = 0 then (none) else ((rat_lowest.f k (wrap64 ((wrap64 (a0_0 * (wrap64 (Int.tdiv a1_1 t180)))) + (wrap64 (a1_0 * (wrap64 (Int.tdiv a0_1 t180)))))) (wrap64 ((wrap64 (Int.tdiv a0_1 t180)) * a1_1))).bind fun bt181 => (some (bt181.1, bt181.2.1, bt181.2.2)))) = some (r1, r2, r3) := H
  have A5 := sd_ A50
  clear A50
  by_cases c6 : t180 = 0
  ·rw [if_pos c6] at H
   exact absurd H (by simp)
  ·rw [if_neg c6] at H
   have c6b0 : (t180 == 0) = false := beq_eq_false_iff_ne.mpr c6
   have c6b1 : (t180 != 0) = true := bne_iff_ne.mpr c6
   replace H := ob_ H
   obtain ⟨⟨t181, t182, t183⟩, A70, H⟩ := H
   replace H : (some (t181, t182, t183)) = some (r1, r2, r3) := H
   have A7 := sd_ A70
   clear A70
   simp only [Option.some.injEq, Prod.mk.injEq] at H
   obtain ⟨rfl, rfl, rfl⟩ := H
   go_enter Tryz.func67, Tryz.ntmps67
   try go_wp2_with (first | ((with_reducible refine gate_dst (N := 2) rfl ?_); refine box_event ?hg (N := 2) ?hd (cs := #[.int .i64 a0_0, .int .i64 a0_1]) (t := 25) ?hr ?_; (case hd => rfl); (case hg => rfl); (case hr => first | (go_simp; done) | (go_simp; rfl)); intro gb176 hg w8 hbox hb; have BK176 := sd_ hbox; have GW176 := gw_ HB e0_ hg; have GE176 := GW176; replace HB := hb_ HB e0_ hb; clear hb hbox hg) | ((with_reducible refine gate_dst (N := 3) rfl ?_); refine box_event ?hg (N := 3) ?hd (cs := #[.int .i64 a1_0, .int .i64 a1_1]) (t := 25) ?hr ?_; (case hd => rfl); (case hg => rfl); (case hr => first | (go_simp; done) | (go_simp; rfl)); intro gb177 hg w9 hbox hb; have BK177 := sd_ hbox; have GW177 := gw_ HB (e_ GE176 e0_) hg; have GE177 := GW177; have NB176_177 := nb_ BK176 hg; have NB177_176 := sy_ NB176_177; replace BK176 := kb_ BK176 hb; replace HB := hb_ HB (e_ GE176 e0_) hb; clear hb hbox hg) | ((with_reducible refine gate_dst (N := 4) rfl ?_); refine box_event ?hg (N := 4) ?hd (cs := #[.int .i64 0, .int .i64 0]) (t := 25) ?hr ?_; (case hd => rfl); (case hg => rfl); (case hr => first | (go_simp; done) | (go_simp; rfl)); intro gb178 hg w10 hbox hb; have BK178 := sd_ hbox; have GW178 := gw_ HB (e_ GE176 (e_ GE177 e0_)) hg; have GE178 := GW178; have NB176_178 := nb_ BK176 hg; have NB178_176 := sy_ NB176_178; have NB177_178 := nb_ BK177 hg; have NB178_177 := sy_ NB177_178; replace BK176 := kb_ BK176 hb; replace BK177 := kb_ BK177 hb; replace HB := hb_ HB (e_ GE176 (e_ GE177 e0_)) hb; clear hb hbox hg; have hnb11 := NB176_177.out; have hnc11 := NB177_176.out; have hnb12 := NB176_178.out; have hnc12 := NB178_176.out; have hcz13_0 : w10.cell? ⟨gb176, 0, none⟩ = some (.int .i64 a0_0) := (kc_ BK176.out 0).trans rfl; have hcz13_1 : w10.cell? ⟨gb176, 1, none⟩ = some (.int .i64 a0_1) := (kc_ BK176.out 1).trans rfl; have hfz13_0 := kf_ BK176.out 0; have hfz13_1 := kf_ BK176.out 1; have hnb14 := NB177_178.out; have hnc14 := NB178_177.out; have hcz15_0 : w10.cell? ⟨gb177, 0, none⟩ = some (.int .i64 a1_0) := (kc_ BK177.out 0).trans rfl; have hcz15_1 : w10.cell? ⟨gb177, 1, none⟩ = some (.int .i64 a1_1) := (kc_ BK177.out 1).trans rfl; have hfz15_0 := kf_ BK177.out 0; have hfz15_1 := kf_ BK177.out 1) | ((with_reducible refine gate_callee (f := 66) rfl ?_); refine goesL_ (some 9) rfl rfl Tryz.func66 (by kernel_rfl) rfl #[.agg #[.int .i64 a0_0, .int .i64 a0_1], .agg #[.int .i64 a1_0, .int .i64 a1_1]] rfl (by (try simp only [lm_, lq_, lx_]); first | done | rfl | (simp only [ld_, lt_]; rfl)) ?_; (with_reducible refine (rat_both.calls k a0_0 a0_1 a1_0 a1_1 true _ A3.out).mono ?_); rintro e w16 ⟨rfl, hb⟩; refine ⟨_, rfl, ?_⟩; replace BK176 := kb_ BK176 hb; replace BK177 := kb_ BK177 hb; replace BK178 := kb_ BK178 hb; replace HB := hb_ HB (e_ GE176 (e_ GE177 (e_ GE178 e0_))) hb; (try clear hb); (try clear hb2); (try clear hk); (try clear hi); have hcz17_0 : w16.cell? ⟨gb176, 0, none⟩ = some (.int .i64 a0_0) := (kc_ BK176.out 0).trans rfl; have hcz17_1 : w16.cell? ⟨gb176, 1, none⟩ = some (.int .i64 a0_1) := (kc_ BK176.out 1).trans rfl; have hfz17_0 := kf_ BK176.out 0; have hfz17_1 := kf_ BK176.out 1; have hcz18_0 : w16.cell? ⟨gb177, 0, none⟩ = some (.int .i64 a1_0) := (kc_ BK177.out 0).trans rfl; have hcz18_1 : w16.cell? ⟨gb177, 1, none⟩ = some (.int .i64 a1_1) := (kc_ BK177.out 1).trans rfl; have hfz18_0 := kf_ BK177.out 0; have hfz18_1 := kf_ BK177.out 1) | ((with_reducible refine gate_callee (f := 64) rfl ?_); refine goesL_ (some 16) rfl rfl Tryz.func64 (by kernel_rfl) rfl #[.int .i64 a0_1, .int .i64 a1_1] rfl (by (try simp only [lm_, lq_, lx_]); first | done | rfl | (simp only [ld_, lt_]; rfl)) ?_; (with_reducible refine (rat_common.calls k a0_1 a1_1 t180 _ A5.out).mono ?_); rintro e w' ⟨rfl, ⟨nd, rfl⟩⟩; refine ⟨_, rfl, ?_⟩; (repeat (rw [drewN_self w16]; generalize hq_ : World.drewN w16 _ = w16; have n0_ : Aside0 (w16.heap[gb176]? = some (.cells #[.int .i64 a0_0, .int .i64 a0_1] 25 (0, 0))) := ⟨by rw [← hq_]; exact (kk_ BK176.out)⟩; have n1_ : Aside0 (w16.heap[gb177]? = some (.cells #[.int .i64 a1_0, .int .i64 a1_1] 25 (0, 0))) := ⟨by rw [← hq_]; exact (kk_ BK177.out)⟩; have n2_ : Aside0 (w16.heap[gb178]? = some (.cells #[.int .i64 0, .int .i64 0] 25 (0, 0))) := ⟨by rw [← hq_]; exact (kk_ BK178.out)⟩; have n3_ : Aside0 (Below w.heap.size w w16) := ⟨by rw [← hq_]; exact (bb_ HB.out (e_ GE176 (e_ GE177 (e_ GE178 e0_))))⟩; clear BK176 BK177 BK178 HB hq_; have BK176 := n0_; have BK177 := n1_; have BK178 := n2_; have HB := n3_; clear n0_ n1_ n2_ n3_))))
   replace BK176 := sd_ (kd_ BK176.out)
   replace BK177 := sd_ (kd_ BK177.out)
   replace BK178 := sd_ (kd_ BK178.out)
   replace HB := sd_ (d1_ HB.out)
   refine start_ (n := 27) (S := fun w' => w'.cell? ⟨gb176, 0, none⟩ = some (.int .i64 a0_0) ∧ w'.cell? ⟨gb176, 1, none⟩ = some (.int .i64 a0_1) ∧ w'.cell? ⟨gb177, 0, none⟩ = some (.int .i64 a1_0) ∧ w'.cell? ⟨gb177, 1, none⟩ = some (.int .i64 a1_1)) (ds := []) (Array.replicate 27 false) (by kernel_rfl) rfl rfl ⟨(kc_ BK176.out 0).trans rfl, (kc_ BK176.out 1).trans rfl, (kc_ BK177.out 0).trans rfl, (kc_ BK177.out 1).trans rfl⟩ (fun hHeld => ?_); refine with_tabW rat_Add.tab4 rat_Add.bits4 (fun HT_ HW_ => ?_)
   generalize w16.drew = w19 at BK176 BK177 BK178 HB hHeld ⊢
   refine pu_ (v := ?_) (a' := ?_) 0 17 (bz 27 1) rfl rfl HT_ (by kernel_rfl) (fun _ _ _ h => h) (by rfl) ?_ ?_ ?_
   rotate_left; (intro w'; go_simp; with_reducible rfl); rotate_left; (simp only [Act.put, ls_, lz_, lc_, i64_w, i32_w]; rfl)
   refine pu_ (v := ?_) (a' := ?_) 2 19 (bz 27 5) rfl rfl HT_ (by kernel_rfl) (fun _ _ _ h => h) (by rfl) ?_ ?_ ?_
   rotate_left; (intro w'; go_simp; with_reducible rfl); rotate_left; (simp only [Act.put, ls_, lz_, lc_, i64_w, i32_w]; rfl)
   refine pu_ (v := ?_) (a' := ?_) 4 21 (bz 27 21) rfl rfl HT_ (by kernel_rfl) (fun _ _ _ h => h) (by rfl) ?_ ?_ ?_
   rotate_left; (intro w'; go_simp; with_reducible rfl); rotate_left; (simp only [Act.put, ls_, lz_, lc_, i64_w, i32_w]; rfl)
   refine pu_ (v := ?_) (a' := ?_) 7 24 (bz 27 149) rfl rfl HT_ (by kernel_rfl) (fun _ _ _ h => h) (by rfl) ?_ ?_ ?_
   rotate_left; (intro w'; go_simp; with_reducible rfl); rotate_left; (simp only [Act.put, ls_, lz_, lc_, i64_w, i32_w]; rfl)
   refine pu_ (v := ?_) (a' := ?_) 9 26 (bz 27 661) rfl rfl HT_ (by kernel_rfl) (fun _ _ _ h => h) (by rfl) ?_ ?_ ?_
   rotate_left; (intro w'; go_simp; with_reducible rfl); rotate_left; (simp only [Act.put, ls_, lz_, lc_, i64_w, i32_w]; rfl)
   refine pu_ (v := ?_) (a' := ?_) 11 28 (bz 27 2709) rfl rfl HT_ (by kernel_rfl) (fun _ _ _ h => h) (by rfl) ?_ ?_ ?_
   rotate_left; (intro w'; go_simp; with_reducible rfl); rotate_left; (simp only [Act.put, ls_, lz_, lc_, i64_w, i32_w]; rfl)
   refine pu_ (v := ?_) (a' := ?_) 15 32 (bz 27 35477) rfl rfl HT_ (by kernel_rfl) (fun _ _ _ h => h) (by rfl) ?_ ?_ ?_
   rotate_left; (intro w'; go_simp; with_reducible rfl); rotate_left; (simp only [Act.put, ls_, lz_, lc_, i64_w, i32_w]; rfl)
   refine pu_ (v := ?_) (a' := ?_) 17 34 (bz 27 166549) rfl rfl HT_ (by kernel_rfl) (fun _ _ _ h => h) (by rfl) ?_ ?_ ?_
   rotate_left; (intro w'; go_simp; with_reducible rfl); rotate_left; (simp only [Act.put, ls_, lz_, lc_, i64_w, i32_w]; rfl)
   refine pu_ (v := ?_) (a' := ?_) 19 36 (bz 27 690837) rfl rfl HT_ (by kernel_rfl) (fun _ _ _ h => h) (by rfl) ?_ ?_ ?_
   rotate_left; (intro w'; go_simp; with_reducible rfl); rotate_left; (simp only [Act.put, ls_, lz_, lc_, i64_w, i32_w]; rfl)
   refine ta_ (v := ?_) (a' := ?_) 1 18 (bz 27 690839) rfl rfl HT_ HW_ (by kernel_rfl) (fun _ _ _ h => h) (by rfl) ?_ hHeld ?_ ?_
   rotate_left
   ·rintro w' ⟨s0, s1, s2, s3⟩
    go_simp
    with_reducible rfl
   rotate_left
   ·simp only [Act.put, ls_, lz_, lc_, i64_w, i32_w]
    rfl
   refine ta_ (v := ?_) (a' := ?_) 3 20 (bz 27 690847) rfl rfl HT_ HW_ (by kernel_rfl) (fun _ _ _ h => h) (by rfl) ?_ hHeld ?_ ?_
   rotate_left
   ·rintro w' ⟨s0, s1, s2, s3⟩
    go_simp
    with_reducible rfl
   rotate_left
   ·simp only [Act.put, ls_, lz_, lc_, i64_w, i32_w]
    rfl
   refine pu_ (v := ?_) (a' := ?_) 5 22 (bz 27 690879) rfl rfl HT_ (by kernel_rfl) (fun _ _ _ h => h) (by rfl) ?_ ?_ ?_
   rotate_left; (intro w'; go_simp; with_reducible rfl); rotate_left; (simp only [Act.put, ls_, lz_, lc_, i64_w, i32_w]; rfl)
   refine pu_ (v := ?_) (a' := ?_) 6 23 (bz 27 690943) rfl rfl HT_ (by kernel_rfl) (fun _ _ _ h => h) (by rfl) ?_ ?_ ?_
   rotate_left; (intro w'; go_simp; with_reducible rfl); rotate_left; (simp only [Act.put, ls_, lz_, lc_, i64_w, i32_w]; rfl)
   refine ta_ (v := ?_) (a' := ?_) 8 25 (bz 27 691199) rfl rfl HT_ HW_ (by kernel_rfl) (fun _ _ _ h => h) (by rfl) ?_ hHeld ?_ ?_
   rotate_left
   ·rintro w' ⟨s0, s1, s2, s3⟩
    go_simp
    with_reducible rfl
   rotate_left
   ·simp only [Act.put, ls_, lz_, lc_, i64_w, i32_w]
    rfl
   refine ta_ (v := ?_) (a' := ?_) 10 27 (bz 27 692223) rfl rfl HT_ HW_ (by kernel_rfl) (fun _ _ _ h => h) (by rfl) ?_ hHeld ?_ ?_
   rotate_left
   ·rintro w' ⟨s0, s1, s2, s3⟩
    go_simp
    with_reducible rfl
   rotate_left
   ·simp only [Act.put, ls_, lz_, lc_, i64_w, i32_w]
    rfl
   refine pu_ (v := ?_) (a' := ?_) 12 29 (bz 27 696319) rfl rfl HT_ (by kernel_rfl) (fun _ _ _ h => h) (by rfl) ?_ ?_ ?_
   rotate_left; (intro w'; go_simp; with_reducible rfl); rotate_left; (simp only [Act.put, ls_, lz_, lc_, i64_w, i32_w]; rfl)
   refine pu_ (v := ?_) (a' := ?_) 13 30 (bz 27 704511) rfl rfl HT_ (by kernel_rfl) (fun _ _ _ h => h) (by rfl) ?_ ?_ ?_
   rotate_left; (intro w'; go_simp; with_reducible rfl); rotate_left; (simp only [Act.put, ls_, lz_, lc_, i64_w, i32_w]; rfl)
   refine pu_ (v := ?_) (a' := ?_) 14 31 (bz 27 720895) rfl rfl HT_ (by kernel_rfl) (fun _ _ _ h => h) (by rfl) ?_ ?_ ?_
   rotate_left; (intro w'; go_simp; with_reducible rfl); rotate_left; (simp only [Act.put, ls_, lz_, lc_, i64_w, i32_w]; rfl)
   refine ta_ (v := ?_) (a' := ?_) 16 33 (bz 27 786431) rfl rfl HT_ HW_ (by kernel_rfl) (fun _ _ _ h => h) (by rfl) ?_ hHeld ?_ ?_
   rotate_left
   ·rintro w' ⟨s0, s1, s2, s3⟩
    go_simp
    with_reducible rfl
   rotate_left
   ·simp only [Act.put, ls_, lz_, lc_, i64_w, i32_w]
    rfl
   refine pu_ (v := ?_) (a' := ?_) 18 35 (bz 27 1048575) rfl rfl HT_ (by kernel_rfl) (fun _ _ _ h => h) (by rfl) ?_ ?_ ?_
   rotate_left; (intro w'; go_simp; with_reducible rfl); rotate_left; (simp only [Act.put, ls_, lz_, lc_, i64_w, i32_w]; rfl)
   refine ta_ (v := ?_) (a' := ?_) 20 37 (bz 27 2097151) rfl rfl HT_ HW_ (by kernel_rfl) (fun _ _ _ h => h) (by rfl) ?_ hHeld ?_ ?_
   rotate_left
   ·rintro w' ⟨s0, s1, s2, s3⟩
    go_simp
    with_reducible rfl
   rotate_left
   ·simp only [Act.put, ls_, lz_, lc_, i64_w, i32_w]
    rfl
   refine pu_ (v := ?_) (a' := ?_) 21 38 (bz 27 4194303) rfl rfl HT_ (by kernel_rfl) (fun _ _ _ h => h) (by rfl) ?_ ?_ ?_
   rotate_left; (intro w'; go_simp; with_reducible rfl); rotate_left; (simp only [Act.put, ls_, lz_, lc_, i64_w, i32_w]; rfl)
   refine on_ (N := some 39) 22 (bz 27 8388607) rfl rfl HT_ (by kernel_rfl) (by decide) (fun K hK => ?_)
   refine goes_ Tryz.func58 (by kernel_rfl) rfl #[.int .i64 (wrap64 ((wrap64 (a0_0 * (wrap64 (Int.tdiv a1_1 t180)))) + (wrap64 (a1_0 * (wrap64 (Int.tdiv a0_1 t180)))))), .int .i64 (wrap64 ((wrap64 (Int.tdiv a0_1 t180)) * a1_1))] (by rfl) rfl rfl (by (try simp only [lm_, lq_, lx_]); first | done | rfl | (simp only [ld_, lt_]; rfl)) ?_
   with_reducible refine (rat_lowest.calls k (wrap64 ((wrap64 (a0_0 * (wrap64 (Int.tdiv a1_1 t180)))) + (wrap64 (a1_0 * (wrap64 (Int.tdiv a0_1 t180)))))) (wrap64 ((wrap64 (Int.tdiv a0_1 t180)) * a1_1)) t181 t182 t183 _ A7.out).mono ?_
   rintro e w20 ⟨rfl, hb⟩
   refine ⟨_, rfl, ?_⟩
   replace BK176 := kb_ BK176 hb
   replace BK177 := kb_ BK177 hb
   replace BK178 := kb_ BK178 hb
   replace HB := hb_ HB (e_ GE176 (e_ GE177 (e_ GE178 e0_))) hb
   (try clear hb)
   (try clear hb2)
   (try clear hk)
   (try clear hi)
   refine hK.out _ _ ⟨(kc_ BK176.out 0).trans rfl, (kc_ BK176.out 1).trans rfl, (kc_ BK177.out 0).trans rfl, (kc_ BK177.out 1).trans rfl⟩ (fun hHeld => ?_)
   clear hK K
   refine norm_ (a' := ?_) ?_ ?_
   rotate_left
   ·show Act.put _ (some 39) _ = _
    simp only [Act.put, ls_, lz_, lc_, i64_w, i32_w]
    rfl
   refine pu_ (v := ?_) (a' := ?_) 23 40 (bz 27 16777215) rfl rfl HT_ (by kernel_rfl) (fun _ _ _ h => h) (by rfl) ?_ ?_ ?_
   rotate_left; (intro w'; go_simp; with_reducible rfl); rotate_left; (simp only [Act.put, ls_, lz_, lc_, i64_w, i32_w]; rfl)
   refine pu_ (v := ?_) (a' := ?_) 24 41 (bz 27 33554431) rfl rfl HT_ (by kernel_rfl) (fun _ _ _ h => h) (by rfl) ?_ ?_ ?_
   rotate_left; (intro w'; go_simp; with_reducible rfl); rotate_left; (simp only [Act.put, ls_, lz_, lc_, i64_w, i32_w]; rfl)
   refine on_ (N := none) 25 (bz 27 67108863) rfl rfl HT_ (by kernel_rfl) (by decide) (fun K hK => ?_)
   have hs21 : w20.cell? ⟨gb178, 0, none⟩ = some (.int .i64 0) := (kc_ BK178.out 0).trans rfl
   have hfs21 := kf_ BK178.out 0
   have hns21_0 := NB176_178.out
   have hns21_1 := NB177_178.out
   have hms21_0 := NB178_176.out
   have hms21_1 := NB178_177.out
   have hs22 : w20.cell? ⟨gb178, 1, none⟩ = some (.int .i64 0) := (kc_ BK178.out 1).trans rfl
   have hfs22 := kf_ BK178.out 1
   have hns22_0 := NB176_178.out
   have hns22_1 := NB177_178.out
   have hms22_0 := NB178_176.out
   have hms22_1 := NB178_177.out
   refine skip_ (w1 := ?_) (by rfl) rfl ?_ ?_
   rotate_left
   ·go_simp
    rfl
   refine hK.out _ _ ⟨((cell_far (p := ⟨gb178, _, none⟩) NB176_178.out _).trans (((cell_far (p := ⟨gb178, _, none⟩) NB176_178.out _).trans (hHeld.1)))), ((cell_far (p := ⟨gb178, _, none⟩) NB176_178.out _).trans (((cell_far (p := ⟨gb178, _, none⟩) NB176_178.out _).trans (hHeld.2.1)))), ((cell_far (p := ⟨gb178, _, none⟩) NB177_178.out _).trans (((cell_far (p := ⟨gb178, _, none⟩) NB177_178.out _).trans (hHeld.2.2.1)))), ((cell_far (p := ⟨gb178, _, none⟩) NB177_178.out _).trans (((cell_far (p := ⟨gb178, _, none⟩) NB177_178.out _).trans (hHeld.2.2.2))))⟩ (fun hHeld => ?_)
   clear hK K
   refine pu_ (v := ?_) (a' := ?_) 26 5 (bz 27 134217727) rfl rfl HT_ (by kernel_rfl) (fun _ _ _ h => h) (by rfl) ?_ ?_ ?_
   rotate_left; (intro w'; go_simp; with_reducible rfl); rotate_left; (simp only [Act.put, ls_, lz_, lc_, i64_w, i32_w]; rfl)
   refine done_ (done_of HT_.out (by kernel_rfl)) ?_
   try go_wp2
   refine bodyPost_ret (results_ct rfl _ _ gb178 25 #[.int .i64 t181, .int .i64 t182] (0, 0) _ rfl (by (with_reducible repeat first | apply kn_ | apply kd_ | apply ka_); refine blk_put (cs := #[.int .i64 t181, .int .i64 0]) ?_ 1 _ rfl; (with_reducible repeat first | apply kn_ | apply kd_ | apply ka_); refine blk_put (cs := #[.int .i64 0, .int .i64 0]) ?_ 0 _ rfl; (with_reducible repeat first | apply kn_ | apply kd_ | apply ka_); exact BK178.out) Tryz.underlying25 rfl (by kernel_rfl)) rfl ?_
   exact ⟨by first | rfl | (simp [errW_none, errW_some] <;> rfl) | (simp [*, errW_none, errW_some] <;> rfl), by repeat (first | (with_reducible first | exact HB.out | apply ba_ | apply pd_ | apply d1_ | refine bs_ ?_ GE176.out | refine bs_ ?_ GE177.out | refine bs_ ?_ GE178.out) | exact HB.out)⟩
 ·replace c4 := bf_ c4
  subst c4
  have H1 : ((rat_zero.f).bind fun bt184 => (some (bt184.1, bt184.2, 2))) = some (r1, r2, r3) := by rw [if_neg (show ¬ (false = true) by decide)] at H; exact H
  clear H; have H := H1; clear H1
  replace H := ob_ H
  obtain ⟨⟨t184, t185⟩, A230, H⟩ := H
  replace H : (some (t184, t185, 2)) = some (r1, r2, r3) := H
  have A23 := sd_ A230
  clear A230
  simp only [Option.some.injEq, Prod.mk.injEq] at H
  obtain ⟨rfl, rfl, rfl⟩ := H
  go_enter Tryz.func67, Tryz.ntmps67
  go_wp2_with (first | ((with_reducible refine gate_dst (N := 2) rfl ?_); refine box_event ?hg (N := 2) ?hd (cs := #[.int .i64 a0_0, .int .i64 a0_1]) (t := 25) ?hr ?_; (case hd => rfl); (case hg => rfl); (case hr => first | (go_simp; done) | (go_simp; rfl)); intro gb176 hg w24 hbox hb; have BK176 := sd_ hbox; have GW176 := gw_ HB e0_ hg; have GE176 := GW176; replace HB := hb_ HB e0_ hb; clear hb hbox hg) | ((with_reducible refine gate_dst (N := 3) rfl ?_); refine box_event ?hg (N := 3) ?hd (cs := #[.int .i64 a1_0, .int .i64 a1_1]) (t := 25) ?hr ?_; (case hd => rfl); (case hg => rfl); (case hr => first | (go_simp; done) | (go_simp; rfl)); intro gb177 hg w25 hbox hb; have BK177 := sd_ hbox; have GW177 := gw_ HB (e_ GE176 e0_) hg; have GE177 := GW177; have NB176_177 := nb_ BK176 hg; have NB177_176 := sy_ NB176_177; replace BK176 := kb_ BK176 hb; replace HB := hb_ HB (e_ GE176 e0_) hb; clear hb hbox hg) | ((with_reducible refine gate_dst (N := 4) rfl ?_); refine box_event ?hg (N := 4) ?hd (cs := #[.int .i64 0, .int .i64 0]) (t := 25) ?hr ?_; (case hd => rfl); (case hg => rfl); (case hr => first | (go_simp; done) | (go_simp; rfl)); intro gb178 hg w26 hbox hb; have BK178 := sd_ hbox; have GW178 := gw_ HB (e_ GE176 (e_ GE177 e0_)) hg; have GE178 := GW178; have NB176_178 := nb_ BK176 hg; have NB178_176 := sy_ NB176_178; have NB177_178 := nb_ BK177 hg; have NB178_177 := sy_ NB177_178; replace BK176 := kb_ BK176 hb; replace BK177 := kb_ BK177 hb; replace HB := hb_ HB (e_ GE176 (e_ GE177 e0_)) hb; clear hb hbox hg; have hnb27 := NB176_177.out; have hnc27 := NB177_176.out; have hnb28 := NB176_178.out; have hnc28 := NB178_176.out; have hcz29_0 : w26.cell? ⟨gb176, 0, none⟩ = some (.int .i64 a0_0) := (kc_ BK176.out 0).trans rfl; have hcz29_1 : w26.cell? ⟨gb176, 1, none⟩ = some (.int .i64 a0_1) := (kc_ BK176.out 1).trans rfl; have hfz29_0 := kf_ BK176.out 0; have hfz29_1 := kf_ BK176.out 1; have hnb30 := NB177_178.out; have hnc30 := NB178_177.out; have hcz31_0 : w26.cell? ⟨gb177, 0, none⟩ = some (.int .i64 a1_0) := (kc_ BK177.out 0).trans rfl; have hcz31_1 : w26.cell? ⟨gb177, 1, none⟩ = some (.int .i64 a1_1) := (kc_ BK177.out 1).trans rfl; have hfz31_0 := kf_ BK177.out 0; have hfz31_1 := kf_ BK177.out 1) | ((with_reducible refine gate_callee (f := 66) rfl ?_); refine goesL_ (some 9) rfl rfl Tryz.func66 (by kernel_rfl) rfl #[.agg #[.int .i64 a0_0, .int .i64 a0_1], .agg #[.int .i64 a1_0, .int .i64 a1_1]] rfl (by (try simp only [lm_, lq_, lx_]); first | done | rfl | (simp only [ld_, lt_]; rfl)) ?_; (with_reducible refine (rat_both.calls k a0_0 a0_1 a1_0 a1_1 false _ A3.out).mono ?_); rintro e w32 ⟨rfl, hb⟩; refine ⟨_, rfl, ?_⟩; replace BK176 := kb_ BK176 hb; replace BK177 := kb_ BK177 hb; replace BK178 := kb_ BK178 hb; replace HB := hb_ HB (e_ GE176 (e_ GE177 (e_ GE178 e0_))) hb; (try clear hb); (try clear hb2); (try clear hk); (try clear hi)) | ((with_reducible refine gate_callee (f := 57) rfl ?_); refine goesL_ (some 11) rfl rfl Tryz.func57 (by kernel_rfl) rfl #[] rfl (by (try simp only [lm_, lq_, lx_]); first | done | rfl | (simp only [ld_, lt_]; rfl)) ?_; (with_reducible refine (rat_zero.calls  t184 t185 _ A23.out).mono ?_); rintro e w33 ⟨rfl, hb⟩; refine ⟨_, rfl, ?_⟩; replace BK176 := kb_ BK176 hb; replace BK177 := kb_ BK177 hb; replace BK178 := kb_ BK178 hb; replace HB := hb_ HB (e_ GE176 (e_ GE177 (e_ GE178 e0_))) hb; (try clear hb); (try clear hb2); (try clear hk); (try clear hi); have hcz34_0 : w33.cell? ⟨gb178, 0, none⟩ = some (.int .i64 0) := (kc_ BK178.out 0).trans rfl; have hcz34_1 : w33.cell? ⟨gb178, 1, none⟩ = some (.int .i64 0) := (kc_ BK178.out 1).trans rfl; have hfz34_0 := kf_ BK178.out 0; have hfz34_1 := kf_ BK178.out 1))
  refine bodyPost_ret (results_ct rfl _ _ gb178 25 #[.int .i64 t184, .int .i64 t185] (0, 0) _ rfl (by (with_reducible repeat first | apply kn_ | apply kd_ | apply ka_); refine blk_put (cs := #[.int .i64 t184, .int .i64 0]) ?_ 1 _ rfl; (with_reducible repeat first | apply kn_ | apply kd_ | apply ka_); refine blk_put (cs := #[.int .i64 0, .int .i64 0]) ?_ 0 _ rfl; (with_reducible repeat first | apply kn_ | apply kd_ | apply ka_); exact BK178.out) Tryz.underlying25 rfl (by kernel_rfl)) rfl ?_
  exact ⟨by first | rfl | (simp [errW_none, errW_some] <;> rfl) | (simp [*, errW_none, errW_some] <;> rfl), by repeat (first | (with_reducible first | exact HB.out | apply ba_ | apply pd_ | apply d1_ | refine bs_ ?_ GE176.out | refine bs_ ?_ GE177.out | refine bs_ ?_ GE178.out) | exact HB.out)⟩

/-! ### rat_negated: function 68 -/
def rat_negated.f (a0_0 : Int) (a0_1 : Int) : Option (Int × Int) := some (wrap64 (-a0_0), a0_1)
set_option maxHeartbeats 8000000 in
set_option maxRecDepth 100000 in
theorem rat_negated.calls (a0_0 : Int) (a0_1 : Int) (r1 : Int) (r2 : Int) (w : World) (h : rat_negated.f a0_0 a0_1 = some (r1, r2)) :
  Calls Tryz.prog 68 #[.agg #[.int .i64 a0_0, .int .i64 a0_1]] w fun e w' => e = .returned (.agg #[.int .i64 r1, .int .i64 r2]) ∧ Below w.heap.size w w' := by
 have hu25 := Tryz.underlying25
 have HB := sd_ (Below.refl w.heap.size w)
 have H : (some (wrap64 (-a0_0), a0_1)) = some (r1, r2) := h
 clear h
 simp only [Option.some.injEq, Prod.mk.injEq] at H
 obtain ⟨rfl, rfl⟩ := H
 go_enter Tryz.func68, Tryz.ntmps68
 go_wp2_with (first | ((with_reducible refine gate_dst (N := 1) rfl ?_); refine box_event ?hg (N := 1) ?hd (cs := #[.int .i64 a0_0, .int .i64 a0_1]) (t := 25) ?hr ?_; (case hd => rfl); (case hg => rfl); (case hr => first | (go_simp; done) | (go_simp; rfl)); intro gb186 hg w2 hbox hb; have BK186 := sd_ hbox; have GW186 := gw_ HB e0_ hg; have GE186 := GW186; replace HB := hb_ HB e0_ hb; clear hb hbox hg) | ((with_reducible refine gate_dst (N := 2) rfl ?_); refine box_event ?hg (N := 2) ?hd (cs := #[.int .i64 0, .int .i64 0]) (t := 25) ?hr ?_; (case hd => rfl); (case hg => rfl); (case hr => first | (go_simp; done) | (go_simp; rfl)); intro gb187 hg w3 hbox hb; have BK187 := sd_ hbox; have GW187 := gw_ HB (e_ GE186 e0_) hg; have GE187 := GW187; have NB186_187 := nb_ BK186 hg; have NB187_186 := sy_ NB186_187; replace BK186 := kb_ BK186 hb; replace HB := hb_ HB (e_ GE186 e0_) hb; clear hb hbox hg; have hnb4 := NB186_187.out; have hnc4 := NB187_186.out; have hcz5_0 : w3.cell? ⟨gb186, 0, none⟩ = some (.int .i64 a0_0) := (kc_ BK186.out 0).trans rfl; have hcz5_1 : w3.cell? ⟨gb186, 1, none⟩ = some (.int .i64 a0_1) := (kc_ BK186.out 1).trans rfl; have hfz5_0 := kf_ BK186.out 0; have hfz5_1 := kf_ BK186.out 1; have hcz6_0 : w3.cell? ⟨gb187, 0, none⟩ = some (.int .i64 0) := (kc_ BK187.out 0).trans rfl; have hcz6_1 : w3.cell? ⟨gb187, 1, none⟩ = some (.int .i64 0) := (kc_ BK187.out 1).trans rfl; have hfz6_0 := kf_ BK187.out 0; have hfz6_1 := kf_ BK187.out 1))
 refine bodyPost_ret (results_cell_row rfl _ _ gb187 25 #[.int .i64 (wrap64 (-a0_0)), .int .i64 a0_1] (0, 0) _ rfl (by (with_reducible repeat first | apply kn_ | apply kd_ | apply ka_); refine blk_put (cs := #[.int .i64 (wrap64 (-a0_0)), .int .i64 0]) ?_ 1 _ rfl; (with_reducible repeat first | apply kn_ | apply kd_ | apply ka_); refine blk_put (cs := #[.int .i64 0, .int .i64 0]) ?_ 0 _ rfl; (with_reducible repeat first | apply kn_ | apply kd_ | apply ka_); exact BK187.out) Tryz.underlying25 rfl (by kernel_rfl)) rfl ?_
 exact ⟨by first | rfl | (simp [errW_none, errW_some] <;> rfl) | (simp [*, errW_none, errW_some] <;> rfl), by repeat (first | (with_reducible first | exact HB.out | apply ba_ | apply pd_ | apply d1_ | refine bs_ ?_ GE186.out | refine bs_ ?_ GE187.out) | exact HB.out)⟩

/-! ### rat_Sub: function 46 -/
def rat_Sub.f (k : Nat) (a0_0 : Int) (a0_1 : Int) (a1_0 : Int) (a1_1 : Int) : Option (Int × Int × Int) := (rat_both.f k a0_0 a0_1 a1_0 a1_1).bind fun t191 => (if t191 = true then ((rat_negated.f a1_0 a1_1).bind fun bt192 => ((rat_Add.f k a0_0 a0_1 bt192.1 bt192.2).bind fun bt194 => (some (bt194.1, bt194.2.1, bt194.2.2)))) else ((rat_zero.f).bind fun bt197 => (some (bt197.1, bt197.2, 2))))
theorem rat_Sub.mono : ∀ a0 a1 a2 a3 k, LeO (rat_Sub.f k a0 a1 a2 a3) (rat_Sub.f (k + 1) a0 a1 a2 a3) := by
 intro a0 a1 a2 a3 k
 unfold rat_Sub.f
 repeat' first
   | (with_reducible exact rat_Add.mono _ _ _ _ _)
   | (with_reducible exact rat_both.mono _ _ _ _ _)
   | (with_reducible exact LeO.refl _)
   | (with_reducible exact LeO.none _)
   | (with_reducible refine LeO.ite ?_ ?_)
   | (with_reducible refine LeO.bind ?_ (fun _ => ?_))
   | exact rat_Add.mono _ _ _ _ _
   | exact rat_both.mono _ _ _ _ _
   | exact LeO.none _
   | refine LeO.ite ?_ ?_
   | refine LeO.bind ?_ (fun _ => ?_)
def rat_Sub.T3 : Bool × List (List Nat × List Nat) := (true, [([], []), ([], []), ([1], [1]), ([0, 2, 2], [0, 2]), ([3], [3]), ([3], [3]), ([4, 3, 0, 1, 2, 3, 4, 5], [4]), ([5, 6, 0, 1, 2, 3, 4, 5, 6], [5])])
def rat_Sub.B3 : List Nat := [0, 0, 2, 7, 15, 15, 63, 127]
theorem rat_Sub.tab3 : rtab .any (opsOf Tryz.f46 3) = rat_Sub.T3 := by kernel_rfl
theorem rat_Sub.bits3 : waitsOk rat_Sub.T3.2 rat_Sub.B3 = true := by kernel_rfl
set_option maxHeartbeats 8000000 in
set_option maxRecDepth 100000 in
theorem rat_Sub.calls (k : Nat) (a0_0 : Int) (a0_1 : Int) (a1_0 : Int) (a1_1 : Int) (r1 : Int) (r2 : Int) (r3 : Int) (w : World) (h : rat_Sub.f k a0_0 a0_1 a1_0 a1_1 = some (r1, r2, r3)) :
  Calls Tryz.prog 46 #[.agg #[.int .i64 a0_0, .int .i64 a0_1], .agg #[.int .i64 a1_0, .int .i64 a1_1]] w fun e w' => e = .returned (.tuple #[.agg #[.int .i64 r1, .int .i64 r2], .int .i64 r3]) ∧ Below w.heap.size w w' := by
 have hu25 := Tryz.underlying25
 have HB := sd_ (Below.refl w.heap.size w)
 have H : ((rat_both.f k a0_0 a0_1 a1_0 a1_1).bind fun t191 => (if t191 = true then ((rat_negated.f a1_0 a1_1).bind fun bt192 => ((rat_Add.f k a0_0 a0_1 bt192.1 bt192.2).bind fun bt194 => (some (bt194.1, bt194.2.1, bt194.2.2)))) else ((rat_zero.f).bind fun bt197 => (some (bt197.1, bt197.2, 2))))) = some (r1, r2, r3) := h
 clear h
 replace H := ob_ H
 obtain ⟨t191, A30, H⟩ := H
 replace H : (if t191 = true then ((rat_negated.f a1_0 a1_1).bind fun bt192 => ((rat_Add.f k a0_0 a0_1 bt192.1 bt192.2).bind fun bt194 => (some (bt194.1, bt194.2.1, bt194.2.2)))) else ((rat_zero.f).bind fun bt197 => (some (bt197.1, bt197.2, 2)))) = some (r1, r2, r3) := H
 have A3 := sd_ A30
 clear A30
 by_cases c4 : t191 = true
 ·subst c4
  have H1 : ((rat_negated.f a1_0 a1_1).bind fun bt192 => ((rat_Add.f k a0_0 a0_1 bt192.1 bt192.2).bind fun bt194 => (some (bt194.1, bt194.2.1, bt194.2.2)))) = some (r1, r2, r3) := by rw [if_pos rfl] at H; exact H
  clear H; have H := H1; clear H1
  replace H := ob_ H
  obtain ⟨⟨t192, t193⟩, A50, H⟩ := H
  replace H : ((rat_Add.f k a0_0 a0_1 t192 t193).bind fun bt194 => (some (bt194.1, bt194.2.1, bt194.2.2))) = some (r1, r2, r3) := H
  have A5 := sd_ A50
  clear A50
  replace H := ob_ H
  obtain ⟨⟨t194, t195, t196⟩, A60, H⟩ := H
  replace H : (some (t194, t195, t196)) = some (r1, r2, r3) := H
  have A6 := sd_ A60
  clear A60
  simp only [Option.some.injEq, Prod.mk.injEq] at H
  obtain ⟨rfl, rfl, rfl⟩ := H
  go_enter Tryz.func46, Tryz.ntmps46
  try go_wp2_with (first | ((with_reducible refine gate_dst (N := 2) rfl ?_); refine box_event ?hg (N := 2) ?hd (cs := #[.int .i64 a0_0, .int .i64 a0_1]) (t := 25) ?hr ?_; (case hd => rfl); (case hg => rfl); (case hr => first | (go_simp; done) | (go_simp; rfl)); intro gb188 hg w7 hbox hb; have BK188 := sd_ hbox; have GW188 := gw_ HB e0_ hg; have GE188 := GW188; replace HB := hb_ HB e0_ hb; clear hb hbox hg) | ((with_reducible refine gate_dst (N := 3) rfl ?_); refine box_event ?hg (N := 3) ?hd (cs := #[.int .i64 a1_0, .int .i64 a1_1]) (t := 25) ?hr ?_; (case hd => rfl); (case hg => rfl); (case hr => first | (go_simp; done) | (go_simp; rfl)); intro gb189 hg w8 hbox hb; have BK189 := sd_ hbox; have GW189 := gw_ HB (e_ GE188 e0_) hg; have GE189 := GW189; have NB188_189 := nb_ BK188 hg; have NB189_188 := sy_ NB188_189; replace BK188 := kb_ BK188 hb; replace HB := hb_ HB (e_ GE188 e0_) hb; clear hb hbox hg) | ((with_reducible refine gate_dst (N := 4) rfl ?_); refine box_event ?hg (N := 4) ?hd (cs := #[.int .i64 0, .int .i64 0]) (t := 25) ?hr ?_; (case hd => rfl); (case hg => rfl); (case hr => first | (go_simp; done) | (go_simp; rfl)); intro gb190 hg w9 hbox hb; have BK190 := sd_ hbox; have GW190 := gw_ HB (e_ GE188 (e_ GE189 e0_)) hg; have GE190 := GW190; have NB188_190 := nb_ BK188 hg; have NB190_188 := sy_ NB188_190; have NB189_190 := nb_ BK189 hg; have NB190_189 := sy_ NB189_190; replace BK188 := kb_ BK188 hb; replace BK189 := kb_ BK189 hb; replace HB := hb_ HB (e_ GE188 (e_ GE189 e0_)) hb; clear hb hbox hg; have hnb10 := NB188_189.out; have hnc10 := NB189_188.out; have hnb11 := NB188_190.out; have hnc11 := NB190_188.out; have hcz12_0 : w9.cell? ⟨gb188, 0, none⟩ = some (.int .i64 a0_0) := (kc_ BK188.out 0).trans rfl; have hcz12_1 : w9.cell? ⟨gb188, 1, none⟩ = some (.int .i64 a0_1) := (kc_ BK188.out 1).trans rfl; have hfz12_0 := kf_ BK188.out 0; have hfz12_1 := kf_ BK188.out 1; have hnb13 := NB189_190.out; have hnc13 := NB190_189.out; have hcz14_0 : w9.cell? ⟨gb189, 0, none⟩ = some (.int .i64 a1_0) := (kc_ BK189.out 0).trans rfl; have hcz14_1 : w9.cell? ⟨gb189, 1, none⟩ = some (.int .i64 a1_1) := (kc_ BK189.out 1).trans rfl; have hfz14_0 := kf_ BK189.out 0; have hfz14_1 := kf_ BK189.out 1) | ((with_reducible refine gate_callee (f := 66) rfl ?_); refine goesL_ (some 8) rfl rfl Tryz.func66 (by kernel_rfl) rfl #[.agg #[.int .i64 a0_0, .int .i64 a0_1], .agg #[.int .i64 a1_0, .int .i64 a1_1]] rfl (by (try simp only [lm_, lq_, lx_]); first | done | rfl | (simp only [ld_, lt_]; rfl)) ?_; (with_reducible refine (rat_both.calls k a0_0 a0_1 a1_0 a1_1 true _ A3.out).mono ?_); rintro e w15 ⟨rfl, hb⟩; refine ⟨_, rfl, ?_⟩; replace BK188 := kb_ BK188 hb; replace BK189 := kb_ BK189 hb; replace BK190 := kb_ BK190 hb; replace HB := hb_ HB (e_ GE188 (e_ GE189 (e_ GE190 e0_))) hb; (try clear hb); (try clear hb2); (try clear hk); (try clear hi)))
  replace BK188 := sd_ (kd_ BK188.out)
  replace BK189 := sd_ (kd_ BK189.out)
  replace BK190 := sd_ (kd_ BK190.out)
  replace HB := sd_ (d1_ HB.out)
  refine start_ (n := 8) (S := fun w' => w'.cell? ⟨gb188, 0, none⟩ = some (.int .i64 a0_0) ∧ w'.cell? ⟨gb188, 1, none⟩ = some (.int .i64 a0_1) ∧ w'.cell? ⟨gb189, 0, none⟩ = some (.int .i64 a1_0) ∧ w'.cell? ⟨gb189, 1, none⟩ = some (.int .i64 a1_1)) (ds := []) (Array.replicate 8 false) (by kernel_rfl) rfl rfl ⟨(kc_ BK188.out 0).trans rfl, (kc_ BK188.out 1).trans rfl, (kc_ BK189.out 0).trans rfl, (kc_ BK189.out 1).trans rfl⟩ (fun hHeld => ?_); refine with_tabW rat_Sub.tab3 rat_Sub.bits3 (fun HT_ HW_ => ?_)
  generalize w15.drew = w16 at BK188 BK189 BK190 HB hHeld ⊢
  refine ta_ (v := ?_) (a' := ?_) 0 11 (bz 8 1) rfl rfl HT_ HW_ (by kernel_rfl) (fun _ _ _ h => h) (by rfl) ?_ hHeld ?_ ?_
  rotate_left
  ·rintro w' ⟨s0, s1, s2, s3⟩
   go_simp
   with_reducible rfl
  rotate_left
  ·simp only [Act.put, ls_, lz_, lc_, i64_w, i32_w]
   rfl
  refine ta_ (v := ?_) (a' := ?_) 1 12 (bz 8 3) rfl rfl HT_ HW_ (by kernel_rfl) (fun _ _ _ h => h) (by rfl) ?_ hHeld ?_ ?_
  rotate_left
  ·rintro w' ⟨s0, s1, s2, s3⟩
   go_simp
   with_reducible rfl
  rotate_left
  ·simp only [Act.put, ls_, lz_, lc_, i64_w, i32_w]
   rfl
  refine on_ (N := some 13) 2 (bz 8 7) rfl rfl HT_ (by kernel_rfl) (by decide) (fun K hK => ?_)
  refine goes_ Tryz.func68 (by kernel_rfl) rfl #[.agg #[.int .i64 a1_0, .int .i64 a1_1]] (by rfl) rfl rfl (by (try simp only [lm_, lq_, lx_]); first | done | rfl | (simp only [ld_, lt_]; rfl)) ?_
  with_reducible refine (rat_negated.calls a1_0 a1_1 t192 t193 _ A5.out).mono ?_
  rintro e w17 ⟨rfl, hb⟩
  refine ⟨_, rfl, ?_⟩
  replace BK188 := kb_ BK188 hb
  replace BK189 := kb_ BK189 hb
  replace BK190 := kb_ BK190 hb
  replace HB := hb_ HB (e_ GE188 (e_ GE189 (e_ GE190 e0_))) hb
  (try clear hb)
  (try clear hb2)
  (try clear hk)
  (try clear hi)
  refine hK.out _ _ ⟨(kc_ BK188.out 0).trans rfl, (kc_ BK188.out 1).trans rfl, (kc_ BK189.out 0).trans rfl, (kc_ BK189.out 1).trans rfl⟩ (fun hHeld => ?_)
  clear hK K
  refine norm_ (a' := ?_) ?_ ?_
  rotate_left
  ·show Act.put _ (some 13) _ = _
   simp only [Act.put, ls_, lz_, lc_, i64_w, i32_w]
   rfl
  refine on_ (N := some 14) 3 (bz 8 15) rfl rfl HT_ (by kernel_rfl) (by decide) (fun K hK => ?_)
  refine goes_ Tryz.func67 (by kernel_rfl) rfl #[.agg #[.int .i64 a0_0, .int .i64 a0_1], .agg #[.int .i64 t192, .int .i64 t193]] (by rfl) rfl rfl (by (try simp only [lm_, lq_, lx_]); first | done | rfl | (simp only [ld_, lt_]; rfl)) ?_
  with_reducible refine (rat_Add.calls k a0_0 a0_1 t192 t193 t194 t195 t196 _ A6.out).mono ?_
  rintro e w18 ⟨rfl, hb⟩
  refine ⟨_, rfl, ?_⟩
  replace BK188 := kb_ BK188 hb
  replace BK189 := kb_ BK189 hb
  replace BK190 := kb_ BK190 hb
  replace HB := hb_ HB (e_ GE188 (e_ GE189 (e_ GE190 e0_))) hb
  (try clear hb)
  (try clear hb2)
  (try clear hk)
  (try clear hi)
  refine hK.out _ _ ⟨(kc_ BK188.out 0).trans rfl, (kc_ BK188.out 1).trans rfl, (kc_ BK189.out 0).trans rfl, (kc_ BK189.out 1).trans rfl⟩ (fun hHeld => ?_)
  clear hK K
  refine norm_ (a' := ?_) ?_ ?_
  rotate_left
  ·show Act.put _ (some 14) _ = _
   simp only [Act.put, ls_, lz_, lc_, i64_w, i32_w]
   rfl
  refine pu_ (v := ?_) (a' := ?_) 4 15 (bz 8 31) rfl rfl HT_ (by kernel_rfl) (fun _ _ _ h => h) (by rfl) ?_ ?_ ?_
  rotate_left; (intro w'; go_simp; with_reducible rfl); rotate_left; (simp only [Act.put, ls_, lz_, lc_, i64_w, i32_w]; rfl)
  refine pu_ (v := ?_) (a' := ?_) 5 16 (bz 8 63) rfl rfl HT_ (by kernel_rfl) (fun _ _ _ h => h) (by rfl) ?_ ?_ ?_
  rotate_left; (intro w'; go_simp; with_reducible rfl); rotate_left; (simp only [Act.put, ls_, lz_, lc_, i64_w, i32_w]; rfl)
  refine on_ (N := none) 6 (bz 8 127) rfl rfl HT_ (by kernel_rfl) (by decide) (fun K hK => ?_)
  have hs19 : w18.cell? ⟨gb190, 0, none⟩ = some (.int .i64 0) := (kc_ BK190.out 0).trans rfl
  have hfs19 := kf_ BK190.out 0
  have hns19_0 := NB188_190.out
  have hns19_1 := NB189_190.out
  have hms19_0 := NB190_188.out
  have hms19_1 := NB190_189.out
  have hs20 : w18.cell? ⟨gb190, 1, none⟩ = some (.int .i64 0) := (kc_ BK190.out 1).trans rfl
  have hfs20 := kf_ BK190.out 1
  have hns20_0 := NB188_190.out
  have hns20_1 := NB189_190.out
  have hms20_0 := NB190_188.out
  have hms20_1 := NB190_189.out
  refine skip_ (w1 := ?_) (by rfl) rfl ?_ ?_
  rotate_left
  ·go_simp
   rfl
  refine hK.out _ _ ⟨((cell_far (p := ⟨gb190, _, none⟩) NB188_190.out _).trans (((cell_far (p := ⟨gb190, _, none⟩) NB188_190.out _).trans (hHeld.1)))), ((cell_far (p := ⟨gb190, _, none⟩) NB188_190.out _).trans (((cell_far (p := ⟨gb190, _, none⟩) NB188_190.out _).trans (hHeld.2.1)))), ((cell_far (p := ⟨gb190, _, none⟩) NB189_190.out _).trans (((cell_far (p := ⟨gb190, _, none⟩) NB189_190.out _).trans (hHeld.2.2.1)))), ((cell_far (p := ⟨gb190, _, none⟩) NB189_190.out _).trans (((cell_far (p := ⟨gb190, _, none⟩) NB189_190.out _).trans (hHeld.2.2.2))))⟩ (fun hHeld => ?_)
  clear hK K
  refine pu_ (v := ?_) (a' := ?_) 7 5 (bz 8 255) rfl rfl HT_ (by kernel_rfl) (fun _ _ _ h => h) (by rfl) ?_ ?_ ?_
  rotate_left; (intro w'; go_simp; with_reducible rfl); rotate_left; (simp only [Act.put, ls_, lz_, lc_, i64_w, i32_w]; rfl)
  refine done_ (done_of HT_.out (by kernel_rfl)) ?_
  try go_wp2
  refine bodyPost_ret (results_ct rfl _ _ gb190 25 #[.int .i64 t194, .int .i64 t195] (0, 0) _ rfl (by (with_reducible repeat first | apply kn_ | apply kd_ | apply ka_); refine blk_put (cs := #[.int .i64 t194, .int .i64 0]) ?_ 1 _ rfl; (with_reducible repeat first | apply kn_ | apply kd_ | apply ka_); refine blk_put (cs := #[.int .i64 0, .int .i64 0]) ?_ 0 _ rfl; (with_reducible repeat first | apply kn_ | apply kd_ | apply ka_); exact BK190.out) Tryz.underlying25 rfl (by kernel_rfl)) rfl ?_
  exact ⟨by first | rfl | (simp [errW_none, errW_some] <;> rfl) | (simp [*, errW_none, errW_some] <;> rfl), by repeat (first | (with_reducible first | exact HB.out | apply ba_ | apply pd_ | apply d1_ | refine bs_ ?_ GE188.out | refine bs_ ?_ GE189.out | refine bs_ ?_ GE190.out) | exact HB.out)⟩
 ·replace c4 := bf_ c4
  subst c4
  have H1 : ((rat_zero.f).bind fun bt197 => (some (bt197.1, bt197.2, 2))) = some (r1, r2, r3) := by rw [if_neg (show ¬ (false = true) by decide)] at H; exact H
  clear H; have H := H1; clear H1
  replace H := ob_ H
  obtain ⟨⟨t197, t198⟩, A210, H⟩ := H
  replace H : (some (t197, t198, 2)) = some (r1, r2, r3) := H
  have A21 := sd_ A210
  clear A210
  simp only [Option.some.injEq, Prod.mk.injEq] at H
  obtain ⟨rfl, rfl, rfl⟩ := H
  go_enter Tryz.func46, Tryz.ntmps46
  go_wp2_with (first | ((with_reducible refine gate_dst (N := 2) rfl ?_); refine box_event ?hg (N := 2) ?hd (cs := #[.int .i64 a0_0, .int .i64 a0_1]) (t := 25) ?hr ?_; (case hd => rfl); (case hg => rfl); (case hr => first | (go_simp; done) | (go_simp; rfl)); intro gb188 hg w22 hbox hb; have BK188 := sd_ hbox; have GW188 := gw_ HB e0_ hg; have GE188 := GW188; replace HB := hb_ HB e0_ hb; clear hb hbox hg) | ((with_reducible refine gate_dst (N := 3) rfl ?_); refine box_event ?hg (N := 3) ?hd (cs := #[.int .i64 a1_0, .int .i64 a1_1]) (t := 25) ?hr ?_; (case hd => rfl); (case hg => rfl); (case hr => first | (go_simp; done) | (go_simp; rfl)); intro gb189 hg w23 hbox hb; have BK189 := sd_ hbox; have GW189 := gw_ HB (e_ GE188 e0_) hg; have GE189 := GW189; have NB188_189 := nb_ BK188 hg; have NB189_188 := sy_ NB188_189; replace BK188 := kb_ BK188 hb; replace HB := hb_ HB (e_ GE188 e0_) hb; clear hb hbox hg) | ((with_reducible refine gate_dst (N := 4) rfl ?_); refine box_event ?hg (N := 4) ?hd (cs := #[.int .i64 0, .int .i64 0]) (t := 25) ?hr ?_; (case hd => rfl); (case hg => rfl); (case hr => first | (go_simp; done) | (go_simp; rfl)); intro gb190 hg w24 hbox hb; have BK190 := sd_ hbox; have GW190 := gw_ HB (e_ GE188 (e_ GE189 e0_)) hg; have GE190 := GW190; have NB188_190 := nb_ BK188 hg; have NB190_188 := sy_ NB188_190; have NB189_190 := nb_ BK189 hg; have NB190_189 := sy_ NB189_190; replace BK188 := kb_ BK188 hb; replace BK189 := kb_ BK189 hb; replace HB := hb_ HB (e_ GE188 (e_ GE189 e0_)) hb; clear hb hbox hg; have hnb25 := NB188_189.out; have hnc25 := NB189_188.out; have hnb26 := NB188_190.out; have hnc26 := NB190_188.out; have hcz27_0 : w24.cell? ⟨gb188, 0, none⟩ = some (.int .i64 a0_0) := (kc_ BK188.out 0).trans rfl; have hcz27_1 : w24.cell? ⟨gb188, 1, none⟩ = some (.int .i64 a0_1) := (kc_ BK188.out 1).trans rfl; have hfz27_0 := kf_ BK188.out 0; have hfz27_1 := kf_ BK188.out 1; have hnb28 := NB189_190.out; have hnc28 := NB190_189.out; have hcz29_0 : w24.cell? ⟨gb189, 0, none⟩ = some (.int .i64 a1_0) := (kc_ BK189.out 0).trans rfl; have hcz29_1 : w24.cell? ⟨gb189, 1, none⟩ = some (.int .i64 a1_1) := (kc_ BK189.out 1).trans rfl; have hfz29_0 := kf_ BK189.out 0; have hfz29_1 := kf_ BK189.out 1) | ((with_reducible refine gate_callee (f := 66) rfl ?_); refine goesL_ (some 8) rfl rfl Tryz.func66 (by kernel_rfl) rfl #[.agg #[.int .i64 a0_0, .int .i64 a0_1], .agg #[.int .i64 a1_0, .int .i64 a1_1]] rfl (by (try simp only [lm_, lq_, lx_]); first | done | rfl | (simp only [ld_, lt_]; rfl)) ?_; (with_reducible refine (rat_both.calls k a0_0 a0_1 a1_0 a1_1 false _ A3.out).mono ?_); rintro e w30 ⟨rfl, hb⟩; refine ⟨_, rfl, ?_⟩; replace BK188 := kb_ BK188 hb; replace BK189 := kb_ BK189 hb; replace BK190 := kb_ BK190 hb; replace HB := hb_ HB (e_ GE188 (e_ GE189 (e_ GE190 e0_))) hb; (try clear hb); (try clear hb2); (try clear hk); (try clear hi)) | ((with_reducible refine gate_callee (f := 57) rfl ?_); refine goesL_ (some 10) rfl rfl Tryz.func57 (by kernel_rfl) rfl #[] rfl (by (try simp only [lm_, lq_, lx_]); first | done | rfl | (simp only [ld_, lt_]; rfl)) ?_; (with_reducible refine (rat_zero.calls  t197 t198 _ A21.out).mono ?_); rintro e w31 ⟨rfl, hb⟩; refine ⟨_, rfl, ?_⟩; replace BK188 := kb_ BK188 hb; replace BK189 := kb_ BK189 hb; replace BK190 := kb_ BK190 hb; replace HB := hb_ HB (e_ GE188 (e_ GE189 (e_ GE190 e0_))) hb; (try clear hb); (try clear hb2); (try clear hk); (try clear hi); have hcz32_0 : w31.cell? ⟨gb190, 0, none⟩ = some (.int .i64 0) := (kc_ BK190.out 0).trans rfl; have hcz32_1 : w31.cell? ⟨gb190, 1, none⟩ = some (.int .i64 0) := (kc_ BK190.out 1).trans rfl; have hfz32_0 := kf_ BK190.out 0; have hfz32_1 := kf_ BK190.out 1))
  refine bodyPost_ret (results_ct rfl _ _ gb190 25 #[.int .i64 t197, .int .i64 t198] (0, 0) _ rfl (by (with_reducible repeat first | apply kn_ | apply kd_ | apply ka_); refine blk_put (cs := #[.int .i64 t197, .int .i64 0]) ?_ 1 _ rfl; (with_reducible repeat first | apply kn_ | apply kd_ | apply ka_); refine blk_put (cs := #[.int .i64 0, .int .i64 0]) ?_ 0 _ rfl; (with_reducible repeat first | apply kn_ | apply kd_ | apply ka_); exact BK190.out) Tryz.underlying25 rfl (by kernel_rfl)) rfl ?_
  exact ⟨by first | rfl | (simp [errW_none, errW_some] <;> rfl) | (simp [*, errW_none, errW_some] <;> rfl), by repeat (first | (with_reducible first | exact HB.out | apply ba_ | apply pd_ | apply d1_ | refine bs_ ?_ GE188.out | refine bs_ ?_ GE189.out | refine bs_ ?_ GE190.out) | exact HB.out)⟩

end Go.Proofs.YtdiccfonlojlfaaGreatDoor.P
