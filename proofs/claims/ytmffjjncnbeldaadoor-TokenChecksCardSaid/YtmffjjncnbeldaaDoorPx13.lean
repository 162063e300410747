-- Written by a program of this session (wip/tools/xprint.py, over the kit's print): Lean checks it.
import Derived.Test.YtmffjjncnbeldaaDoorPx0
import Derived.Test.YtmffjjncnbeldaaDoorPx7
import Derived.Test.YtmffjjncnbeldaaDoorPx9
import Derived.Test.YtmffjjncnbeldaaDoorPx12
namespace Go.Proofs.YtmffjjncnbeldaaDoor.P
open Go.RowKit Go.Proofs.YtmffjjncnbeldaaDoorW.PrintWords Go.Proofs.YtmffjjncnbeldaaDoorW.PrintLast Go.Proofs.YtmffjjncnbeldaaDoorW.PrintMore
attribute [local go_sem] max2_int min2_int max_two min_two max_three min_three max_four min_four   -- for this text's walks alone
set_option linter.unusedVariables false
set_option linter.unusedSimpArgs false

/-! ### neumeref08_Check: function 14 -/
mutual
def neumeref08_Check.l0 : Nat → List (S34) → Int → Option (Bool)
 | 0, _, _ => none
 | k + 1, x0, x3 => if x3 < (x0.length : Int) then (if 0 ≤ x3 then (if ((rd_T34 x0 x3).f2) < 0 then (neumeref08_Check.j1 k x0 x3 true ((rd_T34 x0 x3).f0) ((rd_T34 x0 x3).f1) ((rd_T34 x0 x3).f2)) else (if x3 > 0 then (if 0 ≤ (wrap64 (x3 - 1)) then (if (wrap64 (x3 - 1)) < (x0.length : Int) then (if ((rd_T34 x0 x3).f2) < ((rd_T34 x0 (wrap64 (x3 - 1))).f2) then (neumeref08_Check.j1 k x0 x3 true ((rd_T34 x0 x3).f0) ((rd_T34 x0 x3).f1) ((rd_T34 x0 x3).f2)) else ((neumeref08_raw.f ((rd_T34 x0 (wrap64 (x3 - 1))).f0) ((rd_T34 x0 (wrap64 (x3 - 1))).f1) ((rd_T34 x0 (wrap64 (x3 - 1))).f2)).bind fun t278 => (if (wrap64 (((rd_T34 x0 x3).f2) - ((rd_T34 x0 (wrap64 (x3 - 1))).f2))) < (t278.size : Int) then (neumeref08_Check.j1 k x0 x3 true ((rd_T34 x0 x3).f0) ((rd_T34 x0 x3).f1) ((rd_T34 x0 x3).f2)) else (neumeref08_Check.j1 k x0 x3 ((((rd_T34 x0 x3).f0) == 8) != (x3 == (wrap64 ((x0.length : Int) - 1)))) ((rd_T34 x0 x3).f0) ((rd_T34 x0 x3).f1) ((rd_T34 x0 x3).f2))))) else (none)) else (none)) else (neumeref08_Check.j1 k x0 x3 ((((rd_T34 x0 x3).f0) == 8) != (x3 == (wrap64 ((x0.length : Int) - 1)))) ((rd_T34 x0 x3).f0) ((rd_T34 x0 x3).f1) ((rd_T34 x0 x3).f2)))) else (none)) else (some false)
def neumeref08_Check.j1 : Nat → List (S34) → Int → Bool → Int → ByteArray → Int → Option (Bool)
 | 0, _, _, _, _, _, _ => none
 | k + 1, x0, x3, x66, x275000, x275001, x275002 => if x66 = true then (some false) else (if x275000 = 8 then (some (x275001.toList == ([] : List UInt8))) else ((neumeref08_raw.f x275000 x275001 x275002).bind fun t279 => (if (t279.size : Int) = 0 then (neumeref08_Check.j2 k x0 x3 t279 true x275000 x275001 x275002) else (if (t279.size : Int) > 65536 then (neumeref08_Check.j2 k x0 x3 t279 true x275000 x275001 x275002) else ((neumeref08_skip.f k t279 0).bind fun t280 => (neumeref08_Check.j2 k x0 x3 t279 (t280 != 0) x275000 x275001 x275002))))))
def neumeref08_Check.j2 : Nat → List (S34) → Int → ByteArray → Bool → Int → ByteArray → Int → Option (Bool)
 | 0, _, _, _, _, _, _, _ => none
 | k + 1, x0, x3, x5, x87, x275000, x275001, x275002 => if x87 = true then (some false) else ((neumeref08_next.f k x5 0).bind fun bt281 => (if bt281.2.2.1 = 0 then (if bt281.1 = x275000 then (if bt281.2.1 = (x5.size : Int) then (neumeref08_Check.l0 k x0 (wrap64 (x3 + 1))) else (some false)) else (some false)) else (some false)))
end
def neumeref08_Check.f (k : Nat) (l0 : List (S34)) : Option (Bool) := neumeref08_Check.l0 k l0 0
theorem neumeref08_Check.mono_l : ∀ k, (∀ y0 y1, LeO (neumeref08_Check.l0 k y0 y1) (neumeref08_Check.l0 (k + 1) y0 y1)) ∧ (∀ y0 y1 y2 y3 y4 y5, LeO (neumeref08_Check.j1 k y0 y1 y2 y3 y4 y5) (neumeref08_Check.j1 (k + 1) y0 y1 y2 y3 y4 y5)) ∧ (∀ y0 y1 y2 y3 y4 y5 y6, LeO (neumeref08_Check.j2 k y0 y1 y2 y3 y4 y5 y6) (neumeref08_Check.j2 (k + 1) y0 y1 y2 y3 y4 y5 y6))
 | 0 => ⟨fun _ _ r h => by simp [neumeref08_Check.l0] at h, fun _ _ _ _ _ _ r h => by simp [neumeref08_Check.j1] at h, fun _ _ _ _ _ _ _ r h => by simp [neumeref08_Check.j2] at h⟩
 | k + 1 => by
  obtain ⟨ih0, ih1, ih2⟩ := neumeref08_Check.mono_l k
  refine ⟨?_, ?_, ?_⟩
  ·intro y0 y1
   unfold neumeref08_Check.l0
   repeat' first
   | (with_reducible exact ih0 _ _)
   | (with_reducible exact ih1 _ _ _ _ _ _)
   | (with_reducible exact ih2 _ _ _ _ _ _ _)
   | (with_reducible exact neumeref08_next.mono _ _ _)
   | (with_reducible exact neumeref08_skip.mono _ _ _)
   | (with_reducible exact LeO.refl _)
   | (with_reducible exact LeO.none _)
   | (with_reducible refine LeO.ite ?_ ?_)
   | (with_reducible refine LeO.bind ?_ (fun _ => ?_))
   | exact ih0 _ _
   | exact ih1 _ _ _ _ _ _
   | exact ih2 _ _ _ _ _ _ _
   | exact neumeref08_next.mono _ _ _
   | exact neumeref08_skip.mono _ _ _
   | exact LeO.none _
   | refine LeO.ite ?_ ?_
   | refine LeO.bind ?_ (fun _ => ?_)
  ·intro y0 y1 y2 y3 y4 y5
   unfold neumeref08_Check.j1
   repeat' first
   | (with_reducible exact ih0 _ _)
   | (with_reducible exact ih1 _ _ _ _ _ _)
   | (with_reducible exact ih2 _ _ _ _ _ _ _)
   | (with_reducible exact neumeref08_next.mono _ _ _)
   | (with_reducible exact neumeref08_skip.mono _ _ _)
   | (with_reducible exact LeO.refl _)
   | (with_reducible exact LeO.none _)
   | (with_reducible refine LeO.ite ?_ ?_)
   | (with_reducible refine LeO.bind ?_ (fun _ => ?_))
   | exact ih0 _ _
   | exact ih1 _ _ _ _ _ _
   | exact ih2 _ _ _ _ _ _ _
   | exact neumeref08_next.mono _ _ _
   | exact neumeref08_skip.mono _ _ _
   | exact LeO.none _
   | refine LeO.ite ?_ ?_
   | refine LeO.bind ?_ (fun _ => ?_)
  ·intro y0 y1 y2 y3 y4 y5 y6
   unfold neumeref08_Check.j2
   repeat' first
   | (with_reducible exact ih0 _ _)
   | (with_reducible exact ih1 _ _ _ _ _ _)
   | (with_reducible exact ih2 _ _ _ _ _ _ _)
   | (with_reducible exact neumeref08_next.mono _ _ _)
   | (with_reducible exact neumeref08_skip.mono _ _ _)
   | (with_reducible exact LeO.refl _)
   | (with_reducible exact LeO.none _)
   | (with_reducible refine LeO.ite ?_ ?_)
   | (with_reducible refine LeO.bind ?_ (fun _ => ?_))
   | exact ih0 _ _
   | exact ih1 _ _ _ _ _ _
   | exact ih2 _ _ _ _ _ _ _
   | exact neumeref08_next.mono _ _ _
   | exact neumeref08_skip.mono _ _ _
   | exact LeO.none _
   | refine LeO.ite ?_ ?_
   | refine LeO.bind ?_ (fun _ => ?_)
theorem neumeref08_Check.mono : ∀ a0 k, LeO (neumeref08_Check.f k a0) (neumeref08_Check.f (k + 1) a0) := by
 intro a0 k
 obtain ⟨ih0, ih1, ih2⟩ := neumeref08_Check.mono_l k
 unfold neumeref08_Check.f
 repeat' first
   | (with_reducible exact ih0 _ _)
   | (with_reducible exact ih1 _ _ _ _ _ _)
   | (with_reducible exact ih2 _ _ _ _ _ _ _)
   | (with_reducible exact neumeref08_next.mono _ _ _)
   | (with_reducible exact neumeref08_skip.mono _ _ _)
   | (with_reducible exact LeO.refl _)
   | (with_reducible exact LeO.none _)
   | (with_reducible refine LeO.ite ?_ ?_)
   | (with_reducible refine LeO.bind ?_ (fun _ => ?_))
   | exact ih0 _ _
   | exact ih1 _ _ _ _ _ _
   | exact ih2 _ _ _ _ _ _ _
   | exact neumeref08_next.mono _ _ _
   | exact neumeref08_skip.mono _ _ _
   | exact LeO.none _
   | refine LeO.ite ?_ ?_
   | refine LeO.bind ?_ (fun _ => ?_)
def neumeref08_Check.T5 : Bool × List (List Nat × List Nat) := (true, [([], []), ([0], [0]), ([1], [1]), ([2], [2]), ([3], [3]), ([4, 3], [3, 4]), ([5, 3, 3], [3, 5]), ([6], [6]), ([7, 6], [6, 7]), ([6], [6]), ([6], [6]), ([10, 6], [6, 10]), ([9, 11, 6], [6, 9, 11]), ([12, 6], [6, 12]), ([13, 6], [6, 13]), ([8, 14, 6], [6, 8, 14]), ([15, 6, 6], [6, 15]), ([16], [16]), ([17, 16], [16, 17]), ([16], [16]), ([16], [16]), ([20, 16], [16, 20]), ([19, 21, 16], [16, 19, 21]), ([22, 16], [16, 22]), ([23, 16], [16, 23]), ([18, 24, 16], [16, 18, 24]), ([16], [16]), ([16], [16]), ([27, 16], [16, 27]), ([26, 28, 16], [16, 26, 28]), ([29, 16], [16, 29]), ([30, 16, 16], [16, 30]), ([31, 16], [16, 31]), ([25, 32, 16], [16, 25, 32]), ([16, 33, 6], [6, 16, 33]), ([6, 34, 3], [3, 6, 34]), ([3, 35], [3, 35]), ([36, 31], [36]), ([37], [37]), ([38, 37], [37, 38]), ([39, 37], [37, 39]), ([37], [37]), ([37], [37]), ([42, 37], [37, 42]), ([43, 37], [37, 43]), ([41, 44, 37], [37, 41, 44]), ([40, 45, 37], [37, 40, 45]), ([37, 46], [37, 46])])
def neumeref08_Check.B5 : List Nat := [0, 1, 3, 7, 15, 31, 63, 127, 255, 127, 127, 1151, 3711, 7807, 15999, 32767, 65535, 131071, 262143, 131071, 131071, 1179647, 3801087, 7995391, 16383999, 33554431, 131071, 131071, 134348799, 469893119, 1006764031, 2080505855, 4227989503, 8589934591, 17179869183, 34359738367, 68719476735, 137438953471, 274877906943, 549755813887, 1099511627775, 274877906943, 274877906943, 4672924418047, 13469017440255, 33260226740223, 70368744177663, 140737488355327]
theorem neumeref08_Check.tab5 : rtab .any (opsOf Tryd.f14 5) = neumeref08_Check.T5 := by kernel_rfl
theorem neumeref08_Check.bits5 : waitsOk neumeref08_Check.T5.2 neumeref08_Check.B5 = true := by kernel_rfl
set_option maxHeartbeats 8000000 in
set_option maxRecDepth 100000 in
theorem neumeref08_Check.calls (k : Nat) (A0 : Option Addr) (c0 : Nat) (l0 : List (S34)) (r : Bool) (w : World) (hr0 : Kd.C k34 w A0 l0.length l0) (hc0 : l0.length ≤ c0) (h : neumeref08_Check.f k l0 = some r) :
  Calls Tryd.prog 14 #[.slice A0 l0.length c0] w fun e w' => e = .returned (.bool r) ∧ Below w.heap.size w w' := by
 have hu34 := Tryd.underlying34
 have hu26 := Tryd.underlying26
 have HR0 := sd_ hr0
 have HC0 := sd_ hc0
 clear hr0 hc0
 have HB := sd_ (Below.refl w.heap.size w)
 have H : (neumeref08_Check.l0 k l0 0) = some r := h
 clear h
 have H' := sd_ H
 clear H
 go_enter Tryd.func14, Tryd.ntmps14
 go_wp2
 go_loopg [3] k (fun kq v3 w' => ∃ (x3_1 : Int), v3 = .int .i64 x3_1 ∧ Aside0 (neumeref08_Check.l0 kq l0 x3_1 = some r) ∧ Aside0 (kq ≤ k) ∧ Aside0 (Below w.heap.size w w'))
 case atStart => exact ⟨(0), (by first | rfl | (simp; done) | (simp [*]; done) | (simp [bne]; done)), H', ⟨Nat.le_refl _⟩, ⟨by repeat (first | (with_reducible first | exact HB.out | apply ba_ | apply pd_ | apply d1_) | exact HB.out)⟩⟩
 case round =>
  clear H'
  try clear c1
  obtain ⟨x3_1, rfl, HA, HK1, HB⟩ := hrel
  cases gk with
  | zero => exact absurd HA.out (by simp [neumeref08_Check.l0])
  | succ k1 =>
   have H := HA.out
   clear HA
   simp only [neumeref08_Check.l0] at H
   by_cases c2 : x3_1 < (l0.length : Int)
   ·rw [if_pos c2] at H
    have c2b0 : decide (x3_1 < (l0.length : Int)) = true := dt_ c2
    clear c2
    by_cases c3 : 0 ≤ x3_1
    ·rw [if_pos c3] at H
     have c3b0 : decide (0 ≤ x3_1) = true := dt_ c3
     clear c3
     have HC4 := sd_ H
     clear H
     have p273 : 0 ≤ (x3_1 : Int) := od_ (by first | (with_reducible assumption) | assumption)
     have q273 : x3_1 < (l0.length : Int) := od_ (by first | (with_reducible assumption) | assumption)
     obtain ⟨ad273, e273, hx273_0, hx273_1, hx273_2⟩ := at_T34 HR0.out x3_1 p273 q273
     cases e273
     replace hx273_0 := (HB.out.cell (wb_ w _ hx273_0)).trans hx273_0
     replace hx273_1 := (HB.out.cell (wb_ w _ hx273_1)).trans hx273_1
     replace hx273_2 := (HB.out.cell (wb_ w _ hx273_2)).trans hx273_2
     replace p273 := eq_true p273
     replace q273 := eq_true q273
     go_upto_region 5 with (first | ((with_reducible refine gate_dst (N := 4) rfl ?_); (try (refine gate_guard (by rfl) ?_; dsimp only)); refine box_event ?hg (N := 4) ?hd (cs := #[.int .i64 0, .string (⟨#[]⟩ : ByteArray), .int .i64 0]) (t := 34) ?hr ?_; (case hd => rfl); (case hg => rfl); (case hr => first | (go_simp; done) | (go_simp; rfl)); intro gb274 hg w5 hbox hb; have BK274 := sd_ hbox; have GW274 := gw_ HB e0_ hg; have GE274 := GW274; replace HB := hb_ HB e0_ hb; clear hb hbox hg; have hcz6_0 : w5.cell? ⟨gb274, 0, none⟩ = some (.int .i64 0) := (kc_ BK274.out 0).trans rfl; have hcz6_1 : w5.cell? ⟨gb274, 1, none⟩ = some (.string (⟨#[]⟩ : ByteArray)) := (kc_ BK274.out 1).trans rfl; have hcz6_2 : w5.cell? ⟨gb274, 2, none⟩ = some (.int .i64 0) := (kc_ BK274.out 2).trans rfl; have hfz6_0 := kf_ BK274.out 0; have hfz6_1 := kf_ BK274.out 1; have hfz6_2 := kf_ BK274.out 2))
     (try simp only [Act.put, ls_, lz_, lc_])
     go_cut [66] (fun v66 wc => ∃ (kq : Nat) (x66_3 : Bool), v66 = .bool x66_3 ∧ Aside0 (neumeref08_Check.j1 kq l0 x3_1 x66_3 ((rd_T34 l0 x3_1).f0) ((rd_T34 l0 x3_1).f1) ((rd_T34 l0 x3_1).f2) = some r) ∧ Aside0 (kq ≤ k1) ∧ Aside0 (wc.heap[gb274]? = some (.cells #[.int .i64 ((rd_T34 l0 x3_1).f0), .string ((rd_T34 l0 x3_1).f1), .int .i64 ((rd_T34 l0 x3_1).f2)] 34 (0, 0))) ∧ Aside0 (Below w.heap.size w wc))
     case first =>
      have H := HC4.out
      clear HC4
      by_cases c7 : ((rd_T34 l0 x3_1).f2) < 0
      ·rw [if_pos c7] at H
       have c7b0 : decide (((rd_T34 l0 x3_1).f2) < 0) = true := dt_ c7
       clear c7
       (first | rw [c7b0] | (simp only [i64_w, i32_w]; rw [c7b0]) | skip)
       have H' := sd_ H
       clear H
       try go_wp2
       have n0_ : Aside0 ((((w5.setCell ⟨gb274, 0, none⟩ (.int .i64 ((rd_T34 l0 x3_1).f0))).setCell ⟨gb274, 1, none⟩ (.string ((rd_T34 l0 x3_1).f1))).setCell ⟨gb274, 2, none⟩ (.int .i64 ((rd_T34 l0 x3_1).f2))).heap[gb274]? = some (.cells #[.int .i64 ((rd_T34 l0 x3_1).f0), .string ((rd_T34 l0 x3_1).f1), .int .i64 ((rd_T34 l0 x3_1).f2)] 34 (0, 0))) := ⟨by (with_reducible repeat first | apply kn_ | apply kd_ | apply ka_); refine blk_put (cs := #[.int .i64 ((rd_T34 l0 x3_1).f0), .string ((rd_T34 l0 x3_1).f1), .int .i64 0]) ?_ 2 _ rfl; (with_reducible repeat first | apply kn_ | apply kd_ | apply ka_); refine blk_put (cs := #[.int .i64 ((rd_T34 l0 x3_1).f0), .string (⟨#[]⟩ : ByteArray), .int .i64 0]) ?_ 1 _ rfl; (with_reducible repeat first | apply kn_ | apply kd_ | apply ka_); refine blk_put (cs := #[.int .i64 0, .string (⟨#[]⟩ : ByteArray), .int .i64 0]) ?_ 0 _ rfl; (with_reducible repeat first | apply kn_ | apply kd_ | apply ka_); exact BK274.out⟩
       have n1_ : Aside0 (Below w.heap.size w (((w5.setCell ⟨gb274, 0, none⟩ (.int .i64 ((rd_T34 l0 x3_1).f0))).setCell ⟨gb274, 1, none⟩ (.string ((rd_T34 l0 x3_1).f1))).setCell ⟨gb274, 2, none⟩ (.int .i64 ((rd_T34 l0 x3_1).f2)))) := ⟨by repeat (first | (with_reducible first | exact HB.out | apply ba_ | apply pd_ | apply d1_ | refine bs_ ?_ GE274.out) | exact HB.out)⟩
       (try clear BK274)
       (try clear HB)
       generalize (((w5.setCell ⟨gb274, 0, none⟩ (.int .i64 ((rd_T34 l0 x3_1).f0))).setCell ⟨gb274, 1, none⟩ (.string ((rd_T34 l0 x3_1).f1))).setCell ⟨gb274, 2, none⟩ (.int .i64 ((rd_T34 l0 x3_1).f2))) = w8 at n0_ n1_ ⊢
       have BK274 := n0_
       have HB := n1_
       clear n0_ n1_
       replace BK274 := sd_ (kd_ BK274.out)
       replace HB := sd_ (d1_ HB.out)
       refine start_ (n := 48) (S := fun w' => w'.cell? ⟨gb274, 0, none⟩ = some (.int .i64 ((rd_T34 l0 x3_1).f0)) ∧ w'.cell? ⟨gb274, 1, none⟩ = some (.string ((rd_T34 l0 x3_1).f1)) ∧ w'.cell? ⟨gb274, 2, none⟩ = some (.int .i64 ((rd_T34 l0 x3_1).f2))) (ds := []) (Array.replicate 48 false) (by kernel_rfl) rfl rfl ⟨(kc_ BK274.out 0).trans rfl, (kc_ BK274.out 1).trans rfl, (kc_ BK274.out 2).trans rfl⟩ (fun hHeld => ?_); refine with_tabW neumeref08_Check.tab5 neumeref08_Check.bits5 (fun HT_ HW_ => ?_)
       generalize w8.drew = w9 at BK274 HB hHeld ⊢
       refine pu_ (v := ?_) (a' := ?_) 0 19 (bz 48 1) rfl rfl HT_ (by kernel_rfl) (fun _ _ _ h => h) (by rfl) ?_ ?_ ?_
       rotate_left; (intro w'; go_simp; with_reducible rfl); rotate_left; (simp only [Act.put, ls_, lz_, lc_, i64_w, i32_w]; rfl)
       refine ta_ (v := ?_) (a' := ?_) 1 20 (bz 48 3) rfl rfl HT_ HW_ (by kernel_rfl) (fun _ _ _ h => h) (by rfl) ?_ hHeld ?_ ?_
       rotate_left
       ·rintro w' ⟨s0, s1, s2⟩
        go_simp
        with_reducible rfl
       rotate_left
       ·simp only [Act.put, ls_, lz_, lc_, i64_w, i32_w]
        rfl
       refine pu_ (v := ?_) (a' := ?_) 2 21 (bz 48 7) rfl rfl HT_ (by kernel_rfl) (fun _ _ _ h => h) (by rfl) ?_ ?_ ?_
       rotate_left; (intro w'; go_simp; with_reducible rfl); rotate_left; (simp only [Act.put, ls_, lz_, lc_, i64_w, i32_w]; rfl)
       refine pu_ (v := ?_) (a' := ?_) 3 22 (bz 48 15) rfl rfl HT_ (by kernel_rfl) (fun _ _ _ h => h) (by rfl) ?_ ?_ ?_
       rotate_left; (intro w'; go_simp; with_reducible rfl); rotate_left; (simp only [Act.put, ls_, lz_, lc_, i64_w, i32_w]; rfl)
       refine pz_ (a' := ?_) 4 23 (bz 48 31) rfl rfl HT_ (by kernel_rfl) (fun _ _ _ h => h) (by rfl) ?_ ?_
       rotate_left
       ·simp only [Act.put, ls_, lz_, lc_, i64_w, i32_w]
        rfl
       refine pz_ (a' := ?_) 5 24 (bz 48 63) rfl rfl HT_ (by kernel_rfl) (fun _ _ _ h => h) (by rfl) ?_ ?_
       rotate_left
       ·simp only [Act.put, ls_, lz_, lc_, i64_w, i32_w]
        rfl
       refine pz_ (a' := ?_) 6 25 (bz 48 127) rfl rfl HT_ (by kernel_rfl) (fun _ _ _ h => h) (by rfl) ?_ ?_
       rotate_left
       ·simp only [Act.put, ls_, lz_, lc_, i64_w, i32_w]
        rfl
       refine pz_ (a' := ?_) 7 26 (bz 48 255) rfl rfl HT_ (by kernel_rfl) (fun _ _ _ h => h) (by rfl) ?_ ?_
       rotate_left
       ·simp only [Act.put, ls_, lz_, lc_, i64_w, i32_w]
        rfl
       refine pz_ (a' := ?_) 8 27 (bz 48 511) rfl rfl HT_ (by kernel_rfl) (fun _ _ _ h => h) (by rfl) ?_ ?_
       rotate_left
       ·simp only [Act.put, ls_, lz_, lc_, i64_w, i32_w]
        rfl
       refine pz_ (a' := ?_) 9 28 (bz 48 1023) rfl rfl HT_ (by kernel_rfl) (fun _ _ _ h => h) (by rfl) ?_ ?_
       rotate_left
       ·simp only [Act.put, ls_, lz_, lc_, i64_w, i32_w]
        rfl
       refine pz_ (a' := ?_) 10 29 (bz 48 2047) rfl rfl HT_ (by kernel_rfl) (fun _ _ _ h => h) (by rfl) ?_ ?_
       rotate_left
       ·simp only [Act.put, ls_, lz_, lc_, i64_w, i32_w]
        rfl
       refine pz_ (a' := ?_) 11 30 (bz 48 4095) rfl rfl HT_ (by kernel_rfl) (fun _ _ _ h => h) (by rfl) ?_ ?_
       rotate_left
       ·simp only [Act.put, ls_, lz_, lc_, i64_w, i32_w]
        rfl
       refine pz_ (a' := ?_) 12 31 (bz 48 8191) rfl rfl HT_ (by kernel_rfl) (fun _ _ _ h => h) (by rfl) ?_ ?_
       rotate_left
       ·simp only [Act.put, ls_, lz_, lc_, i64_w, i32_w]
        rfl
       refine pz_ (a' := ?_) 13 32 (bz 48 16383) rfl rfl HT_ (by kernel_rfl) (fun _ _ _ h => h) (by rfl) ?_ ?_
       rotate_left
       ·simp only [Act.put, ls_, lz_, lc_, i64_w, i32_w]
        rfl
       refine pz_ (a' := ?_) 14 33 (bz 48 32767) rfl rfl HT_ (by kernel_rfl) (fun _ _ _ h => h) (by rfl) ?_ ?_
       rotate_left
       ·simp only [Act.put, ls_, lz_, lc_, i64_w, i32_w]
        rfl
       refine pz_ (a' := ?_) 15 34 (bz 48 65535) rfl rfl HT_ (by kernel_rfl) (fun _ _ _ h => h) (by rfl) ?_ ?_
       rotate_left
       ·simp only [Act.put, ls_, lz_, lc_, i64_w, i32_w]
        rfl
       refine pz_ (a' := ?_) 16 35 (bz 48 131071) rfl rfl HT_ (by kernel_rfl) (fun _ _ _ h => h) (by rfl) ?_ ?_
       rotate_left
       ·simp only [Act.put, ls_, lz_, lc_, i64_w, i32_w]
        rfl
       refine pz_ (a' := ?_) 17 36 (bz 48 262143) rfl rfl HT_ (by kernel_rfl) (fun _ _ _ h => h) (by rfl) ?_ ?_
       rotate_left
       ·simp only [Act.put, ls_, lz_, lc_, i64_w, i32_w]
        rfl
       refine pz_ (a' := ?_) 18 37 (bz 48 524287) rfl rfl HT_ (by kernel_rfl) (fun _ _ _ h => h) (by rfl) ?_ ?_
       rotate_left
       ·simp only [Act.put, ls_, lz_, lc_, i64_w, i32_w]
        rfl
       refine pz_ (a' := ?_) 19 38 (bz 48 1048575) rfl rfl HT_ (by kernel_rfl) (fun _ _ _ h => h) (by rfl) ?_ ?_
       rotate_left
       ·simp only [Act.put, ls_, lz_, lc_, i64_w, i32_w]
        rfl
       refine pz_ (a' := ?_) 20 39 (bz 48 2097151) rfl rfl HT_ (by kernel_rfl) (fun _ _ _ h => h) (by rfl) ?_ ?_
       rotate_left
       ·simp only [Act.put, ls_, lz_, lc_, i64_w, i32_w]
        rfl
       refine pz_ (a' := ?_) 21 40 (bz 48 4194303) rfl rfl HT_ (by kernel_rfl) (fun _ _ _ h => h) (by rfl) ?_ ?_
       rotate_left
       ·simp only [Act.put, ls_, lz_, lc_, i64_w, i32_w]
        rfl
       refine pz_ (a' := ?_) 22 41 (bz 48 8388607) rfl rfl HT_ (by kernel_rfl) (fun _ _ _ h => h) (by rfl) ?_ ?_
       rotate_left
       ·simp only [Act.put, ls_, lz_, lc_, i64_w, i32_w]
        rfl
       refine pz_ (a' := ?_) 23 42 (bz 48 16777215) rfl rfl HT_ (by kernel_rfl) (fun _ _ _ h => h) (by rfl) ?_ ?_
       rotate_left
       ·simp only [Act.put, ls_, lz_, lc_, i64_w, i32_w]
        rfl
       refine pz_ (a' := ?_) 24 43 (bz 48 33554431) rfl rfl HT_ (by kernel_rfl) (fun _ _ _ h => h) (by rfl) ?_ ?_
       rotate_left
       ·simp only [Act.put, ls_, lz_, lc_, i64_w, i32_w]
        rfl
       refine pz_ (a' := ?_) 25 44 (bz 48 67108863) rfl rfl HT_ (by kernel_rfl) (fun _ _ _ h => h) (by rfl) ?_ ?_
       rotate_left
       ·simp only [Act.put, ls_, lz_, lc_, i64_w, i32_w]
        rfl
       refine pz_ (a' := ?_) 26 45 (bz 48 134217727) rfl rfl HT_ (by kernel_rfl) (fun _ _ _ h => h) (by rfl) ?_ ?_
       rotate_left
       ·simp only [Act.put, ls_, lz_, lc_, i64_w, i32_w]
        rfl
       refine pz_ (a' := ?_) 27 46 (bz 48 268435455) rfl rfl HT_ (by kernel_rfl) (fun _ _ _ h => h) (by rfl) ?_ ?_
       rotate_left
       ·simp only [Act.put, ls_, lz_, lc_, i64_w, i32_w]
        rfl
       refine pz_ (a' := ?_) 28 47 (bz 48 536870911) rfl rfl HT_ (by kernel_rfl) (fun _ _ _ h => h) (by rfl) ?_ ?_
       rotate_left
       ·simp only [Act.put, ls_, lz_, lc_, i64_w, i32_w]
        rfl
       refine pz_ (a' := ?_) 29 48 (bz 48 1073741823) rfl rfl HT_ (by kernel_rfl) (fun _ _ _ h => h) (by rfl) ?_ ?_
       rotate_left
       ·simp only [Act.put, ls_, lz_, lc_, i64_w, i32_w]
        rfl
       refine pz_ (a' := ?_) 30 49 (bz 48 2147483647) rfl rfl HT_ (by kernel_rfl) (fun _ _ _ h => h) (by rfl) ?_ ?_
       rotate_left
       ·simp only [Act.put, ls_, lz_, lc_, i64_w, i32_w]
        rfl
       refine pz_ (a' := ?_) 31 50 (bz 48 4294967295) rfl rfl HT_ (by kernel_rfl) (fun _ _ _ h => h) (by rfl) ?_ ?_
       rotate_left
       ·simp only [Act.put, ls_, lz_, lc_, i64_w, i32_w]
        rfl
       refine pz_ (a' := ?_) 32 51 (bz 48 8589934591) rfl rfl HT_ (by kernel_rfl) (fun _ _ _ h => h) (by rfl) ?_ ?_
       rotate_left
       ·simp only [Act.put, ls_, lz_, lc_, i64_w, i32_w]
        rfl
       refine pz_ (a' := ?_) 33 52 (bz 48 17179869183) rfl rfl HT_ (by kernel_rfl) (fun _ _ _ h => h) (by rfl) ?_ ?_
       rotate_left
       ·simp only [Act.put, ls_, lz_, lc_, i64_w, i32_w]
        rfl
       refine pz_ (a' := ?_) 34 53 (bz 48 34359738367) rfl rfl HT_ (by kernel_rfl) (fun _ _ _ h => h) (by rfl) ?_ ?_
       rotate_left
       ·simp only [Act.put, ls_, lz_, lc_, i64_w, i32_w]
        rfl
       refine pz_ (a' := ?_) 35 54 (bz 48 68719476735) rfl rfl HT_ (by kernel_rfl) (fun _ _ _ h => h) (by rfl) ?_ ?_
       rotate_left
       ·simp only [Act.put, ls_, lz_, lc_, i64_w, i32_w]
        rfl
       refine pu_ (v := ?_) (a' := ?_) 36 55 (bz 48 137438953471) rfl rfl HT_ (by kernel_rfl) (fun _ _ _ h => h) (by rfl) ?_ ?_ ?_
       rotate_left; (intro w'; go_simp; with_reducible rfl); rotate_left; (simp only [Act.put, ls_, lz_, lc_, i64_w, i32_w]; rfl)
       refine pu_ (v := ?_) (a' := ?_) 37 56 (bz 48 274877906943) rfl rfl HT_ (by kernel_rfl) (fun _ _ _ h => h) (by rfl) ?_ ?_ ?_
       rotate_left; (intro w'; go_simp; with_reducible rfl); rotate_left; (simp only [Act.put, ls_, lz_, lc_, i64_w, i32_w]; rfl)
       refine pz_ (a' := ?_) 38 57 (bz 48 549755813887) rfl rfl HT_ (by kernel_rfl) (fun _ _ _ h => h) (by rfl) ?_ ?_
       rotate_left
       ·simp only [Act.put, ls_, lz_, lc_, i64_w, i32_w]
        rfl
       refine pz_ (a' := ?_) 39 58 (bz 48 1099511627775) rfl rfl HT_ (by kernel_rfl) (fun _ _ _ h => h) (by rfl) ?_ ?_
       rotate_left
       ·simp only [Act.put, ls_, lz_, lc_, i64_w, i32_w]
        rfl
       refine pz_ (a' := ?_) 40 59 (bz 48 2199023255551) rfl rfl HT_ (by kernel_rfl) (fun _ _ _ h => h) (by rfl) ?_ ?_
       rotate_left
       ·simp only [Act.put, ls_, lz_, lc_, i64_w, i32_w]
        rfl
       refine pz_ (a' := ?_) 41 60 (bz 48 4398046511103) rfl rfl HT_ (by kernel_rfl) (fun _ _ _ h => h) (by rfl) ?_ ?_
       rotate_left
       ·simp only [Act.put, ls_, lz_, lc_, i64_w, i32_w]
        rfl
       refine pz_ (a' := ?_) 42 61 (bz 48 8796093022207) rfl rfl HT_ (by kernel_rfl) (fun _ _ _ h => h) (by rfl) ?_ ?_
       rotate_left
       ·simp only [Act.put, ls_, lz_, lc_, i64_w, i32_w]
        rfl
       refine pz_ (a' := ?_) 43 62 (bz 48 17592186044415) rfl rfl HT_ (by kernel_rfl) (fun _ _ _ h => h) (by rfl) ?_ ?_
       rotate_left
       ·simp only [Act.put, ls_, lz_, lc_, i64_w, i32_w]
        rfl
       refine pz_ (a' := ?_) 44 63 (bz 48 35184372088831) rfl rfl HT_ (by kernel_rfl) (fun _ _ _ h => h) (by rfl) ?_ ?_
       rotate_left
       ·simp only [Act.put, ls_, lz_, lc_, i64_w, i32_w]
        rfl
       refine pz_ (a' := ?_) 45 64 (bz 48 70368744177663) rfl rfl HT_ (by kernel_rfl) (fun _ _ _ h => h) (by rfl) ?_ ?_
       rotate_left
       ·simp only [Act.put, ls_, lz_, lc_, i64_w, i32_w]
        rfl
       refine pz_ (a' := ?_) 46 65 (bz 48 140737488355327) rfl rfl HT_ (by kernel_rfl) (fun _ _ _ h => h) (by rfl) ?_ ?_
       rotate_left
       ·simp only [Act.put, ls_, lz_, lc_, i64_w, i32_w]
        rfl
       refine pu_ (v := ?_) (a' := ?_) 47 66 (bz 48 281474976710655) rfl rfl HT_ (by kernel_rfl) (fun _ _ _ h => h) (by rfl) ?_ ?_ ?_
       rotate_left; (intro w'; go_simp; with_reducible rfl); rotate_left; (simp only [Act.put, ls_, lz_, lc_, i64_w, i32_w]; rfl)
       refine done_ (done_of HT_.out (by kernel_rfl)) ?_
       try go_wp2
       go_meet
       case rel => exact ⟨_, (true), (by first | rfl | (simp; done) | (simp [*]; done) | (simp [bne]; done)), H', ⟨by have := HK1.out; first | omega | exact Nat.le_refl _⟩, ⟨by (with_reducible repeat first | apply kn_ | apply kd_ | apply ka_); exact BK274.out⟩, ⟨by repeat (first | (with_reducible first | exact HB.out | apply ba_ | apply pd_ | apply d1_ | refine bs_ ?_ GE274.out) | exact HB.out)⟩⟩
      ·rw [if_neg c7] at H
       have c7b0 : decide (((rd_T34 l0 x3_1).f2) < 0) = false := df_ c7
       clear c7
       (first | rw [c7b0] | (simp only [i64_w, i32_w]; rw [c7b0]) | skip)
       by_cases c10 : x3_1 > 0
       ·rw [if_pos c10] at H
        have c10b0 : decide (0 < x3_1) = true := dt_ c10
        clear c10
        obtain ⟨ji11, hji11⟩ : ∃ j_ : Int, (wrap64 (x3_1 - 1)) = j_ := ⟨_, rfl⟩
        replace H : (if 0 ≤ (ji11) then (if (ji11) < (l0.length : Int) then (if ((rd_T34 l0 x3_1).f2) < ((rd_T34 l0 (ji11)).f2) then (neumeref08_Check.j1 k1 l0 x3_1 true ((rd_T34 l0 x3_1).f0) ((rd_T34 l0 x3_1).f1) ((rd_T34 l0 x3_1).f2)) else ((neumeref08_raw.f ((rd_T34 l0 (ji11)).f0) ((rd_T34 l0 (ji11)).f1) ((rd_T34 l0 (ji11)).f2)).bind fun t278 => (if (wrap64 (((rd_T34 l0 x3_1).f2) - ((rd_T34 l0 (ji11)).f2))) < (t278.size : Int) then (neumeref08_Check.j1 k1 l0 x3_1 true ((rd_T34 l0 x3_1).f0) ((rd_T34 l0 x3_1).f1) ((rd_T34 l0 x3_1).f2)) else (neumeref08_Check.j1 k1 l0 x3_1 ((((rd_T34 l0 x3_1).f0) == 8) != (x3_1 == (wrap64 ((l0.length : Int) - 1)))) ((rd_T34 l0 x3_1).f0) ((rd_T34 l0 x3_1).f1) ((rd_T34 l0 x3_1).f2))))) else (none)) else (none)) = some r := by first | (rw [hji11] at H; exact H) | (simp only [hji11] at H ⊢; exact H)
        have hji11w : (IntKind.i64.wrap (x3_1 - 1)) = ji11 := (i64_w _).trans hji11
        by_cases c12 : 0 ≤ (ji11)
        ·rw [if_pos c12] at H
         have c12b0 : decide (0 ≤ (ji11)) = true := dt_ c12
         clear c12
         by_cases c13 : (ji11) < (l0.length : Int)
         ·rw [if_pos c13] at H
          have c13b0 : decide ((ji11) < (l0.length : Int)) = true := dt_ c13
          clear c13
          by_cases c14 : ((rd_T34 l0 x3_1).f2) < ((rd_T34 l0 (ji11)).f2)
          ·rw [if_pos c14] at H
           have c14b0 : decide (((rd_T34 l0 x3_1).f2) < ((rd_T34 l0 (ji11)).f2)) = true := dt_ c14
           clear c14
           have H' := sd_ H
           clear H
           try go_wp2
           have n0_ : Aside0 ((((w5.setCell ⟨gb274, 0, none⟩ (.int .i64 ((rd_T34 l0 x3_1).f0))).setCell ⟨gb274, 1, none⟩ (.string ((rd_T34 l0 x3_1).f1))).setCell ⟨gb274, 2, none⟩ (.int .i64 ((rd_T34 l0 x3_1).f2))).heap[gb274]? = some (.cells #[.int .i64 ((rd_T34 l0 x3_1).f0), .string ((rd_T34 l0 x3_1).f1), .int .i64 ((rd_T34 l0 x3_1).f2)] 34 (0, 0))) := ⟨by (with_reducible repeat first | apply kn_ | apply kd_ | apply ka_); refine blk_put (cs := #[.int .i64 ((rd_T34 l0 x3_1).f0), .string ((rd_T34 l0 x3_1).f1), .int .i64 0]) ?_ 2 _ rfl; (with_reducible repeat first | apply kn_ | apply kd_ | apply ka_); refine blk_put (cs := #[.int .i64 ((rd_T34 l0 x3_1).f0), .string (⟨#[]⟩ : ByteArray), .int .i64 0]) ?_ 1 _ rfl; (with_reducible repeat first | apply kn_ | apply kd_ | apply ka_); refine blk_put (cs := #[.int .i64 0, .string (⟨#[]⟩ : ByteArray), .int .i64 0]) ?_ 0 _ rfl; (with_reducible repeat first | apply kn_ | apply kd_ | apply ka_); exact BK274.out⟩
           have n1_ : Aside0 (Below w.heap.size w (((w5.setCell ⟨gb274, 0, none⟩ (.int .i64 ((rd_T34 l0 x3_1).f0))).setCell ⟨gb274, 1, none⟩ (.string ((rd_T34 l0 x3_1).f1))).setCell ⟨gb274, 2, none⟩ (.int .i64 ((rd_T34 l0 x3_1).f2)))) := ⟨by repeat (first | (with_reducible first | exact HB.out | apply ba_ | apply pd_ | apply d1_ | refine bs_ ?_ GE274.out) | exact HB.out)⟩
           (try clear BK274)
           (try clear HB)
           generalize (((w5.setCell ⟨gb274, 0, none⟩ (.int .i64 ((rd_T34 l0 x3_1).f0))).setCell ⟨gb274, 1, none⟩ (.string ((rd_T34 l0 x3_1).f1))).setCell ⟨gb274, 2, none⟩ (.int .i64 ((rd_T34 l0 x3_1).f2))) = w15 at n0_ n1_ ⊢
           have BK274 := n0_
           have HB := n1_
           clear n0_ n1_
           replace BK274 := sd_ (kd_ BK274.out)
           replace HB := sd_ (d1_ HB.out)
           have p275 : 0 ≤ ((ji11) : Int) := od_ (by first | (with_reducible assumption) | assumption)
           have q275 : (ji11) < (l0.length : Int) := od_ (by first | (with_reducible assumption) | assumption)
           obtain ⟨ad275, e275, hx275_0, hx275_1, hx275_2⟩ := at_T34 HR0.out (ji11) p275 q275
           have hw275_2 := hx275_2
           have hw275_1 := hx275_1
           have hw275_0 := hx275_0
           obtain rfl : ad273 = ad275 := (by injection e275)
           replace hx275_0 := (HB.out.cell (wb_ w _ hx275_0)).trans hx275_0
           replace hx275_1 := (HB.out.cell (wb_ w _ hx275_1)).trans hx275_1
           replace hx275_2 := (HB.out.cell (wb_ w _ hx275_2)).trans hx275_2
           replace p275 := eq_true p275
           replace q275 := eq_true q275
           refine start_ (n := 48) (S := fun w' => w'.cell? ⟨gb274, 0, none⟩ = some (.int .i64 ((rd_T34 l0 x3_1).f0)) ∧ w'.cell? ⟨gb274, 1, none⟩ = some (.string ((rd_T34 l0 x3_1).f1)) ∧ w'.cell? ⟨gb274, 2, none⟩ = some (.int .i64 ((rd_T34 l0 x3_1).f2)) ∧ w'.cell? (ad273.add (((ji11)).toNat * 3)) = some (.int .i64 ((rd_T34 l0 (ji11)).f0)) ∧ w'.cell? ⟨(ad273.add (((ji11)).toNat * 3)).block, (ad273.add (((ji11)).toNat * 3)).off + 1, none⟩ = some (.string ((rd_T34 l0 (ji11)).f1)) ∧ w'.cell? ⟨(ad273.add (((ji11)).toNat * 3)).block, (ad273.add (((ji11)).toNat * 3)).off + 2, none⟩ = some (.int .i64 ((rd_T34 l0 (ji11)).f2))) (ds := []) (Array.replicate 48 false) (by kernel_rfl) rfl rfl ⟨(kc_ BK274.out 0).trans rfl, (kc_ BK274.out 1).trans rfl, (kc_ BK274.out 2).trans rfl, ((HB.out.cell (wb_ w _ hw275_0)).trans hw275_0), ((HB.out.cell (wb_ w _ hw275_1)).trans hw275_1), ((HB.out.cell (wb_ w _ hw275_2)).trans hw275_2)⟩ (fun hHeld => ?_); refine with_tabW neumeref08_Check.tab5 neumeref08_Check.bits5 (fun HT_ HW_ => ?_)
           generalize w15.drew = w16 at BK274 HB hx275_0 hx275_1 hx275_2 hHeld ⊢
           refine pu_ (v := ?_) (a' := ?_) 0 19 (bz 48 1) rfl rfl HT_ (by kernel_rfl) (fun _ _ _ h => h) (by rfl) ?_ ?_ ?_
           rotate_left; (intro w'; go_simp; with_reducible rfl); rotate_left; (simp only [Act.put, ls_, lz_, lc_, i64_w, i32_w]; rfl)
           refine ta_ (v := ?_) (a' := ?_) 1 20 (bz 48 3) rfl rfl HT_ HW_ (by kernel_rfl) (fun _ _ _ h => h) (by rfl) ?_ hHeld ?_ ?_
           rotate_left
           ·rintro w' ⟨s0, s1, s2, s3, s4, s5⟩
            go_simp
            with_reducible rfl
           rotate_left
           ·simp only [Act.put, ls_, lz_, lc_, i64_w, i32_w]
            rfl
           refine pu_ (v := ?_) (a' := ?_) 2 21 (bz 48 7) rfl rfl HT_ (by kernel_rfl) (fun _ _ _ h => h) (by rfl) ?_ ?_ ?_
           rotate_left; (intro w'; go_simp; with_reducible rfl); rotate_left; (simp only [Act.put, ls_, lz_, lc_, i64_w, i32_w]; rfl)
           refine pu_ (v := ?_) (a' := ?_) 3 22 (bz 48 15) rfl rfl HT_ (by kernel_rfl) (fun _ _ _ h => h) (by rfl) ?_ ?_ ?_
           rotate_left; (intro w'; go_simp; with_reducible rfl); rotate_left; (simp only [Act.put, ls_, lz_, lc_, i64_w, i32_w]; rfl)
           refine pu_ (v := ?_) (a' := ?_) 4 23 (bz 48 31) rfl rfl HT_ (by kernel_rfl) (fun _ _ _ h => h) (by rfl) ?_ ?_ ?_
           rotate_left; (intro w'; go_simp; with_reducible rfl); rotate_left; (simp only [Act.put, ls_, lz_, lc_, i64_w, i32_w]; rfl)
           refine pu_ (v := ?_) (a' := ?_) 5 24 (bz 48 63) rfl rfl HT_ (by kernel_rfl) (fun _ _ _ h => h) (by rfl) ?_ ?_ ?_
           rotate_left; (intro w'; go_simp; with_reducible rfl); rotate_left; (simp only [Act.put, ls_, lz_, lc_, i64_w, i32_w]; rfl)
           refine pu_ (v := ?_) (a' := ?_) 6 25 (bz 48 127) rfl rfl HT_ (by kernel_rfl) (fun _ _ _ h => h) (by rfl) ?_ ?_ ?_
           rotate_left; (intro w'; go_simp; with_reducible rfl); rotate_left; (simp only [Act.put, ls_, lz_, lc_, i64_w, i32_w]; rfl)
           refine pu_ (v := ?_) (a' := ?_) 7 26 (bz 48 255) rfl rfl HT_ (by kernel_rfl) (fun _ _ _ h => h) (by rfl) ?_ ?_ ?_
           rotate_left; (intro w'; go_simp; with_reducible rfl); rotate_left; (simp only [Act.put, ls_, lz_, lc_, i64_w, i32_w]; rfl)
           refine pu_ (v := ?_) (a' := ?_) 9 28 (bz 48 767) rfl rfl HT_ (by kernel_rfl) (fun _ _ _ h => h) (by rfl) ?_ ?_ ?_
           rotate_left; (intro w'; go_simp; with_reducible rfl); rotate_left; (simp only [Act.put, ls_, lz_, lc_, i64_w, i32_w]; rfl)
           refine pu_ (v := ?_) (a' := ?_) 10 29 (bz 48 1791) rfl rfl HT_ (by kernel_rfl) (fun _ _ _ h => h) (by rfl) ?_ ?_ ?_
           rotate_left; (intro w'; go_simp; with_reducible rfl); rotate_left; (simp only [Act.put, ls_, lz_, lc_, i64_w, i32_w]; rfl)
           refine pu_ (v := ?_) (a' := ?_) 11 30 (bz 48 3839) rfl rfl HT_ (by kernel_rfl) (fun _ _ _ h => h) (by rfl) ?_ ?_ ?_
           rotate_left; (intro w'; go_simp; with_reducible rfl); rotate_left; (simp only [Act.put, ls_, lz_, lc_, i64_w, i32_w]; rfl)
           refine pu_ (v := ?_) (a' := ?_) 12 31 (bz 48 7935) rfl rfl HT_ (by kernel_rfl) (fun _ _ _ h => h) (by rfl) ?_ ?_ ?_
           rotate_left; (intro w'; go_simp; with_reducible rfl); rotate_left; (simp only [Act.put, ls_, lz_, lc_, i64_w, i32_w]; rfl)
           refine pu_ (v := ?_) (a' := ?_) 13 32 (bz 48 16127) rfl rfl HT_ (by kernel_rfl) (fun _ _ _ h => h) (by rfl) ?_ ?_ ?_
           rotate_left; (intro w'; go_simp; with_reducible rfl); rotate_left; (simp only [Act.put, ls_, lz_, lc_, i64_w, i32_w]; rfl)
           refine ta_ (v := ?_) (a' := ?_) 8 27 (bz 48 16383) rfl rfl HT_ HW_ (by kernel_rfl) (fun _ _ _ h => h) (by rfl) ?_ hHeld ?_ ?_
           rotate_left
           ·rintro w' ⟨s0, s1, s2, s3, s4, s5⟩
            go_simp
            with_reducible rfl
           rotate_left
           ·simp only [Act.put, ls_, lz_, lc_, i64_w, i32_w]
            rfl
           refine ta_ (v := ?_) (a' := ?_) 14 33 (bz 48 32767) rfl rfl HT_ HW_ (by kernel_rfl) (fun _ _ _ h => h) (by rfl) ?_ hHeld ?_ ?_
           rotate_left
           ·rintro w' ⟨s0, s1, s2, s3, s4, s5⟩
            go_simp
            with_reducible rfl
           rotate_left
           ·simp only [Act.put, ls_, lz_, lc_, i64_w, i32_w]
            rfl
           refine pu_ (v := ?_) (a' := ?_) 15 34 (bz 48 65535) rfl rfl HT_ (by kernel_rfl) (fun _ _ _ h => h) (by rfl) ?_ ?_ ?_
           rotate_left; (intro w'; go_simp; with_reducible rfl); rotate_left; (simp only [Act.put, ls_, lz_, lc_, i64_w, i32_w]; rfl)
           refine pu_ (v := ?_) (a' := ?_) 16 35 (bz 48 131071) rfl rfl HT_ (by kernel_rfl) (fun _ _ _ h => h) (by rfl) ?_ ?_ ?_
           rotate_left; (intro w'; go_simp; with_reducible rfl); rotate_left; (simp only [Act.put, ls_, lz_, lc_, i64_w, i32_w]; rfl)
           refine pz_ (a' := ?_) 17 36 (bz 48 262143) rfl rfl HT_ (by kernel_rfl) (fun _ _ _ h => h) (by rfl) ?_ ?_
           rotate_left
           ·simp only [Act.put, ls_, lz_, lc_, i64_w, i32_w]
            rfl
           refine pz_ (a' := ?_) 18 37 (bz 48 524287) rfl rfl HT_ (by kernel_rfl) (fun _ _ _ h => h) (by rfl) ?_ ?_
           rotate_left
           ·simp only [Act.put, ls_, lz_, lc_, i64_w, i32_w]
            rfl
           refine pz_ (a' := ?_) 19 38 (bz 48 1048575) rfl rfl HT_ (by kernel_rfl) (fun _ _ _ h => h) (by rfl) ?_ ?_
           rotate_left
           ·simp only [Act.put, ls_, lz_, lc_, i64_w, i32_w]
            rfl
           refine pz_ (a' := ?_) 20 39 (bz 48 2097151) rfl rfl HT_ (by kernel_rfl) (fun _ _ _ h => h) (by rfl) ?_ ?_
           rotate_left
           ·simp only [Act.put, ls_, lz_, lc_, i64_w, i32_w]
            rfl
           refine pz_ (a' := ?_) 21 40 (bz 48 4194303) rfl rfl HT_ (by kernel_rfl) (fun _ _ _ h => h) (by rfl) ?_ ?_
           rotate_left
           ·simp only [Act.put, ls_, lz_, lc_, i64_w, i32_w]
            rfl
           refine pz_ (a' := ?_) 22 41 (bz 48 8388607) rfl rfl HT_ (by kernel_rfl) (fun _ _ _ h => h) (by rfl) ?_ ?_
           rotate_left
           ·simp only [Act.put, ls_, lz_, lc_, i64_w, i32_w]
            rfl
           refine pz_ (a' := ?_) 23 42 (bz 48 16777215) rfl rfl HT_ (by kernel_rfl) (fun _ _ _ h => h) (by rfl) ?_ ?_
           rotate_left
           ·simp only [Act.put, ls_, lz_, lc_, i64_w, i32_w]
            rfl
           refine pz_ (a' := ?_) 24 43 (bz 48 33554431) rfl rfl HT_ (by kernel_rfl) (fun _ _ _ h => h) (by rfl) ?_ ?_
           rotate_left
           ·simp only [Act.put, ls_, lz_, lc_, i64_w, i32_w]
            rfl
           refine pz_ (a' := ?_) 25 44 (bz 48 67108863) rfl rfl HT_ (by kernel_rfl) (fun _ _ _ h => h) (by rfl) ?_ ?_
           rotate_left
           ·simp only [Act.put, ls_, lz_, lc_, i64_w, i32_w]
            rfl
           refine pz_ (a' := ?_) 26 45 (bz 48 134217727) rfl rfl HT_ (by kernel_rfl) (fun _ _ _ h => h) (by rfl) ?_ ?_
           rotate_left
           ·simp only [Act.put, ls_, lz_, lc_, i64_w, i32_w]
            rfl
           refine pz_ (a' := ?_) 27 46 (bz 48 268435455) rfl rfl HT_ (by kernel_rfl) (fun _ _ _ h => h) (by rfl) ?_ ?_
           rotate_left
           ·simp only [Act.put, ls_, lz_, lc_, i64_w, i32_w]
            rfl
           refine pz_ (a' := ?_) 28 47 (bz 48 536870911) rfl rfl HT_ (by kernel_rfl) (fun _ _ _ h => h) (by rfl) ?_ ?_
           rotate_left
           ·simp only [Act.put, ls_, lz_, lc_, i64_w, i32_w]
            rfl
           refine pz_ (a' := ?_) 29 48 (bz 48 1073741823) rfl rfl HT_ (by kernel_rfl) (fun _ _ _ h => h) (by rfl) ?_ ?_
           rotate_left
           ·simp only [Act.put, ls_, lz_, lc_, i64_w, i32_w]
            rfl
           refine pz_ (a' := ?_) 30 49 (bz 48 2147483647) rfl rfl HT_ (by kernel_rfl) (fun _ _ _ h => h) (by rfl) ?_ ?_
           rotate_left
           ·simp only [Act.put, ls_, lz_, lc_, i64_w, i32_w]
            rfl
           refine pz_ (a' := ?_) 31 50 (bz 48 4294967295) rfl rfl HT_ (by kernel_rfl) (fun _ _ _ h => h) (by rfl) ?_ ?_
           rotate_left
           ·simp only [Act.put, ls_, lz_, lc_, i64_w, i32_w]
            rfl
           refine pz_ (a' := ?_) 32 51 (bz 48 8589934591) rfl rfl HT_ (by kernel_rfl) (fun _ _ _ h => h) (by rfl) ?_ ?_
           rotate_left
           ·simp only [Act.put, ls_, lz_, lc_, i64_w, i32_w]
            rfl
           refine pz_ (a' := ?_) 33 52 (bz 48 17179869183) rfl rfl HT_ (by kernel_rfl) (fun _ _ _ h => h) (by rfl) ?_ ?_
           rotate_left
           ·simp only [Act.put, ls_, lz_, lc_, i64_w, i32_w]
            rfl
           refine pu_ (v := ?_) (a' := ?_) 34 53 (bz 48 34359738367) rfl rfl HT_ (by kernel_rfl) (fun _ _ _ h => h) (by rfl) ?_ ?_ ?_
           rotate_left; (intro w'; go_simp; with_reducible rfl); rotate_left; (simp only [Act.put, ls_, lz_, lc_, i64_w, i32_w]; rfl)
           refine pu_ (v := ?_) (a' := ?_) 35 54 (bz 48 68719476735) rfl rfl HT_ (by kernel_rfl) (fun _ _ _ h => h) (by rfl) ?_ ?_ ?_
           rotate_left; (intro w'; go_simp; with_reducible rfl); rotate_left; (simp only [Act.put, ls_, lz_, lc_, i64_w, i32_w]; rfl)
           refine pu_ (v := ?_) (a' := ?_) 36 55 (bz 48 137438953471) rfl rfl HT_ (by kernel_rfl) (fun _ _ _ h => h) (by rfl) ?_ ?_ ?_
           rotate_left; (intro w'; go_simp; with_reducible rfl); rotate_left; (simp only [Act.put, ls_, lz_, lc_, i64_w, i32_w]; rfl)
           refine pu_ (v := ?_) (a' := ?_) 37 56 (bz 48 274877906943) rfl rfl HT_ (by kernel_rfl) (fun _ _ _ h => h) (by rfl) ?_ ?_ ?_
           rotate_left; (intro w'; go_simp; with_reducible rfl); rotate_left; (simp only [Act.put, ls_, lz_, lc_, i64_w, i32_w]; rfl)
           refine pz_ (a' := ?_) 38 57 (bz 48 549755813887) rfl rfl HT_ (by kernel_rfl) (fun _ _ _ h => h) (by rfl) ?_ ?_
           rotate_left
           ·simp only [Act.put, ls_, lz_, lc_, i64_w, i32_w]
            rfl
           refine pz_ (a' := ?_) 39 58 (bz 48 1099511627775) rfl rfl HT_ (by kernel_rfl) (fun _ _ _ h => h) (by rfl) ?_ ?_
           rotate_left
           ·simp only [Act.put, ls_, lz_, lc_, i64_w, i32_w]
            rfl
           refine pz_ (a' := ?_) 40 59 (bz 48 2199023255551) rfl rfl HT_ (by kernel_rfl) (fun _ _ _ h => h) (by rfl) ?_ ?_
           rotate_left
           ·simp only [Act.put, ls_, lz_, lc_, i64_w, i32_w]
            rfl
           refine pz_ (a' := ?_) 41 60 (bz 48 4398046511103) rfl rfl HT_ (by kernel_rfl) (fun _ _ _ h => h) (by rfl) ?_ ?_
           rotate_left
           ·simp only [Act.put, ls_, lz_, lc_, i64_w, i32_w]
            rfl
           refine pz_ (a' := ?_) 42 61 (bz 48 8796093022207) rfl rfl HT_ (by kernel_rfl) (fun _ _ _ h => h) (by rfl) ?_ ?_
           rotate_left
           ·simp only [Act.put, ls_, lz_, lc_, i64_w, i32_w]
            rfl
           refine pz_ (a' := ?_) 43 62 (bz 48 17592186044415) rfl rfl HT_ (by kernel_rfl) (fun _ _ _ h => h) (by rfl) ?_ ?_
           rotate_left
           ·simp only [Act.put, ls_, lz_, lc_, i64_w, i32_w]
            rfl
           refine pz_ (a' := ?_) 44 63 (bz 48 35184372088831) rfl rfl HT_ (by kernel_rfl) (fun _ _ _ h => h) (by rfl) ?_ ?_
           rotate_left
           ·simp only [Act.put, ls_, lz_, lc_, i64_w, i32_w]
            rfl
           refine pz_ (a' := ?_) 45 64 (bz 48 70368744177663) rfl rfl HT_ (by kernel_rfl) (fun _ _ _ h => h) (by rfl) ?_ ?_
           rotate_left
           ·simp only [Act.put, ls_, lz_, lc_, i64_w, i32_w]
            rfl
           refine pz_ (a' := ?_) 46 65 (bz 48 140737488355327) rfl rfl HT_ (by kernel_rfl) (fun _ _ _ h => h) (by rfl) ?_ ?_
           rotate_left
           ·simp only [Act.put, ls_, lz_, lc_, i64_w, i32_w]
            rfl
           refine pu_ (v := ?_) (a' := ?_) 47 66 (bz 48 281474976710655) rfl rfl HT_ (by kernel_rfl) (fun _ _ _ h => h) (by rfl) ?_ ?_ ?_
           rotate_left; (intro w'; go_simp; with_reducible rfl); rotate_left; (simp only [Act.put, ls_, lz_, lc_, i64_w, i32_w]; rfl)
           refine done_ (done_of HT_.out (by kernel_rfl)) ?_
           try go_wp2
           go_meet
           case rel => exact ⟨_, (true), (by first | rfl | (simp; done) | (simp [*]; done) | (simp [bne]; done)), H', ⟨by have := HK1.out; first | omega | exact Nat.le_refl _⟩, ⟨by (with_reducible repeat first | apply kn_ | apply kd_ | apply ka_); exact BK274.out⟩, ⟨by repeat (first | (with_reducible first | exact HB.out | apply ba_ | apply pd_ | apply d1_ | refine bs_ ?_ GE274.out) | exact HB.out)⟩⟩
          ·rw [if_neg c14] at H
           have c14b0 : decide (((rd_T34 l0 x3_1).f2) < ((rd_T34 l0 (ji11)).f2)) = false := df_ c14
           clear c14
           replace H := ob_ H
           obtain ⟨t278, A170, H⟩ := H
           replace H : (if (wrap64 (((rd_T34 l0 x3_1).f2) - ((rd_T34 l0 (ji11)).f2))) < (t278.size : Int) then (neumeref08_Check.j1 k1 l0 x3_1 true ((rd_T34 l0 x3_1).f0) ((rd_T34 l0 x3_1).f1) ((rd_T34 l0 x3_1).f2)) else (neumeref08_Check.j1 k1 l0 x3_1 ((((rd_T34 l0 x3_1).f0) == 8) != (x3_1 == (wrap64 ((l0.length : Int) - 1)))) ((rd_T34 l0 x3_1).f0) ((rd_T34 l0 x3_1).f1) ((rd_T34 l0 x3_1).f2))) = some r := H
           have A17 := sd_ A170
           clear A170
           by_cases c18 : (wrap64 (((rd_T34 l0 x3_1).f2) - ((rd_T34 l0 (ji11)).f2))) < (t278.size : Int)
           ·rw [if_pos c18] at H
            have c18b0 : decide ((wrap64 (((rd_T34 l0 x3_1).f2) - ((rd_T34 l0 (ji11)).f2))) < (t278.size : Int)) = true := dt_ c18
            clear c18
            have H' := sd_ H
            clear H
            try go_wp2
            have n0_ : Aside0 ((((w5.setCell ⟨gb274, 0, none⟩ (.int .i64 ((rd_T34 l0 x3_1).f0))).setCell ⟨gb274, 1, none⟩ (.string ((rd_T34 l0 x3_1).f1))).setCell ⟨gb274, 2, none⟩ (.int .i64 ((rd_T34 l0 x3_1).f2))).heap[gb274]? = some (.cells #[.int .i64 ((rd_T34 l0 x3_1).f0), .string ((rd_T34 l0 x3_1).f1), .int .i64 ((rd_T34 l0 x3_1).f2)] 34 (0, 0))) := ⟨by (with_reducible repeat first | apply kn_ | apply kd_ | apply ka_); refine blk_put (cs := #[.int .i64 ((rd_T34 l0 x3_1).f0), .string ((rd_T34 l0 x3_1).f1), .int .i64 0]) ?_ 2 _ rfl; (with_reducible repeat first | apply kn_ | apply kd_ | apply ka_); refine blk_put (cs := #[.int .i64 ((rd_T34 l0 x3_1).f0), .string (⟨#[]⟩ : ByteArray), .int .i64 0]) ?_ 1 _ rfl; (with_reducible repeat first | apply kn_ | apply kd_ | apply ka_); refine blk_put (cs := #[.int .i64 0, .string (⟨#[]⟩ : ByteArray), .int .i64 0]) ?_ 0 _ rfl; (with_reducible repeat first | apply kn_ | apply kd_ | apply ka_); exact BK274.out⟩
            have n1_ : Aside0 (Below w.heap.size w (((w5.setCell ⟨gb274, 0, none⟩ (.int .i64 ((rd_T34 l0 x3_1).f0))).setCell ⟨gb274, 1, none⟩ (.string ((rd_T34 l0 x3_1).f1))).setCell ⟨gb274, 2, none⟩ (.int .i64 ((rd_T34 l0 x3_1).f2)))) := ⟨by repeat (first | (with_reducible first | exact HB.out | apply ba_ | apply pd_ | apply d1_ | refine bs_ ?_ GE274.out) | exact HB.out)⟩
            (try clear BK274)
            (try clear HB)
            generalize (((w5.setCell ⟨gb274, 0, none⟩ (.int .i64 ((rd_T34 l0 x3_1).f0))).setCell ⟨gb274, 1, none⟩ (.string ((rd_T34 l0 x3_1).f1))).setCell ⟨gb274, 2, none⟩ (.int .i64 ((rd_T34 l0 x3_1).f2))) = w19 at n0_ n1_ ⊢
            have BK274 := n0_
            have HB := n1_
            clear n0_ n1_
            replace BK274 := sd_ (kd_ BK274.out)
            replace HB := sd_ (d1_ HB.out)
            have p275 : 0 ≤ ((ji11) : Int) := od_ (by first | (with_reducible assumption) | assumption)
            have q275 : (ji11) < (l0.length : Int) := od_ (by first | (with_reducible assumption) | assumption)
            obtain ⟨ad275, e275, hx275_0, hx275_1, hx275_2⟩ := at_T34 HR0.out (ji11) p275 q275
            have hw275_2 := hx275_2
            have hw275_1 := hx275_1
            have hw275_0 := hx275_0
            obtain rfl : ad273 = ad275 := (by injection e275)
            replace hx275_0 := (HB.out.cell (wb_ w _ hx275_0)).trans hx275_0
            replace hx275_1 := (HB.out.cell (wb_ w _ hx275_1)).trans hx275_1
            replace hx275_2 := (HB.out.cell (wb_ w _ hx275_2)).trans hx275_2
            replace p275 := eq_true p275
            replace q275 := eq_true q275
            have p276 : 0 ≤ ((ji11) : Int) := od_ (by first | (with_reducible assumption) | assumption)
            have q276 : (ji11) < (l0.length : Int) := od_ (by first | (with_reducible assumption) | assumption)
            obtain ⟨ad276, e276, hx276_0, hx276_1, hx276_2⟩ := at_T34 HR0.out (ji11) p276 q276
            have hw276_2 := hx276_2
            have hw276_1 := hx276_1
            have hw276_0 := hx276_0
            obtain rfl : ad273 = ad276 := (by injection e276)
            replace hx276_0 := (HB.out.cell (wb_ w _ hx276_0)).trans hx276_0
            replace hx276_1 := (HB.out.cell (wb_ w _ hx276_1)).trans hx276_1
            replace hx276_2 := (HB.out.cell (wb_ w _ hx276_2)).trans hx276_2
            replace p276 := eq_true p276
            replace q276 := eq_true q276
            have p277 : 0 ≤ ((ji11) : Int) := od_ (by first | (with_reducible assumption) | assumption)
            have q277 : (ji11) < (l0.length : Int) := od_ (by first | (with_reducible assumption) | assumption)
            obtain ⟨ad277, e277, hx277_0, hx277_1, hx277_2⟩ := at_T34 HR0.out (ji11) p277 q277
            have hw277_2 := hx277_2
            have hw277_1 := hx277_1
            have hw277_0 := hx277_0
            obtain rfl : ad273 = ad277 := (by injection e277)
            replace hx277_0 := (HB.out.cell (wb_ w _ hx277_0)).trans hx277_0
            replace hx277_1 := (HB.out.cell (wb_ w _ hx277_1)).trans hx277_1
            replace hx277_2 := (HB.out.cell (wb_ w _ hx277_2)).trans hx277_2
            replace p277 := eq_true p277
            replace q277 := eq_true q277
            refine start_ (n := 48) (S := fun w' => w'.cell? ⟨gb274, 0, none⟩ = some (.int .i64 ((rd_T34 l0 x3_1).f0)) ∧ w'.cell? ⟨gb274, 1, none⟩ = some (.string ((rd_T34 l0 x3_1).f1)) ∧ w'.cell? ⟨gb274, 2, none⟩ = some (.int .i64 ((rd_T34 l0 x3_1).f2)) ∧ w'.cell? (ad273.add (((ji11)).toNat * 3)) = some (.int .i64 ((rd_T34 l0 (ji11)).f0)) ∧ w'.cell? ⟨(ad273.add (((ji11)).toNat * 3)).block, (ad273.add (((ji11)).toNat * 3)).off + 1, none⟩ = some (.string ((rd_T34 l0 (ji11)).f1)) ∧ w'.cell? ⟨(ad273.add (((ji11)).toNat * 3)).block, (ad273.add (((ji11)).toNat * 3)).off + 2, none⟩ = some (.int .i64 ((rd_T34 l0 (ji11)).f2)) ∧ w'.cell? (ad273.add (((ji11)).toNat * 3)) = some (.int .i64 ((rd_T34 l0 (ji11)).f0)) ∧ w'.cell? ⟨(ad273.add (((ji11)).toNat * 3)).block, (ad273.add (((ji11)).toNat * 3)).off + 1, none⟩ = some (.string ((rd_T34 l0 (ji11)).f1)) ∧ w'.cell? ⟨(ad273.add (((ji11)).toNat * 3)).block, (ad273.add (((ji11)).toNat * 3)).off + 2, none⟩ = some (.int .i64 ((rd_T34 l0 (ji11)).f2)) ∧ w'.cell? (ad273.add (((ji11)).toNat * 3)) = some (.int .i64 ((rd_T34 l0 (ji11)).f0)) ∧ w'.cell? ⟨(ad273.add (((ji11)).toNat * 3)).block, (ad273.add (((ji11)).toNat * 3)).off + 1, none⟩ = some (.string ((rd_T34 l0 (ji11)).f1)) ∧ w'.cell? ⟨(ad273.add (((ji11)).toNat * 3)).block, (ad273.add (((ji11)).toNat * 3)).off + 2, none⟩ = some (.int .i64 ((rd_T34 l0 (ji11)).f2))) (ds := []) (Array.replicate 48 false) (by kernel_rfl) rfl rfl ⟨(kc_ BK274.out 0).trans rfl, (kc_ BK274.out 1).trans rfl, (kc_ BK274.out 2).trans rfl, ((HB.out.cell (wb_ w _ hw275_0)).trans hw275_0), ((HB.out.cell (wb_ w _ hw275_1)).trans hw275_1), ((HB.out.cell (wb_ w _ hw275_2)).trans hw275_2), ((HB.out.cell (wb_ w _ hw276_0)).trans hw276_0), ((HB.out.cell (wb_ w _ hw276_1)).trans hw276_1), ((HB.out.cell (wb_ w _ hw276_2)).trans hw276_2), ((HB.out.cell (wb_ w _ hw277_0)).trans hw277_0), ((HB.out.cell (wb_ w _ hw277_1)).trans hw277_1), ((HB.out.cell (wb_ w _ hw277_2)).trans hw277_2)⟩ (fun hHeld => ?_); refine with_tabW neumeref08_Check.tab5 neumeref08_Check.bits5 (fun HT_ HW_ => ?_)
            generalize w19.drew = w20 at BK274 HB hx275_0 hx275_1 hx275_2 hx276_0 hx276_1 hx276_2 hx277_0 hx277_1 hx277_2 hHeld ⊢
            refine pu_ (v := ?_) (a' := ?_) 0 19 (bz 48 1) rfl rfl HT_ (by kernel_rfl) (fun _ _ _ h => h) (by rfl) ?_ ?_ ?_
            rotate_left; (intro w'; go_simp; with_reducible rfl); rotate_left; (simp only [Act.put, ls_, lz_, lc_, i64_w, i32_w]; rfl)
            refine ta_ (v := ?_) (a' := ?_) 1 20 (bz 48 3) rfl rfl HT_ HW_ (by kernel_rfl) (fun _ _ _ h => h) (by rfl) ?_ hHeld ?_ ?_
            rotate_left
            ·rintro w' ⟨s0, s1, s2, s3, s4, s5, s6, s7, s8, s9, s10, s11⟩
             go_simp
             with_reducible rfl
            rotate_left
            ·simp only [Act.put, ls_, lz_, lc_, i64_w, i32_w]
             rfl
            refine pu_ (v := ?_) (a' := ?_) 2 21 (bz 48 7) rfl rfl HT_ (by kernel_rfl) (fun _ _ _ h => h) (by rfl) ?_ ?_ ?_
            rotate_left; (intro w'; go_simp; with_reducible rfl); rotate_left; (simp only [Act.put, ls_, lz_, lc_, i64_w, i32_w]; rfl)
            refine pu_ (v := ?_) (a' := ?_) 3 22 (bz 48 15) rfl rfl HT_ (by kernel_rfl) (fun _ _ _ h => h) (by rfl) ?_ ?_ ?_
            rotate_left; (intro w'; go_simp; with_reducible rfl); rotate_left; (simp only [Act.put, ls_, lz_, lc_, i64_w, i32_w]; rfl)
            refine pu_ (v := ?_) (a' := ?_) 4 23 (bz 48 31) rfl rfl HT_ (by kernel_rfl) (fun _ _ _ h => h) (by rfl) ?_ ?_ ?_
            rotate_left; (intro w'; go_simp; with_reducible rfl); rotate_left; (simp only [Act.put, ls_, lz_, lc_, i64_w, i32_w]; rfl)
            refine pu_ (v := ?_) (a' := ?_) 5 24 (bz 48 63) rfl rfl HT_ (by kernel_rfl) (fun _ _ _ h => h) (by rfl) ?_ ?_ ?_
            rotate_left; (intro w'; go_simp; with_reducible rfl); rotate_left; (simp only [Act.put, ls_, lz_, lc_, i64_w, i32_w]; rfl)
            refine pu_ (v := ?_) (a' := ?_) 6 25 (bz 48 127) rfl rfl HT_ (by kernel_rfl) (fun _ _ _ h => h) (by rfl) ?_ ?_ ?_
            rotate_left; (intro w'; go_simp; with_reducible rfl); rotate_left; (simp only [Act.put, ls_, lz_, lc_, i64_w, i32_w]; rfl)
            refine pu_ (v := ?_) (a' := ?_) 7 26 (bz 48 255) rfl rfl HT_ (by kernel_rfl) (fun _ _ _ h => h) (by rfl) ?_ ?_ ?_
            rotate_left; (intro w'; go_simp; with_reducible rfl); rotate_left; (simp only [Act.put, ls_, lz_, lc_, i64_w, i32_w]; rfl)
            refine pu_ (v := ?_) (a' := ?_) 9 28 (bz 48 767) rfl rfl HT_ (by kernel_rfl) (fun _ _ _ h => h) (by rfl) ?_ ?_ ?_
            rotate_left; (intro w'; go_simp; with_reducible rfl); rotate_left; (simp only [Act.put, ls_, lz_, lc_, i64_w, i32_w]; rfl)
            refine pu_ (v := ?_) (a' := ?_) 10 29 (bz 48 1791) rfl rfl HT_ (by kernel_rfl) (fun _ _ _ h => h) (by rfl) ?_ ?_ ?_
            rotate_left; (intro w'; go_simp; with_reducible rfl); rotate_left; (simp only [Act.put, ls_, lz_, lc_, i64_w, i32_w]; rfl)
            refine pu_ (v := ?_) (a' := ?_) 11 30 (bz 48 3839) rfl rfl HT_ (by kernel_rfl) (fun _ _ _ h => h) (by rfl) ?_ ?_ ?_
            rotate_left; (intro w'; go_simp; with_reducible rfl); rotate_left; (simp only [Act.put, ls_, lz_, lc_, i64_w, i32_w]; rfl)
            refine pu_ (v := ?_) (a' := ?_) 12 31 (bz 48 7935) rfl rfl HT_ (by kernel_rfl) (fun _ _ _ h => h) (by rfl) ?_ ?_ ?_
            rotate_left; (intro w'; go_simp; with_reducible rfl); rotate_left; (simp only [Act.put, ls_, lz_, lc_, i64_w, i32_w]; rfl)
            refine pu_ (v := ?_) (a' := ?_) 13 32 (bz 48 16127) rfl rfl HT_ (by kernel_rfl) (fun _ _ _ h => h) (by rfl) ?_ ?_ ?_
            rotate_left; (intro w'; go_simp; with_reducible rfl); rotate_left; (simp only [Act.put, ls_, lz_, lc_, i64_w, i32_w]; rfl)
            refine ta_ (v := ?_) (a' := ?_) 8 27 (bz 48 16383) rfl rfl HT_ HW_ (by kernel_rfl) (fun _ _ _ h => h) (by rfl) ?_ hHeld ?_ ?_
            rotate_left
            ·rintro w' ⟨s0, s1, s2, s3, s4, s5, s6, s7, s8, s9, s10, s11⟩
             go_simp
             with_reducible rfl
            rotate_left
            ·simp only [Act.put, ls_, lz_, lc_, i64_w, i32_w]
             rfl
            refine ta_ (v := ?_) (a' := ?_) 14 33 (bz 48 32767) rfl rfl HT_ HW_ (by kernel_rfl) (fun _ _ _ h => h) (by rfl) ?_ hHeld ?_ ?_
            rotate_left
            ·rintro w' ⟨s0, s1, s2, s3, s4, s5, s6, s7, s8, s9, s10, s11⟩
             go_simp
             with_reducible rfl
            rotate_left
            ·simp only [Act.put, ls_, lz_, lc_, i64_w, i32_w]
             rfl
            refine pu_ (v := ?_) (a' := ?_) 15 34 (bz 48 65535) rfl rfl HT_ (by kernel_rfl) (fun _ _ _ h => h) (by rfl) ?_ ?_ ?_
            rotate_left; (intro w'; go_simp; with_reducible rfl); rotate_left; (simp only [Act.put, ls_, lz_, lc_, i64_w, i32_w]; rfl)
            refine pu_ (v := ?_) (a' := ?_) 16 35 (bz 48 131071) rfl rfl HT_ (by kernel_rfl) (fun _ _ _ h => h) (by rfl) ?_ ?_ ?_
            rotate_left; (intro w'; go_simp; with_reducible rfl); rotate_left; (simp only [Act.put, ls_, lz_, lc_, i64_w, i32_w]; rfl)
            refine pu_ (v := ?_) (a' := ?_) 17 36 (bz 48 262143) rfl rfl HT_ (by kernel_rfl) (fun _ _ _ h => h) (by rfl) ?_ ?_ ?_
            rotate_left; (intro w'; go_simp; with_reducible rfl); rotate_left; (simp only [Act.put, ls_, lz_, lc_, i64_w, i32_w]; rfl)
            refine pu_ (v := ?_) (a' := ?_) 19 38 (bz 48 786431) rfl rfl HT_ (by kernel_rfl) (fun _ _ _ h => h) (by rfl) ?_ ?_ ?_
            rotate_left; (intro w'; go_simp; with_reducible rfl); rotate_left; (simp only [Act.put, ls_, lz_, lc_, i64_w, i32_w]; rfl)
            refine pu_ (v := ?_) (a' := ?_) 20 39 (bz 48 1835007) rfl rfl HT_ (by kernel_rfl) (fun _ _ _ h => h) (by rfl) ?_ ?_ ?_
            rotate_left; (intro w'; go_simp; with_reducible rfl); rotate_left; (simp only [Act.put, ls_, lz_, lc_, i64_w, i32_w]; rfl)
            refine pu_ (v := ?_) (a' := ?_) 21 40 (bz 48 3932159) rfl rfl HT_ (by kernel_rfl) (fun _ _ _ h => h) (by rfl) ?_ ?_ ?_
            rotate_left; (intro w'; go_simp; with_reducible rfl); rotate_left; (simp only [Act.put, ls_, lz_, lc_, i64_w, i32_w]; rfl)
            refine pu_ (v := ?_) (a' := ?_) 22 41 (bz 48 8126463) rfl rfl HT_ (by kernel_rfl) (fun _ _ _ h => h) (by rfl) ?_ ?_ ?_
            rotate_left; (intro w'; go_simp; with_reducible rfl); rotate_left; (simp only [Act.put, ls_, lz_, lc_, i64_w, i32_w]; rfl)
            refine pu_ (v := ?_) (a' := ?_) 23 42 (bz 48 16515071) rfl rfl HT_ (by kernel_rfl) (fun _ _ _ h => h) (by rfl) ?_ ?_ ?_
            rotate_left; (intro w'; go_simp; with_reducible rfl); rotate_left; (simp only [Act.put, ls_, lz_, lc_, i64_w, i32_w]; rfl)
            refine pu_ (v := ?_) (a' := ?_) 26 45 (bz 48 83623935) rfl rfl HT_ (by kernel_rfl) (fun _ _ _ h => h) (by rfl) ?_ ?_ ?_
            rotate_left; (intro w'; go_simp; with_reducible rfl); rotate_left; (simp only [Act.put, ls_, lz_, lc_, i64_w, i32_w]; rfl)
            refine pu_ (v := ?_) (a' := ?_) 27 46 (bz 48 217841663) rfl rfl HT_ (by kernel_rfl) (fun _ _ _ h => h) (by rfl) ?_ ?_ ?_
            rotate_left; (intro w'; go_simp; with_reducible rfl); rotate_left; (simp only [Act.put, ls_, lz_, lc_, i64_w, i32_w]; rfl)
            refine pu_ (v := ?_) (a' := ?_) 28 47 (bz 48 486277119) rfl rfl HT_ (by kernel_rfl) (fun _ _ _ h => h) (by rfl) ?_ ?_ ?_
            rotate_left; (intro w'; go_simp; with_reducible rfl); rotate_left; (simp only [Act.put, ls_, lz_, lc_, i64_w, i32_w]; rfl)
            refine pu_ (v := ?_) (a' := ?_) 29 48 (bz 48 1023148031) rfl rfl HT_ (by kernel_rfl) (fun _ _ _ h => h) (by rfl) ?_ ?_ ?_
            rotate_left; (intro w'; go_simp; with_reducible rfl); rotate_left; (simp only [Act.put, ls_, lz_, lc_, i64_w, i32_w]; rfl)
            refine ta_ (v := ?_) (a' := ?_) 18 37 (bz 48 1023410175) rfl rfl HT_ HW_ (by kernel_rfl) (fun _ _ _ h => h) (by rfl) ?_ hHeld ?_ ?_
            rotate_left
            ·rintro w' ⟨s0, s1, s2, s3, s4, s5, s6, s7, s8, s9, s10, s11⟩
             go_simp
             with_reducible rfl
            rotate_left
            ·simp only [Act.put, ls_, lz_, lc_, i64_w, i32_w]
             rfl
            refine ta_ (v := ?_) (a' := ?_) 24 43 (bz 48 1040187391) rfl rfl HT_ HW_ (by kernel_rfl) (fun _ _ _ h => h) (by rfl) ?_ hHeld ?_ ?_
            rotate_left
            ·rintro w' ⟨s0, s1, s2, s3, s4, s5, s6, s7, s8, s9, s10, s11⟩
             go_simp
             with_reducible rfl
            rotate_left
            ·simp only [Act.put, ls_, lz_, lc_, i64_w, i32_w]
             rfl
            refine pu_ (v := ?_) (a' := ?_) 25 44 (bz 48 1073741823) rfl rfl HT_ (by kernel_rfl) (fun _ _ _ h => h) (by rfl) ?_ ?_ ?_
            rotate_left; (intro w'; go_simp; with_reducible rfl); rotate_left; (simp only [Act.put, ls_, lz_, lc_, i64_w, i32_w]; rfl)
            refine ta_ (v := ?_) (a' := ?_) 30 49 (bz 48 2147483647) rfl rfl HT_ HW_ (by kernel_rfl) (fun _ _ _ h => h) (by rfl) ?_ hHeld ?_ ?_
            rotate_left
            ·rintro w' ⟨s0, s1, s2, s3, s4, s5, s6, s7, s8, s9, s10, s11⟩
             go_simp
             with_reducible rfl
            rotate_left
            ·simp only [Act.put, ls_, lz_, lc_, i64_w, i32_w]
             rfl
            refine on_ (N := some 50) 31 (bz 48 4294967295) rfl rfl HT_ (by kernel_rfl) (by decide) (fun K hK => ?_)
            refine goes_ Tryd.func27 (by kernel_rfl) rfl #[.agg #[.int .i64 ((rd_T34 l0 (ji11)).f0), .string ((rd_T34 l0 (ji11)).f1), .int .i64 ((rd_T34 l0 (ji11)).f2)]] (by rfl) rfl rfl (by (try simp only [lm_, lq_, lx_]); first | done | (simp only [hji11]; rfl) | rfl | (simp only [ld_, lt_]; rfl)) ?_
            with_reducible refine (neumeref08_raw.calls ((rd_T34 l0 (ji11)).f0) ((rd_T34 l0 (ji11)).f1) ((rd_T34 l0 (ji11)).f2) t278 _ A17.out).mono ?_
            rintro e w21 ⟨rfl, hb⟩
            refine ⟨_, rfl, ?_⟩
            replace BK274 := kb_ BK274 hb
            replace HB := hb_ HB (e_ GE274 e0_) hb
            (try clear hb)
            (try clear hb2)
            (try clear hk)
            (try clear hi)
            refine hK.out _ _ ⟨(kc_ BK274.out 0).trans rfl, (kc_ BK274.out 1).trans rfl, (kc_ BK274.out 2).trans rfl, ((HB.out.cell (wb_ w _ hw275_0)).trans hw275_0), ((HB.out.cell (wb_ w _ hw275_1)).trans hw275_1), ((HB.out.cell (wb_ w _ hw275_2)).trans hw275_2), ((HB.out.cell (wb_ w _ hw276_0)).trans hw276_0), ((HB.out.cell (wb_ w _ hw276_1)).trans hw276_1), ((HB.out.cell (wb_ w _ hw276_2)).trans hw276_2), ((HB.out.cell (wb_ w _ hw277_0)).trans hw277_0), ((HB.out.cell (wb_ w _ hw277_1)).trans hw277_1), ((HB.out.cell (wb_ w _ hw277_2)).trans hw277_2)⟩ (fun hHeld => ?_)
            clear hK K
            refine norm_ (a' := ?_) ?_ ?_
            rotate_left
            ·show Act.put _ (some 50) _ = _
             simp only [Act.put, ls_, lz_, lc_, i64_w, i32_w]
             rfl
            refine pu_ (v := ?_) (a' := ?_) 32 51 (bz 48 8589934591) rfl rfl HT_ (by kernel_rfl) (fun _ _ _ h => h) (by rfl) ?_ ?_ ?_
            rotate_left; (intro w'; go_simp; with_reducible rfl); rotate_left; (simp only [Act.put, ls_, lz_, lc_, i64_w, i32_w]; rfl)
            refine pu_ (v := ?_) (a' := ?_) 33 52 (bz 48 17179869183) rfl rfl HT_ (by kernel_rfl) (fun _ _ _ h => h) (by rfl) ?_ ?_ ?_
            rotate_left; (intro w'; go_simp; with_reducible rfl); rotate_left; (simp only [Act.put, ls_, lz_, lc_, i64_w, i32_w]; rfl)
            refine pu_ (v := ?_) (a' := ?_) 34 53 (bz 48 34359738367) rfl rfl HT_ (by kernel_rfl) (fun _ _ _ h => h) (by rfl) ?_ ?_ ?_
            rotate_left; (intro w'; go_simp; with_reducible rfl); rotate_left; (simp only [Act.put, ls_, lz_, lc_, i64_w, i32_w]; rfl)
            refine pu_ (v := ?_) (a' := ?_) 35 54 (bz 48 68719476735) rfl rfl HT_ (by kernel_rfl) (fun _ _ _ h => h) (by rfl) ?_ ?_ ?_
            rotate_left; (intro w'; go_simp; with_reducible rfl); rotate_left; (simp only [Act.put, ls_, lz_, lc_, i64_w, i32_w]; rfl)
            refine pu_ (v := ?_) (a' := ?_) 36 55 (bz 48 137438953471) rfl rfl HT_ (by kernel_rfl) (fun _ _ _ h => h) (by rfl) ?_ ?_ ?_
            rotate_left; (intro w'; go_simp; with_reducible rfl); rotate_left; (simp only [Act.put, ls_, lz_, lc_, i64_w, i32_w]; rfl)
            refine pu_ (v := ?_) (a' := ?_) 37 56 (bz 48 274877906943) rfl rfl HT_ (by kernel_rfl) (fun _ _ _ h => h) (by rfl) ?_ ?_ ?_
            rotate_left; (intro w'; go_simp; with_reducible rfl); rotate_left; (simp only [Act.put, ls_, lz_, lc_, i64_w, i32_w]; rfl)
            refine pz_ (a' := ?_) 38 57 (bz 48 549755813887) rfl rfl HT_ (by kernel_rfl) (fun _ _ _ h => h) (by rfl) ?_ ?_
            rotate_left
            ·simp only [Act.put, ls_, lz_, lc_, i64_w, i32_w]
             rfl
            refine pz_ (a' := ?_) 39 58 (bz 48 1099511627775) rfl rfl HT_ (by kernel_rfl) (fun _ _ _ h => h) (by rfl) ?_ ?_
            rotate_left
            ·simp only [Act.put, ls_, lz_, lc_, i64_w, i32_w]
             rfl
            refine pz_ (a' := ?_) 40 59 (bz 48 2199023255551) rfl rfl HT_ (by kernel_rfl) (fun _ _ _ h => h) (by rfl) ?_ ?_
            rotate_left
            ·simp only [Act.put, ls_, lz_, lc_, i64_w, i32_w]
             rfl
            refine pz_ (a' := ?_) 41 60 (bz 48 4398046511103) rfl rfl HT_ (by kernel_rfl) (fun _ _ _ h => h) (by rfl) ?_ ?_
            rotate_left
            ·simp only [Act.put, ls_, lz_, lc_, i64_w, i32_w]
             rfl
            refine pz_ (a' := ?_) 42 61 (bz 48 8796093022207) rfl rfl HT_ (by kernel_rfl) (fun _ _ _ h => h) (by rfl) ?_ ?_
            rotate_left
            ·simp only [Act.put, ls_, lz_, lc_, i64_w, i32_w]
             rfl
            refine pz_ (a' := ?_) 43 62 (bz 48 17592186044415) rfl rfl HT_ (by kernel_rfl) (fun _ _ _ h => h) (by rfl) ?_ ?_
            rotate_left
            ·simp only [Act.put, ls_, lz_, lc_, i64_w, i32_w]
             rfl
            refine pz_ (a' := ?_) 44 63 (bz 48 35184372088831) rfl rfl HT_ (by kernel_rfl) (fun _ _ _ h => h) (by rfl) ?_ ?_
            rotate_left
            ·simp only [Act.put, ls_, lz_, lc_, i64_w, i32_w]
             rfl
            refine pz_ (a' := ?_) 45 64 (bz 48 70368744177663) rfl rfl HT_ (by kernel_rfl) (fun _ _ _ h => h) (by rfl) ?_ ?_
            rotate_left
            ·simp only [Act.put, ls_, lz_, lc_, i64_w, i32_w]
             rfl
            refine pz_ (a' := ?_) 46 65 (bz 48 140737488355327) rfl rfl HT_ (by kernel_rfl) (fun _ _ _ h => h) (by rfl) ?_ ?_
            rotate_left
            ·simp only [Act.put, ls_, lz_, lc_, i64_w, i32_w]
             rfl
            refine pu_ (v := ?_) (a' := ?_) 47 66 (bz 48 281474976710655) rfl rfl HT_ (by kernel_rfl) (fun _ _ _ h => h) (by rfl) ?_ ?_ ?_
            rotate_left; (intro w'; go_simp; with_reducible rfl); rotate_left; (simp only [Act.put, ls_, lz_, lc_, i64_w, i32_w]; rfl)
            refine done_ (done_of HT_.out (by kernel_rfl)) ?_
            try go_wp2
            go_meet
            case rel => exact ⟨_, (true), (by first | rfl | (simp; done) | (simp [*]; done) | (simp [bne]; done)), H', ⟨by have := HK1.out; first | omega | exact Nat.le_refl _⟩, ⟨by (with_reducible repeat first | apply kn_ | apply kd_ | apply ka_); exact BK274.out⟩, ⟨by repeat (first | (with_reducible first | exact HB.out | apply ba_ | apply pd_ | apply d1_ | refine bs_ ?_ GE274.out) | exact HB.out)⟩⟩
           ·rw [if_neg c18] at H
            have c18b0 : decide ((wrap64 (((rd_T34 l0 x3_1).f2) - ((rd_T34 l0 (ji11)).f2))) < (t278.size : Int)) = false := df_ c18
            clear c18
            have H' := sd_ H
            clear H
            try go_wp2
            have n0_ : Aside0 ((((w5.setCell ⟨gb274, 0, none⟩ (.int .i64 ((rd_T34 l0 x3_1).f0))).setCell ⟨gb274, 1, none⟩ (.string ((rd_T34 l0 x3_1).f1))).setCell ⟨gb274, 2, none⟩ (.int .i64 ((rd_T34 l0 x3_1).f2))).heap[gb274]? = some (.cells #[.int .i64 ((rd_T34 l0 x3_1).f0), .string ((rd_T34 l0 x3_1).f1), .int .i64 ((rd_T34 l0 x3_1).f2)] 34 (0, 0))) := ⟨by (with_reducible repeat first | apply kn_ | apply kd_ | apply ka_); refine blk_put (cs := #[.int .i64 ((rd_T34 l0 x3_1).f0), .string ((rd_T34 l0 x3_1).f1), .int .i64 0]) ?_ 2 _ rfl; (with_reducible repeat first | apply kn_ | apply kd_ | apply ka_); refine blk_put (cs := #[.int .i64 ((rd_T34 l0 x3_1).f0), .string (⟨#[]⟩ : ByteArray), .int .i64 0]) ?_ 1 _ rfl; (with_reducible repeat first | apply kn_ | apply kd_ | apply ka_); refine blk_put (cs := #[.int .i64 0, .string (⟨#[]⟩ : ByteArray), .int .i64 0]) ?_ 0 _ rfl; (with_reducible repeat first | apply kn_ | apply kd_ | apply ka_); exact BK274.out⟩
            have n1_ : Aside0 (Below w.heap.size w (((w5.setCell ⟨gb274, 0, none⟩ (.int .i64 ((rd_T34 l0 x3_1).f0))).setCell ⟨gb274, 1, none⟩ (.string ((rd_T34 l0 x3_1).f1))).setCell ⟨gb274, 2, none⟩ (.int .i64 ((rd_T34 l0 x3_1).f2)))) := ⟨by repeat (first | (with_reducible first | exact HB.out | apply ba_ | apply pd_ | apply d1_ | refine bs_ ?_ GE274.out) | exact HB.out)⟩
            (try clear BK274)
            (try clear HB)
            generalize (((w5.setCell ⟨gb274, 0, none⟩ (.int .i64 ((rd_T34 l0 x3_1).f0))).setCell ⟨gb274, 1, none⟩ (.string ((rd_T34 l0 x3_1).f1))).setCell ⟨gb274, 2, none⟩ (.int .i64 ((rd_T34 l0 x3_1).f2))) = w22 at n0_ n1_ ⊢
            have BK274 := n0_
            have HB := n1_
            clear n0_ n1_
            replace BK274 := sd_ (kd_ BK274.out)
            replace HB := sd_ (d1_ HB.out)
            have p275 : 0 ≤ ((ji11) : Int) := od_ (by first | (with_reducible assumption) | assumption)
            have q275 : (ji11) < (l0.length : Int) := od_ (by first | (with_reducible assumption) | assumption)
            obtain ⟨ad275, e275, hx275_0, hx275_1, hx275_2⟩ := at_T34 HR0.out (ji11) p275 q275
            have hw275_2 := hx275_2
            have hw275_1 := hx275_1
            have hw275_0 := hx275_0
            obtain rfl : ad273 = ad275 := (by injection e275)
            replace hx275_0 := (HB.out.cell (wb_ w _ hx275_0)).trans hx275_0
            replace hx275_1 := (HB.out.cell (wb_ w _ hx275_1)).trans hx275_1
            replace hx275_2 := (HB.out.cell (wb_ w _ hx275_2)).trans hx275_2
            replace p275 := eq_true p275
            replace q275 := eq_true q275
            have p276 : 0 ≤ ((ji11) : Int) := od_ (by first | (with_reducible assumption) | assumption)
            have q276 : (ji11) < (l0.length : Int) := od_ (by first | (with_reducible assumption) | assumption)
            obtain ⟨ad276, e276, hx276_0, hx276_1, hx276_2⟩ := at_T34 HR0.out (ji11) p276 q276
            have hw276_2 := hx276_2
            have hw276_1 := hx276_1
            have hw276_0 := hx276_0
            obtain rfl : ad273 = ad276 := (by injection e276)
            replace hx276_0 := (HB.out.cell (wb_ w _ hx276_0)).trans hx276_0
            replace hx276_1 := (HB.out.cell (wb_ w _ hx276_1)).trans hx276_1
            replace hx276_2 := (HB.out.cell (wb_ w _ hx276_2)).trans hx276_2
            replace p276 := eq_true p276
            replace q276 := eq_true q276
            have p277 : 0 ≤ ((ji11) : Int) := od_ (by first | (with_reducible assumption) | assumption)
            have q277 : (ji11) < (l0.length : Int) := od_ (by first | (with_reducible assumption) | assumption)
            obtain ⟨ad277, e277, hx277_0, hx277_1, hx277_2⟩ := at_T34 HR0.out (ji11) p277 q277
            have hw277_2 := hx277_2
            have hw277_1 := hx277_1
            have hw277_0 := hx277_0
            obtain rfl : ad273 = ad277 := (by injection e277)
            replace hx277_0 := (HB.out.cell (wb_ w _ hx277_0)).trans hx277_0
            replace hx277_1 := (HB.out.cell (wb_ w _ hx277_1)).trans hx277_1
            replace hx277_2 := (HB.out.cell (wb_ w _ hx277_2)).trans hx277_2
            replace p277 := eq_true p277
            replace q277 := eq_true q277
            refine start_ (n := 48) (S := fun w' => w'.cell? ⟨gb274, 0, none⟩ = some (.int .i64 ((rd_T34 l0 x3_1).f0)) ∧ w'.cell? ⟨gb274, 1, none⟩ = some (.string ((rd_T34 l0 x3_1).f1)) ∧ w'.cell? ⟨gb274, 2, none⟩ = some (.int .i64 ((rd_T34 l0 x3_1).f2)) ∧ w'.cell? (ad273.add (((ji11)).toNat * 3)) = some (.int .i64 ((rd_T34 l0 (ji11)).f0)) ∧ w'.cell? ⟨(ad273.add (((ji11)).toNat * 3)).block, (ad273.add (((ji11)).toNat * 3)).off + 1, none⟩ = some (.string ((rd_T34 l0 (ji11)).f1)) ∧ w'.cell? ⟨(ad273.add (((ji11)).toNat * 3)).block, (ad273.add (((ji11)).toNat * 3)).off + 2, none⟩ = some (.int .i64 ((rd_T34 l0 (ji11)).f2)) ∧ w'.cell? (ad273.add (((ji11)).toNat * 3)) = some (.int .i64 ((rd_T34 l0 (ji11)).f0)) ∧ w'.cell? ⟨(ad273.add (((ji11)).toNat * 3)).block, (ad273.add (((ji11)).toNat * 3)).off + 1, none⟩ = some (.string ((rd_T34 l0 (ji11)).f1)) ∧ w'.cell? ⟨(ad273.add (((ji11)).toNat * 3)).block, (ad273.add (((ji11)).toNat * 3)).off + 2, none⟩ = some (.int .i64 ((rd_T34 l0 (ji11)).f2)) ∧ w'.cell? (ad273.add (((ji11)).toNat * 3)) = some (.int .i64 ((rd_T34 l0 (ji11)).f0)) ∧ w'.cell? ⟨(ad273.add (((ji11)).toNat * 3)).block, (ad273.add (((ji11)).toNat * 3)).off + 1, none⟩ = some (.string ((rd_T34 l0 (ji11)).f1)) ∧ w'.cell? ⟨(ad273.add (((ji11)).toNat * 3)).block, (ad273.add (((ji11)).toNat * 3)).off + 2, none⟩ = some (.int .i64 ((rd_T34 l0 (ji11)).f2))) (ds := []) (Array.replicate 48 false) (by kernel_rfl) rfl rfl ⟨(kc_ BK274.out 0).trans rfl, (kc_ BK274.out 1).trans rfl, (kc_ BK274.out 2).trans rfl, ((HB.out.cell (wb_ w _ hw275_0)).trans hw275_0), ((HB.out.cell (wb_ w _ hw275_1)).trans hw275_1), ((HB.out.cell (wb_ w _ hw275_2)).trans hw275_2), ((HB.out.cell (wb_ w _ hw276_0)).trans hw276_0), ((HB.out.cell (wb_ w _ hw276_1)).trans hw276_1), ((HB.out.cell (wb_ w _ hw276_2)).trans hw276_2), ((HB.out.cell (wb_ w _ hw277_0)).trans hw277_0), ((HB.out.cell (wb_ w _ hw277_1)).trans hw277_1), ((HB.out.cell (wb_ w _ hw277_2)).trans hw277_2)⟩ (fun hHeld => ?_); refine with_tabW neumeref08_Check.tab5 neumeref08_Check.bits5 (fun HT_ HW_ => ?_)
            generalize w22.drew = w23 at BK274 HB hx275_0 hx275_1 hx275_2 hx276_0 hx276_1 hx276_2 hx277_0 hx277_1 hx277_2 hHeld ⊢
            refine pu_ (v := ?_) (a' := ?_) 0 19 (bz 48 1) rfl rfl HT_ (by kernel_rfl) (fun _ _ _ h => h) (by rfl) ?_ ?_ ?_
            rotate_left; (intro w'; go_simp; with_reducible rfl); rotate_left; (simp only [Act.put, ls_, lz_, lc_, i64_w, i32_w]; rfl)
            refine ta_ (v := ?_) (a' := ?_) 1 20 (bz 48 3) rfl rfl HT_ HW_ (by kernel_rfl) (fun _ _ _ h => h) (by rfl) ?_ hHeld ?_ ?_
            rotate_left
            ·rintro w' ⟨s0, s1, s2, s3, s4, s5, s6, s7, s8, s9, s10, s11⟩
             go_simp
             with_reducible rfl
            rotate_left
            ·simp only [Act.put, ls_, lz_, lc_, i64_w, i32_w]
             rfl
            refine pu_ (v := ?_) (a' := ?_) 2 21 (bz 48 7) rfl rfl HT_ (by kernel_rfl) (fun _ _ _ h => h) (by rfl) ?_ ?_ ?_
            rotate_left; (intro w'; go_simp; with_reducible rfl); rotate_left; (simp only [Act.put, ls_, lz_, lc_, i64_w, i32_w]; rfl)
            refine pu_ (v := ?_) (a' := ?_) 3 22 (bz 48 15) rfl rfl HT_ (by kernel_rfl) (fun _ _ _ h => h) (by rfl) ?_ ?_ ?_
            rotate_left; (intro w'; go_simp; with_reducible rfl); rotate_left; (simp only [Act.put, ls_, lz_, lc_, i64_w, i32_w]; rfl)
            refine pu_ (v := ?_) (a' := ?_) 4 23 (bz 48 31) rfl rfl HT_ (by kernel_rfl) (fun _ _ _ h => h) (by rfl) ?_ ?_ ?_
            rotate_left; (intro w'; go_simp; with_reducible rfl); rotate_left; (simp only [Act.put, ls_, lz_, lc_, i64_w, i32_w]; rfl)
            refine pu_ (v := ?_) (a' := ?_) 5 24 (bz 48 63) rfl rfl HT_ (by kernel_rfl) (fun _ _ _ h => h) (by rfl) ?_ ?_ ?_
            rotate_left; (intro w'; go_simp; with_reducible rfl); rotate_left; (simp only [Act.put, ls_, lz_, lc_, i64_w, i32_w]; rfl)
            refine pu_ (v := ?_) (a' := ?_) 6 25 (bz 48 127) rfl rfl HT_ (by kernel_rfl) (fun _ _ _ h => h) (by rfl) ?_ ?_ ?_
            rotate_left; (intro w'; go_simp; with_reducible rfl); rotate_left; (simp only [Act.put, ls_, lz_, lc_, i64_w, i32_w]; rfl)
            refine pu_ (v := ?_) (a' := ?_) 7 26 (bz 48 255) rfl rfl HT_ (by kernel_rfl) (fun _ _ _ h => h) (by rfl) ?_ ?_ ?_
            rotate_left; (intro w'; go_simp; with_reducible rfl); rotate_left; (simp only [Act.put, ls_, lz_, lc_, i64_w, i32_w]; rfl)
            refine pu_ (v := ?_) (a' := ?_) 9 28 (bz 48 767) rfl rfl HT_ (by kernel_rfl) (fun _ _ _ h => h) (by rfl) ?_ ?_ ?_
            rotate_left; (intro w'; go_simp; with_reducible rfl); rotate_left; (simp only [Act.put, ls_, lz_, lc_, i64_w, i32_w]; rfl)
            refine pu_ (v := ?_) (a' := ?_) 10 29 (bz 48 1791) rfl rfl HT_ (by kernel_rfl) (fun _ _ _ h => h) (by rfl) ?_ ?_ ?_
            rotate_left; (intro w'; go_simp; with_reducible rfl); rotate_left; (simp only [Act.put, ls_, lz_, lc_, i64_w, i32_w]; rfl)
            refine pu_ (v := ?_) (a' := ?_) 11 30 (bz 48 3839) rfl rfl HT_ (by kernel_rfl) (fun _ _ _ h => h) (by rfl) ?_ ?_ ?_
            rotate_left; (intro w'; go_simp; with_reducible rfl); rotate_left; (simp only [Act.put, ls_, lz_, lc_, i64_w, i32_w]; rfl)
            refine pu_ (v := ?_) (a' := ?_) 12 31 (bz 48 7935) rfl rfl HT_ (by kernel_rfl) (fun _ _ _ h => h) (by rfl) ?_ ?_ ?_
            rotate_left; (intro w'; go_simp; with_reducible rfl); rotate_left; (simp only [Act.put, ls_, lz_, lc_, i64_w, i32_w]; rfl)
            refine pu_ (v := ?_) (a' := ?_) 13 32 (bz 48 16127) rfl rfl HT_ (by kernel_rfl) (fun _ _ _ h => h) (by rfl) ?_ ?_ ?_
            rotate_left; (intro w'; go_simp; with_reducible rfl); rotate_left; (simp only [Act.put, ls_, lz_, lc_, i64_w, i32_w]; rfl)
            refine ta_ (v := ?_) (a' := ?_) 8 27 (bz 48 16383) rfl rfl HT_ HW_ (by kernel_rfl) (fun _ _ _ h => h) (by rfl) ?_ hHeld ?_ ?_
            rotate_left
            ·rintro w' ⟨s0, s1, s2, s3, s4, s5, s6, s7, s8, s9, s10, s11⟩
             go_simp
             with_reducible rfl
            rotate_left
            ·simp only [Act.put, ls_, lz_, lc_, i64_w, i32_w]
             rfl
            refine ta_ (v := ?_) (a' := ?_) 14 33 (bz 48 32767) rfl rfl HT_ HW_ (by kernel_rfl) (fun _ _ _ h => h) (by rfl) ?_ hHeld ?_ ?_
            rotate_left
            ·rintro w' ⟨s0, s1, s2, s3, s4, s5, s6, s7, s8, s9, s10, s11⟩
             go_simp
             with_reducible rfl
            rotate_left
            ·simp only [Act.put, ls_, lz_, lc_, i64_w, i32_w]
             rfl
            refine pu_ (v := ?_) (a' := ?_) 15 34 (bz 48 65535) rfl rfl HT_ (by kernel_rfl) (fun _ _ _ h => h) (by rfl) ?_ ?_ ?_
            rotate_left; (intro w'; go_simp; with_reducible rfl); rotate_left; (simp only [Act.put, ls_, lz_, lc_, i64_w, i32_w]; rfl)
            refine pu_ (v := ?_) (a' := ?_) 16 35 (bz 48 131071) rfl rfl HT_ (by kernel_rfl) (fun _ _ _ h => h) (by rfl) ?_ ?_ ?_
            rotate_left; (intro w'; go_simp; with_reducible rfl); rotate_left; (simp only [Act.put, ls_, lz_, lc_, i64_w, i32_w]; rfl)
            refine pu_ (v := ?_) (a' := ?_) 17 36 (bz 48 262143) rfl rfl HT_ (by kernel_rfl) (fun _ _ _ h => h) (by rfl) ?_ ?_ ?_
            rotate_left; (intro w'; go_simp; with_reducible rfl); rotate_left; (simp only [Act.put, ls_, lz_, lc_, i64_w, i32_w]; rfl)
            refine pu_ (v := ?_) (a' := ?_) 19 38 (bz 48 786431) rfl rfl HT_ (by kernel_rfl) (fun _ _ _ h => h) (by rfl) ?_ ?_ ?_
            rotate_left; (intro w'; go_simp; with_reducible rfl); rotate_left; (simp only [Act.put, ls_, lz_, lc_, i64_w, i32_w]; rfl)
            refine pu_ (v := ?_) (a' := ?_) 20 39 (bz 48 1835007) rfl rfl HT_ (by kernel_rfl) (fun _ _ _ h => h) (by rfl) ?_ ?_ ?_
            rotate_left; (intro w'; go_simp; with_reducible rfl); rotate_left; (simp only [Act.put, ls_, lz_, lc_, i64_w, i32_w]; rfl)
            refine pu_ (v := ?_) (a' := ?_) 21 40 (bz 48 3932159) rfl rfl HT_ (by kernel_rfl) (fun _ _ _ h => h) (by rfl) ?_ ?_ ?_
            rotate_left; (intro w'; go_simp; with_reducible rfl); rotate_left; (simp only [Act.put, ls_, lz_, lc_, i64_w, i32_w]; rfl)
            refine pu_ (v := ?_) (a' := ?_) 22 41 (bz 48 8126463) rfl rfl HT_ (by kernel_rfl) (fun _ _ _ h => h) (by rfl) ?_ ?_ ?_
            rotate_left; (intro w'; go_simp; with_reducible rfl); rotate_left; (simp only [Act.put, ls_, lz_, lc_, i64_w, i32_w]; rfl)
            refine pu_ (v := ?_) (a' := ?_) 23 42 (bz 48 16515071) rfl rfl HT_ (by kernel_rfl) (fun _ _ _ h => h) (by rfl) ?_ ?_ ?_
            rotate_left; (intro w'; go_simp; with_reducible rfl); rotate_left; (simp only [Act.put, ls_, lz_, lc_, i64_w, i32_w]; rfl)
            refine pu_ (v := ?_) (a' := ?_) 26 45 (bz 48 83623935) rfl rfl HT_ (by kernel_rfl) (fun _ _ _ h => h) (by rfl) ?_ ?_ ?_
            rotate_left; (intro w'; go_simp; with_reducible rfl); rotate_left; (simp only [Act.put, ls_, lz_, lc_, i64_w, i32_w]; rfl)
            refine pu_ (v := ?_) (a' := ?_) 27 46 (bz 48 217841663) rfl rfl HT_ (by kernel_rfl) (fun _ _ _ h => h) (by rfl) ?_ ?_ ?_
            rotate_left; (intro w'; go_simp; with_reducible rfl); rotate_left; (simp only [Act.put, ls_, lz_, lc_, i64_w, i32_w]; rfl)
            refine pu_ (v := ?_) (a' := ?_) 28 47 (bz 48 486277119) rfl rfl HT_ (by kernel_rfl) (fun _ _ _ h => h) (by rfl) ?_ ?_ ?_
            rotate_left; (intro w'; go_simp; with_reducible rfl); rotate_left; (simp only [Act.put, ls_, lz_, lc_, i64_w, i32_w]; rfl)
            refine pu_ (v := ?_) (a' := ?_) 29 48 (bz 48 1023148031) rfl rfl HT_ (by kernel_rfl) (fun _ _ _ h => h) (by rfl) ?_ ?_ ?_
            rotate_left; (intro w'; go_simp; with_reducible rfl); rotate_left; (simp only [Act.put, ls_, lz_, lc_, i64_w, i32_w]; rfl)
            refine ta_ (v := ?_) (a' := ?_) 18 37 (bz 48 1023410175) rfl rfl HT_ HW_ (by kernel_rfl) (fun _ _ _ h => h) (by rfl) ?_ hHeld ?_ ?_
            rotate_left
            ·rintro w' ⟨s0, s1, s2, s3, s4, s5, s6, s7, s8, s9, s10, s11⟩
             go_simp
             with_reducible rfl
            rotate_left
            ·simp only [Act.put, ls_, lz_, lc_, i64_w, i32_w]
             rfl
            refine ta_ (v := ?_) (a' := ?_) 24 43 (bz 48 1040187391) rfl rfl HT_ HW_ (by kernel_rfl) (fun _ _ _ h => h) (by rfl) ?_ hHeld ?_ ?_
            rotate_left
            ·rintro w' ⟨s0, s1, s2, s3, s4, s5, s6, s7, s8, s9, s10, s11⟩
             go_simp
             with_reducible rfl
            rotate_left
            ·simp only [Act.put, ls_, lz_, lc_, i64_w, i32_w]
             rfl
            refine pu_ (v := ?_) (a' := ?_) 25 44 (bz 48 1073741823) rfl rfl HT_ (by kernel_rfl) (fun _ _ _ h => h) (by rfl) ?_ ?_ ?_
            rotate_left; (intro w'; go_simp; with_reducible rfl); rotate_left; (simp only [Act.put, ls_, lz_, lc_, i64_w, i32_w]; rfl)
            refine ta_ (v := ?_) (a' := ?_) 30 49 (bz 48 2147483647) rfl rfl HT_ HW_ (by kernel_rfl) (fun _ _ _ h => h) (by rfl) ?_ hHeld ?_ ?_
            rotate_left
            ·rintro w' ⟨s0, s1, s2, s3, s4, s5, s6, s7, s8, s9, s10, s11⟩
             go_simp
             with_reducible rfl
            rotate_left
            ·simp only [Act.put, ls_, lz_, lc_, i64_w, i32_w]
             rfl
            refine on_ (N := some 50) 31 (bz 48 4294967295) rfl rfl HT_ (by kernel_rfl) (by decide) (fun K hK => ?_)
            refine goes_ Tryd.func27 (by kernel_rfl) rfl #[.agg #[.int .i64 ((rd_T34 l0 (ji11)).f0), .string ((rd_T34 l0 (ji11)).f1), .int .i64 ((rd_T34 l0 (ji11)).f2)]] (by rfl) rfl rfl (by (try simp only [lm_, lq_, lx_]); first | done | (simp only [hji11]; rfl) | rfl | (simp only [ld_, lt_]; rfl)) ?_
            with_reducible refine (neumeref08_raw.calls ((rd_T34 l0 (ji11)).f0) ((rd_T34 l0 (ji11)).f1) ((rd_T34 l0 (ji11)).f2) t278 _ A17.out).mono ?_
            rintro e w24 ⟨rfl, hb⟩
            refine ⟨_, rfl, ?_⟩
            replace BK274 := kb_ BK274 hb
            replace HB := hb_ HB (e_ GE274 e0_) hb
            (try clear hb)
            (try clear hb2)
            (try clear hk)
            (try clear hi)
            refine hK.out _ _ ⟨(kc_ BK274.out 0).trans rfl, (kc_ BK274.out 1).trans rfl, (kc_ BK274.out 2).trans rfl, ((HB.out.cell (wb_ w _ hw275_0)).trans hw275_0), ((HB.out.cell (wb_ w _ hw275_1)).trans hw275_1), ((HB.out.cell (wb_ w _ hw275_2)).trans hw275_2), ((HB.out.cell (wb_ w _ hw276_0)).trans hw276_0), ((HB.out.cell (wb_ w _ hw276_1)).trans hw276_1), ((HB.out.cell (wb_ w _ hw276_2)).trans hw276_2), ((HB.out.cell (wb_ w _ hw277_0)).trans hw277_0), ((HB.out.cell (wb_ w _ hw277_1)).trans hw277_1), ((HB.out.cell (wb_ w _ hw277_2)).trans hw277_2)⟩ (fun hHeld => ?_)
            clear hK K
            refine norm_ (a' := ?_) ?_ ?_
            rotate_left
            ·show Act.put _ (some 50) _ = _
             simp only [Act.put, ls_, lz_, lc_, i64_w, i32_w]
             rfl
            refine pu_ (v := ?_) (a' := ?_) 32 51 (bz 48 8589934591) rfl rfl HT_ (by kernel_rfl) (fun _ _ _ h => h) (by rfl) ?_ ?_ ?_
            rotate_left; (intro w'; go_simp; with_reducible rfl); rotate_left; (simp only [Act.put, ls_, lz_, lc_, i64_w, i32_w]; rfl)
            refine pu_ (v := ?_) (a' := ?_) 33 52 (bz 48 17179869183) rfl rfl HT_ (by kernel_rfl) (fun _ _ _ h => h) (by rfl) ?_ ?_ ?_
            rotate_left; (intro w'; go_simp; with_reducible rfl); rotate_left; (simp only [Act.put, ls_, lz_, lc_, i64_w, i32_w]; rfl)
            refine pu_ (v := ?_) (a' := ?_) 34 53 (bz 48 34359738367) rfl rfl HT_ (by kernel_rfl) (fun _ _ _ h => h) (by rfl) ?_ ?_ ?_
            rotate_left; (intro w'; go_simp; with_reducible rfl); rotate_left; (simp only [Act.put, ls_, lz_, lc_, i64_w, i32_w]; rfl)
            refine pu_ (v := ?_) (a' := ?_) 35 54 (bz 48 68719476735) rfl rfl HT_ (by kernel_rfl) (fun _ _ _ h => h) (by rfl) ?_ ?_ ?_
            rotate_left; (intro w'; go_simp; with_reducible rfl); rotate_left; (simp only [Act.put, ls_, lz_, lc_, i64_w, i32_w]; rfl)
            refine pu_ (v := ?_) (a' := ?_) 36 55 (bz 48 137438953471) rfl rfl HT_ (by kernel_rfl) (fun _ _ _ h => h) (by rfl) ?_ ?_ ?_
            rotate_left; (intro w'; go_simp; with_reducible rfl); rotate_left; (simp only [Act.put, ls_, lz_, lc_, i64_w, i32_w]; rfl)
            refine pu_ (v := ?_) (a' := ?_) 37 56 (bz 48 274877906943) rfl rfl HT_ (by kernel_rfl) (fun _ _ _ h => h) (by rfl) ?_ ?_ ?_
            rotate_left; (intro w'; go_simp; with_reducible rfl); rotate_left; (simp only [Act.put, ls_, lz_, lc_, i64_w, i32_w]; rfl)
            refine pu_ (v := ?_) (a' := ?_) 38 57 (bz 48 549755813887) rfl rfl HT_ (by kernel_rfl) (fun _ _ _ h => h) (by rfl) ?_ ?_ ?_
            rotate_left; (intro w'; go_simp; with_reducible rfl); rotate_left; (simp only [Act.put, ls_, lz_, lc_, i64_w, i32_w]; rfl)
            refine pu_ (v := ?_) (a' := ?_) 41 60 (bz 48 2748779069439) rfl rfl HT_ (by kernel_rfl) (fun _ _ _ h => h) (by rfl) ?_ ?_ ?_
            rotate_left; (intro w'; go_simp; with_reducible rfl); rotate_left; (simp only [Act.put, ls_, lz_, lc_, i64_w, i32_w]; rfl)
            refine pu_ (v := ?_) (a' := ?_) 42 61 (bz 48 7146825580543) rfl rfl HT_ (by kernel_rfl) (fun _ _ _ h => h) (by rfl) ?_ ?_ ?_
            rotate_left; (intro w'; go_simp; with_reducible rfl); rotate_left; (simp only [Act.put, ls_, lz_, lc_, i64_w, i32_w]; rfl)
            refine pu_ (v := ?_) (a' := ?_) 43 62 (bz 48 15942918602751) rfl rfl HT_ (by kernel_rfl) (fun _ _ _ h => h) (by rfl) ?_ ?_ ?_
            rotate_left; (intro w'; go_simp; with_reducible rfl); rotate_left; (simp only [Act.put, ls_, lz_, lc_, i64_w, i32_w]; rfl)
            refine pu_ (v := ?_) (a' := ?_) 44 63 (bz 48 33535104647167) rfl rfl HT_ (by kernel_rfl) (fun _ _ _ h => h) (by rfl) ?_ ?_ ?_
            rotate_left; (intro w'; go_simp; with_reducible rfl); rotate_left; (simp only [Act.put, ls_, lz_, lc_, i64_w, i32_w]; rfl)
            refine pu_ (v := ?_) (a' := ?_) 45 64 (bz 48 68719476735999) rfl rfl HT_ (by kernel_rfl) (fun _ _ _ h => h) (by rfl) ?_ ?_ ?_
            rotate_left; (intro w'; go_simp; with_reducible rfl); rotate_left; (simp only [Act.put, ls_, lz_, lc_, i64_w, i32_w]; rfl)
            refine ta_ (v := ?_) (a' := ?_) 39 58 (bz 48 69269232549887) rfl rfl HT_ HW_ (by kernel_rfl) (fun _ _ _ h => h) (by rfl) ?_ hHeld ?_ ?_
            rotate_left
            ·rintro w' ⟨s0, s1, s2, s3, s4, s5, s6, s7, s8, s9, s10, s11⟩
             go_simp
             with_reducible rfl
            rotate_left
            ·simp only [Act.put, ls_, lz_, lc_, i64_w, i32_w]
             rfl
            refine pu_ (v := ?_) (a' := ?_) 40 59 (bz 48 70368744177663) rfl rfl HT_ (by kernel_rfl) (fun _ _ _ h => h) (by rfl) ?_ ?_ ?_
            rotate_left; (intro w'; go_simp; with_reducible rfl); rotate_left; (simp only [Act.put, ls_, lz_, lc_, i64_w, i32_w]; rfl)
            refine pu_ (v := ?_) (a' := ?_) 46 65 (bz 48 140737488355327) rfl rfl HT_ (by kernel_rfl) (fun _ _ _ h => h) (by rfl) ?_ ?_ ?_
            rotate_left; (intro w'; go_simp; with_reducible rfl); rotate_left; (simp only [Act.put, ls_, lz_, lc_, i64_w, i32_w]; rfl)
            refine pu_ (v := ?_) (a' := ?_) 47 66 (bz 48 281474976710655) rfl rfl HT_ (by kernel_rfl) (fun _ _ _ h => h) (by rfl) ?_ ?_ ?_
            rotate_left; (intro w'; go_simp; with_reducible rfl); rotate_left; (simp only [Act.put, ls_, lz_, lc_, i64_w, i32_w]; rfl)
            refine done_ (done_of HT_.out (by kernel_rfl)) ?_
            try go_wp2
            go_meet
            case rel => exact ⟨_, (((((rd_T34 l0 x3_1).f0) == 8) != (x3_1 == (wrap64 ((l0.length : Int) - 1))))), (by first | rfl | (simp; done) | (simp [*]; done) | (simp [bne]; done)), H', ⟨by have := HK1.out; first | omega | exact Nat.le_refl _⟩, ⟨by (with_reducible repeat first | apply kn_ | apply kd_ | apply ka_); exact BK274.out⟩, ⟨by repeat (first | (with_reducible first | exact HB.out | apply ba_ | apply pd_ | apply d1_ | refine bs_ ?_ GE274.out) | exact HB.out)⟩⟩
         ·rw [if_neg c13] at H
          exact absurd H (by simp)
        ·rw [if_neg c12] at H
         exact absurd H (by simp)
       ·rw [if_neg c10] at H
        have c10b0 : decide (0 < x3_1) = false := df_ c10
        clear c10
        have H' := sd_ H
        clear H
        try go_wp2
        have n0_ : Aside0 ((((w5.setCell ⟨gb274, 0, none⟩ (.int .i64 ((rd_T34 l0 x3_1).f0))).setCell ⟨gb274, 1, none⟩ (.string ((rd_T34 l0 x3_1).f1))).setCell ⟨gb274, 2, none⟩ (.int .i64 ((rd_T34 l0 x3_1).f2))).heap[gb274]? = some (.cells #[.int .i64 ((rd_T34 l0 x3_1).f0), .string ((rd_T34 l0 x3_1).f1), .int .i64 ((rd_T34 l0 x3_1).f2)] 34 (0, 0))) := ⟨by (with_reducible repeat first | apply kn_ | apply kd_ | apply ka_); refine blk_put (cs := #[.int .i64 ((rd_T34 l0 x3_1).f0), .string ((rd_T34 l0 x3_1).f1), .int .i64 0]) ?_ 2 _ rfl; (with_reducible repeat first | apply kn_ | apply kd_ | apply ka_); refine blk_put (cs := #[.int .i64 ((rd_T34 l0 x3_1).f0), .string (⟨#[]⟩ : ByteArray), .int .i64 0]) ?_ 1 _ rfl; (with_reducible repeat first | apply kn_ | apply kd_ | apply ka_); refine blk_put (cs := #[.int .i64 0, .string (⟨#[]⟩ : ByteArray), .int .i64 0]) ?_ 0 _ rfl; (with_reducible repeat first | apply kn_ | apply kd_ | apply ka_); exact BK274.out⟩
        have n1_ : Aside0 (Below w.heap.size w (((w5.setCell ⟨gb274, 0, none⟩ (.int .i64 ((rd_T34 l0 x3_1).f0))).setCell ⟨gb274, 1, none⟩ (.string ((rd_T34 l0 x3_1).f1))).setCell ⟨gb274, 2, none⟩ (.int .i64 ((rd_T34 l0 x3_1).f2)))) := ⟨by repeat (first | (with_reducible first | exact HB.out | apply ba_ | apply pd_ | apply d1_ | refine bs_ ?_ GE274.out) | exact HB.out)⟩
        (try clear BK274)
        (try clear HB)
        generalize (((w5.setCell ⟨gb274, 0, none⟩ (.int .i64 ((rd_T34 l0 x3_1).f0))).setCell ⟨gb274, 1, none⟩ (.string ((rd_T34 l0 x3_1).f1))).setCell ⟨gb274, 2, none⟩ (.int .i64 ((rd_T34 l0 x3_1).f2))) = w25 at n0_ n1_ ⊢
        have BK274 := n0_
        have HB := n1_
        clear n0_ n1_
        replace BK274 := sd_ (kd_ BK274.out)
        replace HB := sd_ (d1_ HB.out)
        refine start_ (n := 48) (S := fun w' => w'.cell? ⟨gb274, 0, none⟩ = some (.int .i64 ((rd_T34 l0 x3_1).f0)) ∧ w'.cell? ⟨gb274, 1, none⟩ = some (.string ((rd_T34 l0 x3_1).f1)) ∧ w'.cell? ⟨gb274, 2, none⟩ = some (.int .i64 ((rd_T34 l0 x3_1).f2))) (ds := []) (Array.replicate 48 false) (by kernel_rfl) rfl rfl ⟨(kc_ BK274.out 0).trans rfl, (kc_ BK274.out 1).trans rfl, (kc_ BK274.out 2).trans rfl⟩ (fun hHeld => ?_); refine with_tabW neumeref08_Check.tab5 neumeref08_Check.bits5 (fun HT_ HW_ => ?_)
        generalize w25.drew = w26 at BK274 HB hHeld ⊢
        refine pu_ (v := ?_) (a' := ?_) 0 19 (bz 48 1) rfl rfl HT_ (by kernel_rfl) (fun _ _ _ h => h) (by rfl) ?_ ?_ ?_
        rotate_left; (intro w'; go_simp; with_reducible rfl); rotate_left; (simp only [Act.put, ls_, lz_, lc_, i64_w, i32_w]; rfl)
        refine ta_ (v := ?_) (a' := ?_) 1 20 (bz 48 3) rfl rfl HT_ HW_ (by kernel_rfl) (fun _ _ _ h => h) (by rfl) ?_ hHeld ?_ ?_
        rotate_left
        ·rintro w' ⟨s0, s1, s2⟩
         go_simp
         with_reducible rfl
        rotate_left
        ·simp only [Act.put, ls_, lz_, lc_, i64_w, i32_w]
         rfl
        refine pu_ (v := ?_) (a' := ?_) 2 21 (bz 48 7) rfl rfl HT_ (by kernel_rfl) (fun _ _ _ h => h) (by rfl) ?_ ?_ ?_
        rotate_left; (intro w'; go_simp; with_reducible rfl); rotate_left; (simp only [Act.put, ls_, lz_, lc_, i64_w, i32_w]; rfl)
        refine pu_ (v := ?_) (a' := ?_) 3 22 (bz 48 15) rfl rfl HT_ (by kernel_rfl) (fun _ _ _ h => h) (by rfl) ?_ ?_ ?_
        rotate_left; (intro w'; go_simp; with_reducible rfl); rotate_left; (simp only [Act.put, ls_, lz_, lc_, i64_w, i32_w]; rfl)
        refine pu_ (v := ?_) (a' := ?_) 4 23 (bz 48 31) rfl rfl HT_ (by kernel_rfl) (fun _ _ _ h => h) (by rfl) ?_ ?_ ?_
        rotate_left; (intro w'; go_simp; with_reducible rfl); rotate_left; (simp only [Act.put, ls_, lz_, lc_, i64_w, i32_w]; rfl)
        refine pu_ (v := ?_) (a' := ?_) 5 24 (bz 48 63) rfl rfl HT_ (by kernel_rfl) (fun _ _ _ h => h) (by rfl) ?_ ?_ ?_
        rotate_left; (intro w'; go_simp; with_reducible rfl); rotate_left; (simp only [Act.put, ls_, lz_, lc_, i64_w, i32_w]; rfl)
        refine pu_ (v := ?_) (a' := ?_) 6 25 (bz 48 127) rfl rfl HT_ (by kernel_rfl) (fun _ _ _ h => h) (by rfl) ?_ ?_ ?_
        rotate_left; (intro w'; go_simp; with_reducible rfl); rotate_left; (simp only [Act.put, ls_, lz_, lc_, i64_w, i32_w]; rfl)
        refine pz_ (a' := ?_) 7 26 (bz 48 255) rfl rfl HT_ (by kernel_rfl) (fun _ _ _ h => h) (by rfl) ?_ ?_
        rotate_left
        ·simp only [Act.put, ls_, lz_, lc_, i64_w, i32_w]
         rfl
        refine pz_ (a' := ?_) 8 27 (bz 48 511) rfl rfl HT_ (by kernel_rfl) (fun _ _ _ h => h) (by rfl) ?_ ?_
        rotate_left
        ·simp only [Act.put, ls_, lz_, lc_, i64_w, i32_w]
         rfl
        refine pz_ (a' := ?_) 9 28 (bz 48 1023) rfl rfl HT_ (by kernel_rfl) (fun _ _ _ h => h) (by rfl) ?_ ?_
        rotate_left
        ·simp only [Act.put, ls_, lz_, lc_, i64_w, i32_w]
         rfl
        refine pz_ (a' := ?_) 10 29 (bz 48 2047) rfl rfl HT_ (by kernel_rfl) (fun _ _ _ h => h) (by rfl) ?_ ?_
        rotate_left
        ·simp only [Act.put, ls_, lz_, lc_, i64_w, i32_w]
         rfl
        refine pz_ (a' := ?_) 11 30 (bz 48 4095) rfl rfl HT_ (by kernel_rfl) (fun _ _ _ h => h) (by rfl) ?_ ?_
        rotate_left
        ·simp only [Act.put, ls_, lz_, lc_, i64_w, i32_w]
         rfl
        refine pz_ (a' := ?_) 12 31 (bz 48 8191) rfl rfl HT_ (by kernel_rfl) (fun _ _ _ h => h) (by rfl) ?_ ?_
        rotate_left
        ·simp only [Act.put, ls_, lz_, lc_, i64_w, i32_w]
         rfl
        refine pz_ (a' := ?_) 13 32 (bz 48 16383) rfl rfl HT_ (by kernel_rfl) (fun _ _ _ h => h) (by rfl) ?_ ?_
        rotate_left
        ·simp only [Act.put, ls_, lz_, lc_, i64_w, i32_w]
         rfl
        refine pz_ (a' := ?_) 14 33 (bz 48 32767) rfl rfl HT_ (by kernel_rfl) (fun _ _ _ h => h) (by rfl) ?_ ?_
        rotate_left
        ·simp only [Act.put, ls_, lz_, lc_, i64_w, i32_w]
         rfl
        refine pz_ (a' := ?_) 15 34 (bz 48 65535) rfl rfl HT_ (by kernel_rfl) (fun _ _ _ h => h) (by rfl) ?_ ?_
        rotate_left
        ·simp only [Act.put, ls_, lz_, lc_, i64_w, i32_w]
         rfl
        refine pz_ (a' := ?_) 16 35 (bz 48 131071) rfl rfl HT_ (by kernel_rfl) (fun _ _ _ h => h) (by rfl) ?_ ?_
        rotate_left
        ·simp only [Act.put, ls_, lz_, lc_, i64_w, i32_w]
         rfl
        refine pz_ (a' := ?_) 17 36 (bz 48 262143) rfl rfl HT_ (by kernel_rfl) (fun _ _ _ h => h) (by rfl) ?_ ?_
        rotate_left
        ·simp only [Act.put, ls_, lz_, lc_, i64_w, i32_w]
         rfl
        refine pz_ (a' := ?_) 18 37 (bz 48 524287) rfl rfl HT_ (by kernel_rfl) (fun _ _ _ h => h) (by rfl) ?_ ?_
        rotate_left
        ·simp only [Act.put, ls_, lz_, lc_, i64_w, i32_w]
         rfl
        refine pz_ (a' := ?_) 19 38 (bz 48 1048575) rfl rfl HT_ (by kernel_rfl) (fun _ _ _ h => h) (by rfl) ?_ ?_
        rotate_left
        ·simp only [Act.put, ls_, lz_, lc_, i64_w, i32_w]
         rfl
        refine pz_ (a' := ?_) 20 39 (bz 48 2097151) rfl rfl HT_ (by kernel_rfl) (fun _ _ _ h => h) (by rfl) ?_ ?_
        rotate_left
        ·simp only [Act.put, ls_, lz_, lc_, i64_w, i32_w]
         rfl
        refine pz_ (a' := ?_) 21 40 (bz 48 4194303) rfl rfl HT_ (by kernel_rfl) (fun _ _ _ h => h) (by rfl) ?_ ?_
        rotate_left
        ·simp only [Act.put, ls_, lz_, lc_, i64_w, i32_w]
         rfl
        refine pz_ (a' := ?_) 22 41 (bz 48 8388607) rfl rfl HT_ (by kernel_rfl) (fun _ _ _ h => h) (by rfl) ?_ ?_
        rotate_left
        ·simp only [Act.put, ls_, lz_, lc_, i64_w, i32_w]
         rfl
        refine pz_ (a' := ?_) 23 42 (bz 48 16777215) rfl rfl HT_ (by kernel_rfl) (fun _ _ _ h => h) (by rfl) ?_ ?_
        rotate_left
        ·simp only [Act.put, ls_, lz_, lc_, i64_w, i32_w]
         rfl
        refine pz_ (a' := ?_) 24 43 (bz 48 33554431) rfl rfl HT_ (by kernel_rfl) (fun _ _ _ h => h) (by rfl) ?_ ?_
        rotate_left
        ·simp only [Act.put, ls_, lz_, lc_, i64_w, i32_w]
         rfl
        refine pz_ (a' := ?_) 25 44 (bz 48 67108863) rfl rfl HT_ (by kernel_rfl) (fun _ _ _ h => h) (by rfl) ?_ ?_
        rotate_left
        ·simp only [Act.put, ls_, lz_, lc_, i64_w, i32_w]
         rfl
        refine pz_ (a' := ?_) 26 45 (bz 48 134217727) rfl rfl HT_ (by kernel_rfl) (fun _ _ _ h => h) (by rfl) ?_ ?_
        rotate_left
        ·simp only [Act.put, ls_, lz_, lc_, i64_w, i32_w]
         rfl
        refine pz_ (a' := ?_) 27 46 (bz 48 268435455) rfl rfl HT_ (by kernel_rfl) (fun _ _ _ h => h) (by rfl) ?_ ?_
        rotate_left
        ·simp only [Act.put, ls_, lz_, lc_, i64_w, i32_w]
         rfl
        refine pz_ (a' := ?_) 28 47 (bz 48 536870911) rfl rfl HT_ (by kernel_rfl) (fun _ _ _ h => h) (by rfl) ?_ ?_
        rotate_left
        ·simp only [Act.put, ls_, lz_, lc_, i64_w, i32_w]
         rfl
        refine pz_ (a' := ?_) 29 48 (bz 48 1073741823) rfl rfl HT_ (by kernel_rfl) (fun _ _ _ h => h) (by rfl) ?_ ?_
        rotate_left
        ·simp only [Act.put, ls_, lz_, lc_, i64_w, i32_w]
         rfl
        refine pz_ (a' := ?_) 30 49 (bz 48 2147483647) rfl rfl HT_ (by kernel_rfl) (fun _ _ _ h => h) (by rfl) ?_ ?_
        rotate_left
        ·simp only [Act.put, ls_, lz_, lc_, i64_w, i32_w]
         rfl
        refine pz_ (a' := ?_) 31 50 (bz 48 4294967295) rfl rfl HT_ (by kernel_rfl) (fun _ _ _ h => h) (by rfl) ?_ ?_
        rotate_left
        ·simp only [Act.put, ls_, lz_, lc_, i64_w, i32_w]
         rfl
        refine pz_ (a' := ?_) 32 51 (bz 48 8589934591) rfl rfl HT_ (by kernel_rfl) (fun _ _ _ h => h) (by rfl) ?_ ?_
        rotate_left
        ·simp only [Act.put, ls_, lz_, lc_, i64_w, i32_w]
         rfl
        refine pz_ (a' := ?_) 33 52 (bz 48 17179869183) rfl rfl HT_ (by kernel_rfl) (fun _ _ _ h => h) (by rfl) ?_ ?_
        rotate_left
        ·simp only [Act.put, ls_, lz_, lc_, i64_w, i32_w]
         rfl
        refine pz_ (a' := ?_) 34 53 (bz 48 34359738367) rfl rfl HT_ (by kernel_rfl) (fun _ _ _ h => h) (by rfl) ?_ ?_
        rotate_left
        ·simp only [Act.put, ls_, lz_, lc_, i64_w, i32_w]
         rfl
        refine pu_ (v := ?_) (a' := ?_) 35 54 (bz 48 68719476735) rfl rfl HT_ (by kernel_rfl) (fun _ _ _ h => h) (by rfl) ?_ ?_ ?_
        rotate_left; (intro w'; go_simp; with_reducible rfl); rotate_left; (simp only [Act.put, ls_, lz_, lc_, i64_w, i32_w]; rfl)
        refine pu_ (v := ?_) (a' := ?_) 36 55 (bz 48 137438953471) rfl rfl HT_ (by kernel_rfl) (fun _ _ _ h => h) (by rfl) ?_ ?_ ?_
        rotate_left; (intro w'; go_simp; with_reducible rfl); rotate_left; (simp only [Act.put, ls_, lz_, lc_, i64_w, i32_w]; rfl)
        refine pu_ (v := ?_) (a' := ?_) 37 56 (bz 48 274877906943) rfl rfl HT_ (by kernel_rfl) (fun _ _ _ h => h) (by rfl) ?_ ?_ ?_
        rotate_left; (intro w'; go_simp; with_reducible rfl); rotate_left; (simp only [Act.put, ls_, lz_, lc_, i64_w, i32_w]; rfl)
        refine pu_ (v := ?_) (a' := ?_) 38 57 (bz 48 549755813887) rfl rfl HT_ (by kernel_rfl) (fun _ _ _ h => h) (by rfl) ?_ ?_ ?_
        rotate_left; (intro w'; go_simp; with_reducible rfl); rotate_left; (simp only [Act.put, ls_, lz_, lc_, i64_w, i32_w]; rfl)
        refine pu_ (v := ?_) (a' := ?_) 41 60 (bz 48 2748779069439) rfl rfl HT_ (by kernel_rfl) (fun _ _ _ h => h) (by rfl) ?_ ?_ ?_
        rotate_left; (intro w'; go_simp; with_reducible rfl); rotate_left; (simp only [Act.put, ls_, lz_, lc_, i64_w, i32_w]; rfl)
        refine pu_ (v := ?_) (a' := ?_) 42 61 (bz 48 7146825580543) rfl rfl HT_ (by kernel_rfl) (fun _ _ _ h => h) (by rfl) ?_ ?_ ?_
        rotate_left; (intro w'; go_simp; with_reducible rfl); rotate_left; (simp only [Act.put, ls_, lz_, lc_, i64_w, i32_w]; rfl)
        refine pu_ (v := ?_) (a' := ?_) 43 62 (bz 48 15942918602751) rfl rfl HT_ (by kernel_rfl) (fun _ _ _ h => h) (by rfl) ?_ ?_ ?_
        rotate_left; (intro w'; go_simp; with_reducible rfl); rotate_left; (simp only [Act.put, ls_, lz_, lc_, i64_w, i32_w]; rfl)
        refine pu_ (v := ?_) (a' := ?_) 44 63 (bz 48 33535104647167) rfl rfl HT_ (by kernel_rfl) (fun _ _ _ h => h) (by rfl) ?_ ?_ ?_
        rotate_left; (intro w'; go_simp; with_reducible rfl); rotate_left; (simp only [Act.put, ls_, lz_, lc_, i64_w, i32_w]; rfl)
        refine pu_ (v := ?_) (a' := ?_) 45 64 (bz 48 68719476735999) rfl rfl HT_ (by kernel_rfl) (fun _ _ _ h => h) (by rfl) ?_ ?_ ?_
        rotate_left; (intro w'; go_simp; with_reducible rfl); rotate_left; (simp only [Act.put, ls_, lz_, lc_, i64_w, i32_w]; rfl)
        refine ta_ (v := ?_) (a' := ?_) 39 58 (bz 48 69269232549887) rfl rfl HT_ HW_ (by kernel_rfl) (fun _ _ _ h => h) (by rfl) ?_ hHeld ?_ ?_
        rotate_left
        ·rintro w' ⟨s0, s1, s2⟩
         go_simp
         with_reducible rfl
        rotate_left
        ·simp only [Act.put, ls_, lz_, lc_, i64_w, i32_w]
         rfl
        refine pu_ (v := ?_) (a' := ?_) 40 59 (bz 48 70368744177663) rfl rfl HT_ (by kernel_rfl) (fun _ _ _ h => h) (by rfl) ?_ ?_ ?_
        rotate_left; (intro w'; go_simp; with_reducible rfl); rotate_left; (simp only [Act.put, ls_, lz_, lc_, i64_w, i32_w]; rfl)
        refine pu_ (v := ?_) (a' := ?_) 46 65 (bz 48 140737488355327) rfl rfl HT_ (by kernel_rfl) (fun _ _ _ h => h) (by rfl) ?_ ?_ ?_
        rotate_left; (intro w'; go_simp; with_reducible rfl); rotate_left; (simp only [Act.put, ls_, lz_, lc_, i64_w, i32_w]; rfl)
        refine pu_ (v := ?_) (a' := ?_) 47 66 (bz 48 281474976710655) rfl rfl HT_ (by kernel_rfl) (fun _ _ _ h => h) (by rfl) ?_ ?_ ?_
        rotate_left; (intro w'; go_simp; with_reducible rfl); rotate_left; (simp only [Act.put, ls_, lz_, lc_, i64_w, i32_w]; rfl)
        refine done_ (done_of HT_.out (by kernel_rfl)) ?_
        try go_wp2
        go_meet
        case rel => exact ⟨_, (((((rd_T34 l0 x3_1).f0) == 8) != (x3_1 == (wrap64 ((l0.length : Int) - 1))))), (by first | rfl | (simp; done) | (simp [*]; done) | (simp [bne]; done)), H', ⟨by have := HK1.out; first | omega | exact Nat.le_refl _⟩, ⟨by (with_reducible repeat first | apply kn_ | apply kd_ | apply ka_); exact BK274.out⟩, ⟨by repeat (first | (with_reducible first | exact HB.out | apply ba_ | apply pd_ | apply d1_ | refine bs_ ?_ GE274.out) | exact HB.out)⟩⟩
     case rest =>
      clear HC4
      try clear c1; try clear c2; try clear p2; try clear p6; try clear c10; try clear c10b0; try clear c12; try clear c13
      obtain ⟨kq, x66_3, rfl, HA, HJ3, BK274, HB⟩ := hcut
      cases kq with
      | zero => exact absurd HA.out (by simp [neumeref08_Check.j1])
      | succ kj3 =>
       have H := HA.out
       clear HA
       simp only [neumeref08_Check.j1] at H
       by_cases c27 : x66_3 = true
       ·subst c27
        have H1 : (some false) = some r := by rw [if_pos rfl] at H; exact H
        clear H; have H := H1; clear H1
        obtain rfl := Option.some.inj H
        go_wp2
        go_ret
        exact ⟨by first | rfl | (simp [errW_none, errW_some] <;> rfl) | (simp [*, errW_none, errW_some] <;> rfl), by repeat (first | (with_reducible first | exact HB.out | apply ba_ | apply pd_ | apply d1_ | refine bs_ ?_ GE274.out) | exact HB.out)⟩
       ·replace c27 := bf_ c27
        subst c27
        have H1 : (if ((rd_T34 l0 x3_1).f0) = 8 then (some (((rd_T34 l0 x3_1).f1).toList == ([] : List UInt8))) else ((neumeref08_raw.f ((rd_T34 l0 x3_1).f0) ((rd_T34 l0 x3_1).f1) ((rd_T34 l0 x3_1).f2)).bind fun t279 => (if (t279.size : Int) = 0 then (neumeref08_Check.j2 kj3 l0 x3_1 t279 true ((rd_T34 l0 x3_1).f0) ((rd_T34 l0 x3_1).f1) ((rd_T34 l0 x3_1).f2)) else (if (t279.size : Int) > 65536 then (neumeref08_Check.j2 kj3 l0 x3_1 t279 true ((rd_T34 l0 x3_1).f0) ((rd_T34 l0 x3_1).f1) ((rd_T34 l0 x3_1).f2)) else ((neumeref08_skip.f kj3 t279 0).bind fun t280 => (neumeref08_Check.j2 kj3 l0 x3_1 t279 (t280 != 0) ((rd_T34 l0 x3_1).f0) ((rd_T34 l0 x3_1).f1) ((rd_T34 l0 x3_1).f2))))))) = some r := by rw [if_neg (show ¬ (false = true) by decide)] at H; exact H
        clear H; have H := H1; clear H1
        by_cases c28 : ((rd_T34 l0 x3_1).f0) = 8
        ·rw [if_pos c28] at H
         have c28b0 : (((rd_T34 l0 x3_1).f0) == 8) = true := beq_iff_eq.mpr c28
         have c28b1 : (((rd_T34 l0 x3_1).f0) != 8) = false := bne_eq_false_iff_eq.mpr c28
         clear c28
         obtain rfl := Option.some.inj H
         have hcz29_0 : wc.cell? ⟨gb274, 0, none⟩ = some (.int .i64 ((rd_T34 l0 x3_1).f0)) := (kc_ BK274.out 0).trans rfl
         have hcz29_1 : wc.cell? ⟨gb274, 1, none⟩ = some (.string ((rd_T34 l0 x3_1).f1)) := (kc_ BK274.out 1).trans rfl
         have hcz29_2 : wc.cell? ⟨gb274, 2, none⟩ = some (.int .i64 ((rd_T34 l0 x3_1).f2)) := (kc_ BK274.out 2).trans rfl
         have hfz29_0 := kf_ BK274.out 0
         have hfz29_1 := kf_ BK274.out 1
         have hfz29_2 := kf_ BK274.out 2
         go_wp2
         go_ret
         exact ⟨by first | rfl | (simp [errW_none, errW_some] <;> rfl) | (simp [*, errW_none, errW_some] <;> rfl), by repeat (first | (with_reducible first | exact HB.out | apply ba_ | apply pd_ | apply d1_ | refine bs_ ?_ GE274.out) | exact HB.out)⟩
        ·rw [if_neg c28] at H
         have c28b0 : (((rd_T34 l0 x3_1).f0) == 8) = false := beq_eq_false_iff_ne.mpr c28
         have c28b1 : (((rd_T34 l0 x3_1).f0) != 8) = true := bne_iff_ne.mpr c28
         replace H := ob_ H
         obtain ⟨t279, A300, H⟩ := H
         replace H : (if (t279.size : Int) = 0 then (neumeref08_Check.j2 kj3 l0 x3_1 t279 true ((rd_T34 l0 x3_1).f0) ((rd_T34 l0 x3_1).f1) ((rd_T34 l0 x3_1).f2)) else (if (t279.size : Int) > 65536 then (neumeref08_Check.j2 kj3 l0 x3_1 t279 true ((rd_T34 l0 x3_1).f0) ((rd_T34 l0 x3_1).f1) ((rd_T34 l0 x3_1).f2)) else ((neumeref08_skip.f kj3 t279 0).bind fun t280 => (neumeref08_Check.j2 kj3 l0 x3_1 t279 (t280 != 0) ((rd_T34 l0 x3_1).f0) ((rd_T34 l0 x3_1).f1) ((rd_T34 l0 x3_1).f2))))) = some r := H
         have A30 := sd_ A300
         clear A300
         have HC31 := sd_ H
         clear H
         have hcz32_0 : wc.cell? ⟨gb274, 0, none⟩ = some (.int .i64 ((rd_T34 l0 x3_1).f0)) := (kc_ BK274.out 0).trans rfl
         have hcz32_1 : wc.cell? ⟨gb274, 1, none⟩ = some (.string ((rd_T34 l0 x3_1).f1)) := (kc_ BK274.out 1).trans rfl
         have hcz32_2 : wc.cell? ⟨gb274, 2, none⟩ = some (.int .i64 ((rd_T34 l0 x3_1).f2)) := (kc_ BK274.out 2).trans rfl
         have hfz32_0 := kf_ BK274.out 0
         have hfz32_1 := kf_ BK274.out 1
         have hfz32_2 := kf_ BK274.out 2
         go_upto_region 10 with (first | ((with_reducible refine gate_callee (f := 27) rfl ?_); refine goesL_ (some 74) rfl rfl Tryd.func27 (by kernel_rfl) rfl #[.agg #[.int .i64 ((rd_T34 l0 x3_1).f0), .string ((rd_T34 l0 x3_1).f1), .int .i64 ((rd_T34 l0 x3_1).f2)]] rfl (by (try simp only [lm_, lq_, lx_]); first | done | rfl | (simp only [ld_, lt_]; rfl)) ?_; (with_reducible refine (neumeref08_raw.calls ((rd_T34 l0 x3_1).f0) ((rd_T34 l0 x3_1).f1) ((rd_T34 l0 x3_1).f2) t279 _ A30.out).mono ?_); rintro e w33 ⟨rfl, hb⟩; refine ⟨_, rfl, ?_⟩; replace BK274 := kb_ BK274 hb; replace HB := hb_ HB (e_ GE274 e0_) hb; (try clear hb); (try clear hb2); (try clear hk); (try clear hi)))
         (try simp only [Act.put, ls_, lz_, lc_])
         go_cut [87] (fun v87 wc => ∃ (kq : Nat) (x87_30 : Bool), v87 = .bool x87_30 ∧ Aside0 (neumeref08_Check.j2 kq l0 x3_1 t279 x87_30 ((rd_T34 l0 x3_1).f0) ((rd_T34 l0 x3_1).f1) ((rd_T34 l0 x3_1).f2) = some r) ∧ Aside0 (kq ≤ kj3) ∧ Aside0 (wc.heap[gb274]? = some (.cells #[.int .i64 ((rd_T34 l0 x3_1).f0), .string ((rd_T34 l0 x3_1).f1), .int .i64 ((rd_T34 l0 x3_1).f2)] 34 (0, 0))) ∧ Aside0 (Below w.heap.size w wc))
         case first =>
          have H := HC31.out
          clear HC31
          by_cases c34 : (t279.size : Int) = 0
          ·rw [if_pos c34] at H
           have c34b0 : ((t279.size : Int) == 0) = true := beq_iff_eq.mpr c34
           have c34b1 : ((t279.size : Int) != 0) = false := bne_eq_false_iff_eq.mpr c34
           clear c34
           (first | rw [c34b0] | (simp only [i64_w, i32_w]; rw [c34b0]) | skip)
           have H' := sd_ H
           clear H
           go_wp2
           go_meet
           case rel => exact ⟨_, (true), (by first | rfl | (simp; done) | (simp [*]; done) | (simp [bne]; done)), H', ⟨by have := HK1.out; have := HJ3.out; first | omega | exact Nat.le_refl _⟩, ⟨by (with_reducible repeat first | apply kn_ | apply kd_ | apply ka_); exact BK274.out⟩, ⟨by repeat (first | (with_reducible first | exact HB.out | apply ba_ | apply pd_ | apply d1_ | refine bs_ ?_ GE274.out) | exact HB.out)⟩⟩
          ·rw [if_neg c34] at H
           have c34b0 : ((t279.size : Int) == 0) = false := beq_eq_false_iff_ne.mpr c34
           have c34b1 : ((t279.size : Int) != 0) = true := bne_iff_ne.mpr c34
           (first | rw [c34b0] | (simp only [i64_w, i32_w]; rw [c34b0]) | skip)
           by_cases c35 : (t279.size : Int) > 65536
           ·rw [if_pos c35] at H
            have c35b0 : decide (65536 < (t279.size : Int)) = true := dt_ c35
            have c35b1 : decide (65536 < t279.size) = true := dt_ (by omega)
            clear c35
            have H' := sd_ H
            clear H
            go_wp2
            go_meet
            case rel => exact ⟨_, (true), (by first | rfl | (simp; done) | (simp [*]; done) | (simp [bne]; done)), H', ⟨by have := HK1.out; have := HJ3.out; first | omega | exact Nat.le_refl _⟩, ⟨by (with_reducible repeat first | apply kn_ | apply kd_ | apply ka_); exact BK274.out⟩, ⟨by repeat (first | (with_reducible first | exact HB.out | apply ba_ | apply pd_ | apply d1_ | refine bs_ ?_ GE274.out) | exact HB.out)⟩⟩
           ·rw [if_neg c35] at H
            have c35b0 : decide (65536 < (t279.size : Int)) = false := df_ c35
            have c35b1 : decide (65536 < t279.size) = false := df_ (by omega)
            clear c35
            replace H := ob_ H
            obtain ⟨t280, A360, H⟩ := H
            replace H : (neumeref08_Check.j2 kj3 l0 x3_1 t279 (t280 != 0) ((rd_T34 l0 x3_1).f0) ((rd_T34 l0 x3_1).f1) ((rd_T34 l0 x3_1).f2)) = some r := H
            have A36 := sd_ A360
            clear A360
            have H' := sd_ H
            clear H
            go_wp2_with (first | (go_at_call 23; (with_reducible refine (neumeref08_skip.calls kj3 t279 0 t280 _ A36.out).mono ?_); rintro e w' ⟨rfl, ⟨nd, rfl⟩⟩))
            go_meet
            case rel => exact ⟨_, ((t280 != 0)), (by first | rfl | (simp; done) | (simp [*]; done) | (simp [bne]; done)), H', ⟨by have := HK1.out; have := HJ3.out; first | omega | exact Nat.le_refl _⟩, ⟨by (with_reducible repeat first | apply kn_ | apply kd_ | apply ka_); exact BK274.out⟩, ⟨by repeat (first | (with_reducible first | exact HB.out | apply ba_ | apply pd_ | apply d1_ | refine bs_ ?_ GE274.out) | exact HB.out)⟩⟩
         case rest =>
          clear HC31
          try clear c1; try clear c2; try clear p2; try clear c3; try clear p6; try clear c10; try clear c10b0; try clear c12; try clear c13; try clear c27; try clear c28; try clear c28b0; try clear c28b1; try clear c34; try clear c34b0; try clear c34b1; try clear c35; try clear c35b0; try clear c35b1; try clear hcz29_0; try clear hcz29_1; try clear hcz29_2; try clear hcz32_0; try clear hcz32_1; try clear hcz32_2; try clear hfz29_0; try clear hfz29_1; try clear hfz29_2; try clear hfz32_0; try clear hfz32_1; try clear hfz32_2; try clear p2; try clear p6
          obtain ⟨kq, x87_30, rfl, HA, HJ30, BK274, HB⟩ := hcut
          cases kq with
          | zero => exact absurd HA.out (by simp [neumeref08_Check.j2])
          | succ kj30 =>
           have H := HA.out
           clear HA
           simp only [neumeref08_Check.j2] at H
           by_cases c37 : x87_30 = true
           ·subst c37
            have H1 : (some false) = some r := by rw [if_pos rfl] at H; exact H
            clear H; have H := H1; clear H1
            obtain rfl := Option.some.inj H
            go_wp2
            go_ret
            exact ⟨by first | rfl | (simp [errW_none, errW_some] <;> rfl) | (simp [*, errW_none, errW_some] <;> rfl), by repeat (first | (with_reducible first | exact HB.out | apply ba_ | apply pd_ | apply d1_ | refine bs_ ?_ GE274.out) | exact HB.out)⟩
           ·replace c37 := bf_ c37
            subst c37
            have H1 : ((neumeref08_next.f kj30 t279 0).bind fun bt281 => (if bt281.2.2.1 = 0 then (if bt281.1 = ((rd_T34 l0 x3_1).f0) then (if bt281.2.1 = (t279.size : Int) then (neumeref08_Check.l0 kj30 l0 (wrap64 (x3_1 + 1))) else (some false)) else (some false)) else (some false))) = some r := by rw [if_neg (show ¬ (false = true) by decide)] at H; exact H
            clear H; have H := H1; clear H1
            replace H := ob_ H
            obtain ⟨⟨t281, t282, t283, t284⟩, A380, H⟩ := H
            replace H : (if t283 = 0 then (if t281 = ((rd_T34 l0 x3_1).f0) then (if t282 = (t279.size : Int) then (neumeref08_Check.l0 kj30 l0 (wrap64 (x3_1 + 1))) else (some false)) else (some false)) else (some false)) = some r := H
            have A38 := sd_ A380
            clear A380
            by_cases c39 : t283 = 0
            ·rw [if_pos c39] at H
             have c39b0 : (t283 == 0) = true := beq_iff_eq.mpr c39
             have c39b1 : (t283 != 0) = false := bne_eq_false_iff_eq.mpr c39
             clear c39
             by_cases c40 : t281 = ((rd_T34 l0 x3_1).f0)
             ·rw [if_pos c40] at H
              have c40b0 : (t281 == ((rd_T34 l0 x3_1).f0)) = true := beq_iff_eq.mpr c40
              have c40b1 : (t281 != ((rd_T34 l0 x3_1).f0)) = false := bne_eq_false_iff_eq.mpr c40
              clear c40
              by_cases c41 : t282 = (t279.size : Int)
              ·rw [if_pos c41] at H
               have c41b0 : (t282 == (t279.size : Int)) = true := beq_iff_eq.mpr c41
               have c41b1 : (t282 != (t279.size : Int)) = false := bne_eq_false_iff_eq.mpr c41
               clear c41
               have H' := sd_ H
               clear H
               go_wp2_with (first | ((with_reducible refine gate_callee (f := 24) rfl ?_); refine goesL_ (some 90) rfl rfl Tryd.func24 (by kernel_rfl) rfl #[.string t279, .int .i64 0] rfl (by (try simp only [lm_, lq_, lx_]); first | done | rfl | (simp only [ld_, lt_]; rfl)) ?_; (with_reducible refine (neumeref08_next.calls kj30 t279 0 t281 t282 t283 t284 _ A38.out).mono ?_); rintro e w42 ⟨rfl, hb⟩; refine ⟨_, rfl, ?_⟩; replace BK274 := kb_ BK274 hb; replace HB := hb_ HB (e_ GE274 e0_) hb; (try clear hb); (try clear hb2); (try clear hk); (try clear hi)) | ((with_reducible refine gate_dst (N := 8) rfl ?_); (try (refine gate_guard (by rfl) ?_; dsimp only)); refine box_event ?hg (N := 8) ?hd (cs := #[.int .i64 0, .int .i64 0]) (t := 26) ?hr ?_; (case hd => rfl); (case hg => rfl); (case hr => first | (go_simp; done) | (go_simp; rfl)); intro gb285 hg w43 hbox hb; have BK285 := sd_ hbox; have GW285 := gw_ HB (e_ GE274 e0_) hg; have GE285 := GW285; have NB274_285 := nb_ BK274 hg; have NB285_274 := sy_ NB274_285; replace BK274 := kb_ BK274 hb; replace HB := hb_ HB (e_ GE274 e0_) hb; clear hb hbox hg; have hnb44 := NB285_274.out; have hnc44 := NB274_285.out; have hcz45_0 : w43.cell? ⟨gb285, 0, none⟩ = some (.int .i64 0) := (kc_ BK285.out 0).trans rfl; have hcz45_1 : w43.cell? ⟨gb285, 1, none⟩ = some (.int .i64 0) := (kc_ BK285.out 1).trans rfl; have hfz45_0 := kf_ BK285.out 0; have hfz45_1 := kf_ BK285.out 1; have hcz46_0 : w43.cell? ⟨gb274, 0, none⟩ = some (.int .i64 ((rd_T34 l0 x3_1).f0)) := (kc_ BK274.out 0).trans rfl; have hcz46_1 : w43.cell? ⟨gb274, 1, none⟩ = some (.string ((rd_T34 l0 x3_1).f1)) := (kc_ BK274.out 1).trans rfl; have hcz46_2 : w43.cell? ⟨gb274, 2, none⟩ = some (.int .i64 ((rd_T34 l0 x3_1).f2)) := (kc_ BK274.out 2).trans rfl; have hfz46_0 := kf_ BK274.out 0; have hfz46_1 := kf_ BK274.out 1; have hfz46_2 := kf_ BK274.out 2))
               go_roundg kj30
               case measure => have := HK1.out; have := HJ3.out; have := HJ30.out; omega
               case rel => exact ⟨(wrap64 (x3_1 + 1)), (by first | rfl | (simp; done) | (simp [*]; done) | (simp [bne]; done)), H', ⟨by have := HK1.out; have := HJ3.out; have := HJ30.out; omega⟩, ⟨by repeat (first | (with_reducible first | exact HB.out | apply ba_ | apply pd_ | apply d1_ | refine bs_ ?_ GE274.out | refine bs_ ?_ GE285.out) | exact HB.out)⟩⟩
              ·rw [if_neg c41] at H
               have c41b0 : (t282 == (t279.size : Int)) = false := beq_eq_false_iff_ne.mpr c41
               have c41b1 : (t282 != (t279.size : Int)) = true := bne_iff_ne.mpr c41
               obtain rfl := Option.some.inj H
               go_wp2_with (first | ((with_reducible refine gate_callee (f := 24) rfl ?_); refine goesL_ (some 90) rfl rfl Tryd.func24 (by kernel_rfl) rfl #[.string t279, .int .i64 0] rfl (by (try simp only [lm_, lq_, lx_]); first | done | rfl | (simp only [ld_, lt_]; rfl)) ?_; (with_reducible refine (neumeref08_next.calls kj30 t279 0 t281 t282 t283 t284 _ A38.out).mono ?_); rintro e w47 ⟨rfl, hb⟩; refine ⟨_, rfl, ?_⟩; replace BK274 := kb_ BK274 hb; replace HB := hb_ HB (e_ GE274 e0_) hb; (try clear hb); (try clear hb2); (try clear hk); (try clear hi)) | ((with_reducible refine gate_dst (N := 8) rfl ?_); (try (refine gate_guard (by rfl) ?_; dsimp only)); refine box_event ?hg (N := 8) ?hd (cs := #[.int .i64 0, .int .i64 0]) (t := 26) ?hr ?_; (case hd => rfl); (case hg => rfl); (case hr => first | (go_simp; done) | (go_simp; rfl)); intro gb285 hg w48 hbox hb; have BK285 := sd_ hbox; have GW285 := gw_ HB (e_ GE274 e0_) hg; have GE285 := GW285; have NB274_285 := nb_ BK274 hg; have NB285_274 := sy_ NB274_285; replace BK274 := kb_ BK274 hb; replace HB := hb_ HB (e_ GE274 e0_) hb; clear hb hbox hg; have hnb49 := NB285_274.out; have hnc49 := NB274_285.out; have hcz50_0 : w48.cell? ⟨gb285, 0, none⟩ = some (.int .i64 0) := (kc_ BK285.out 0).trans rfl; have hcz50_1 : w48.cell? ⟨gb285, 1, none⟩ = some (.int .i64 0) := (kc_ BK285.out 1).trans rfl; have hfz50_0 := kf_ BK285.out 0; have hfz50_1 := kf_ BK285.out 1; have hcz51_0 : w48.cell? ⟨gb274, 0, none⟩ = some (.int .i64 ((rd_T34 l0 x3_1).f0)) := (kc_ BK274.out 0).trans rfl; have hcz51_1 : w48.cell? ⟨gb274, 1, none⟩ = some (.string ((rd_T34 l0 x3_1).f1)) := (kc_ BK274.out 1).trans rfl; have hcz51_2 : w48.cell? ⟨gb274, 2, none⟩ = some (.int .i64 ((rd_T34 l0 x3_1).f2)) := (kc_ BK274.out 2).trans rfl; have hfz51_0 := kf_ BK274.out 0; have hfz51_1 := kf_ BK274.out 1; have hfz51_2 := kf_ BK274.out 2))
               go_ret
               exact ⟨by first | rfl | (simp [errW_none, errW_some] <;> rfl) | (simp [*, errW_none, errW_some] <;> rfl), by repeat (first | (with_reducible first | exact HB.out | apply ba_ | apply pd_ | apply d1_ | refine bs_ ?_ GE274.out | refine bs_ ?_ GE285.out) | exact HB.out)⟩
             ·rw [if_neg c40] at H
              have c40b0 : (t281 == ((rd_T34 l0 x3_1).f0)) = false := beq_eq_false_iff_ne.mpr c40
              have c40b1 : (t281 != ((rd_T34 l0 x3_1).f0)) = true := bne_iff_ne.mpr c40
              obtain rfl := Option.some.inj H
              go_wp2_with (first | ((with_reducible refine gate_callee (f := 24) rfl ?_); refine goesL_ (some 90) rfl rfl Tryd.func24 (by kernel_rfl) rfl #[.string t279, .int .i64 0] rfl (by (try simp only [lm_, lq_, lx_]); first | done | rfl | (simp only [ld_, lt_]; rfl)) ?_; (with_reducible refine (neumeref08_next.calls kj30 t279 0 t281 t282 t283 t284 _ A38.out).mono ?_); rintro e w52 ⟨rfl, hb⟩; refine ⟨_, rfl, ?_⟩; replace BK274 := kb_ BK274 hb; replace HB := hb_ HB (e_ GE274 e0_) hb; (try clear hb); (try clear hb2); (try clear hk); (try clear hi)) | ((with_reducible refine gate_dst (N := 8) rfl ?_); (try (refine gate_guard (by rfl) ?_; dsimp only)); refine box_event ?hg (N := 8) ?hd (cs := #[.int .i64 0, .int .i64 0]) (t := 26) ?hr ?_; (case hd => rfl); (case hg => rfl); (case hr => first | (go_simp; done) | (go_simp; rfl)); intro gb285 hg w53 hbox hb; have BK285 := sd_ hbox; have GW285 := gw_ HB (e_ GE274 e0_) hg; have GE285 := GW285; have NB274_285 := nb_ BK274 hg; have NB285_274 := sy_ NB274_285; replace BK274 := kb_ BK274 hb; replace HB := hb_ HB (e_ GE274 e0_) hb; clear hb hbox hg; have hnb54 := NB285_274.out; have hnc54 := NB274_285.out; have hcz55_0 : w53.cell? ⟨gb285, 0, none⟩ = some (.int .i64 0) := (kc_ BK285.out 0).trans rfl; have hcz55_1 : w53.cell? ⟨gb285, 1, none⟩ = some (.int .i64 0) := (kc_ BK285.out 1).trans rfl; have hfz55_0 := kf_ BK285.out 0; have hfz55_1 := kf_ BK285.out 1; have hcz56_0 : w53.cell? ⟨gb274, 0, none⟩ = some (.int .i64 ((rd_T34 l0 x3_1).f0)) := (kc_ BK274.out 0).trans rfl; have hcz56_1 : w53.cell? ⟨gb274, 1, none⟩ = some (.string ((rd_T34 l0 x3_1).f1)) := (kc_ BK274.out 1).trans rfl; have hcz56_2 : w53.cell? ⟨gb274, 2, none⟩ = some (.int .i64 ((rd_T34 l0 x3_1).f2)) := (kc_ BK274.out 2).trans rfl; have hfz56_0 := kf_ BK274.out 0; have hfz56_1 := kf_ BK274.out 1; have hfz56_2 := kf_ BK274.out 2))
              go_ret
              exact ⟨by first | rfl | (simp [errW_none, errW_some] <;> rfl) | (simp [*, errW_none, errW_some] <;> rfl), by repeat (first | (with_reducible first | exact HB.out | apply ba_ | apply pd_ | apply d1_ | refine bs_ ?_ GE274.out | refine bs_ ?_ GE285.out) | exact HB.out)⟩
            ·rw [if_neg c39] at H
             have c39b0 : (t283 == 0) = false := beq_eq_false_iff_ne.mpr c39
             have c39b1 : (t283 != 0) = true := bne_iff_ne.mpr c39
             obtain rfl := Option.some.inj H
             go_wp2_with (first | ((with_reducible refine gate_callee (f := 24) rfl ?_); refine goesL_ (some 90) rfl rfl Tryd.func24 (by kernel_rfl) rfl #[.string t279, .int .i64 0] rfl (by (try simp only [lm_, lq_, lx_]); first | done | rfl | (simp only [ld_, lt_]; rfl)) ?_; (with_reducible refine (neumeref08_next.calls kj30 t279 0 t281 t282 t283 t284 _ A38.out).mono ?_); rintro e w57 ⟨rfl, hb⟩; refine ⟨_, rfl, ?_⟩; replace BK274 := kb_ BK274 hb; replace HB := hb_ HB (e_ GE274 e0_) hb; (try clear hb); (try clear hb2); (try clear hk); (try clear hi)) | ((with_reducible refine gate_dst (N := 8) rfl ?_); (try (refine gate_guard (by rfl) ?_; dsimp only)); refine box_event ?hg (N := 8) ?hd (cs := #[.int .i64 0, .int .i64 0]) (t := 26) ?hr ?_; (case hd => rfl); (case hg => rfl); (case hr => first | (go_simp; done) | (go_simp; rfl)); intro gb285 hg w58 hbox hb; have BK285 := sd_ hbox; have GW285 := gw_ HB (e_ GE274 e0_) hg; have GE285 := GW285; have NB274_285 := nb_ BK274 hg; have NB285_274 := sy_ NB274_285; replace BK274 := kb_ BK274 hb; replace HB := hb_ HB (e_ GE274 e0_) hb; clear hb hbox hg; have hnb59 := NB285_274.out; have hnc59 := NB274_285.out; have hcz60_0 : w58.cell? ⟨gb285, 0, none⟩ = some (.int .i64 0) := (kc_ BK285.out 0).trans rfl; have hcz60_1 : w58.cell? ⟨gb285, 1, none⟩ = some (.int .i64 0) := (kc_ BK285.out 1).trans rfl; have hfz60_0 := kf_ BK285.out 0; have hfz60_1 := kf_ BK285.out 1))
             go_ret
             exact ⟨by first | rfl | (simp [errW_none, errW_some] <;> rfl) | (simp [*, errW_none, errW_some] <;> rfl), by repeat (first | (with_reducible first | exact HB.out | apply ba_ | apply pd_ | apply d1_ | refine bs_ ?_ GE274.out | refine bs_ ?_ GE285.out) | exact HB.out)⟩
    ·rw [if_neg c3] at H
     exact absurd H (by simp)
   ·rw [if_neg c2] at H
    have c2b0 : decide (x3_1 < (l0.length : Int)) = false := df_ c2
    clear c2
    obtain rfl := Option.some.inj H
    go_wp2
    go_ret
    exact ⟨by first | rfl | (simp [errW_none, errW_some] <;> rfl) | (simp [*, errW_none, errW_some] <;> rfl), by repeat (first | (with_reducible first | exact HB.out | apply ba_ | apply pd_ | apply d1_) | exact HB.out)⟩

end Go.Proofs.YtmffjjncnbeldaaDoor.P
