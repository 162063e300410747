-- Written by a program of this session (wip/tools/xprint.py, over the kit's print): Lean checks it.
import Derived.Test.YtdiccfonlojlfaaDoorPx0
import Derived.Test.YtdiccfonlojlfaaDoorPx2
import Derived.Test.YtdiccfonlojlfaaDoorPx6
import Derived.Test.YtdiccfonlojlfaaDoorPx9
import Derived.Test.YtdiccfonlojlfaaDoorPx10
import Derived.Test.YtdiccfonlojlfaaDoorPx16
import Derived.Test.YtdiccfonlojlfaaDoorPx17
import Derived.Test.YtdiccfonlojlfaaDoorPx18
namespace Go.Proofs.YtdiccfonlojlfaaDoor.P
open Go.RowKit Go.Proofs.YtdiccfonlojlfaaDoorW.PrintWords Go.Proofs.YtdiccfonlojlfaaDoorW.PrintLast Go.Proofs.YtdiccfonlojlfaaDoorW.PrintMore
attribute [local go_sem] max2_int min2_int max_two min_two max_three min_three max_four min_four   -- for this text's walks alone
set_option linter.unusedVariables false
set_option linter.unusedSimpArgs false

attribute [local go_sem high] eqA25
/-! ### neumelaw07_DurBeats: function 5 -/
mutual
def neumelaw07_DurBeats.j0 : Nat → List (S25) → Bool → Int → Int → Int → Int → Int → Int → Option (Bool)
 | 0, _, _, _, _, _, _, _, _ => none
 | k + 1, x5, x31, x454000, x454001, x455000, x455001, x463000, x463001 => if x31 = true then ((dur_Meter.f x454000 x454001).bind fun t463 => (if t463 = true then (some false) else ((neumelaw07_heads.f k).bind fun t464 => (some t464)))) else (if (x5.length : Int) < 1 then (neumelaw07_DurBeats.j1 k x5 true x454000 x454001 x455000 x455001 x463000 x463001) else (if 0 < (x5.length : Int) then (neumelaw07_DurBeats.j1 k x5 (((rd_T25 x5 0).f0) != 0) x454000 x454001 x455000 x455001 x463000 x463001) else (none)))
def neumelaw07_DurBeats.j1 : Nat → List (S25) → Bool → Int → Int → Int → Int → Int → Int → Option (Bool)
 | 0, _, _, _, _, _, _, _, _ => none
 | k + 1, x5, x47, x454000, x454001, x455000, x455001, x463000, x463001 => if x47 = true then (some false) else ((neumeref02_Div.f k x463000 x463001 (x5.length : Int) 1).bind fun bt466 => (neumelaw07_DurBeats.l0 k x5 0 x454000 x454001 x455000 x455001 bt466.1 bt466.2.1))
def neumelaw07_DurBeats.l0 : Nat → List (S25) → Int → Int → Int → Int → Int → Int → Int → Option (Bool)
 | 0, _, _, _, _, _, _, _, _ => none
 | k + 1, x5, x11, x454000, x454001, x455000, x455001, x470000, x470001 => if x11 < (x5.length : Int) then ((neumeref02_Mul.f k x470000 x470001 x11 1).bind fun bt470 => (if 0 ≤ x11 then (if (!(((rd_T25 x5 x11).f0) == bt470.1) || (!(((rd_T25 x5 x11).f1) == bt470.2.1))) = true then (some false) else (neumelaw07_DurBeats.l0 k x5 (wrap64 (x11 + 1)) x454000 x454001 x455000 x455001 x470000 x470001)) else (none))) else ((dur_Beat.f k x454000 x454001 x455000 x455001).bind fun bt475 => (if bt475.2 = 0 then (if bt475.1 ≥ 0 then (if bt475.1 < (x5.length : Int) then (if 0 ≤ bt475.1 then ((neumeref02_Cmp.f k ((rd_T25 x5 bt475.1).f0) ((rd_T25 x5 bt475.1).f1) x455000 x455001).bind fun t478 => (if t478 ≤ 0 then (if bt475.1 = (wrap64 ((x5.length : Int) - 1)) then ((neumelaw07_heads.f k).bind fun t479 => (some t479)) else (if 0 ≤ (wrap64 (bt475.1 + 1)) then (if (wrap64 (bt475.1 + 1)) < (x5.length : Int) then ((neumeref02_Cmp.f k x455000 x455001 ((rd_T25 x5 (wrap64 (bt475.1 + 1))).f0) ((rd_T25 x5 (wrap64 (bt475.1 + 1))).f1)).bind fun t481 => (if t481 < 0 then ((neumelaw07_heads.f k).bind fun t482 => (some t482)) else (some false))) else (none)) else (none))) else (some false))) else (none)) else (some false)) else (some false)) else ((neumelaw07_heads.f k).bind fun t483 => (some t483))))
end
def neumelaw07_DurBeats.f (k : Nat) (a0_0 : Int) (a0_1 : Int) (a1_0 : Int) (a1_1 : Int) : Option (Bool) := (dur_Beats.f k a0_0 a0_1).bind fun bt455 => ((dur_Bar.f k a0_0 a0_1).bind fun bt459 => (if bt455.2 = 0 then (neumelaw07_DurBeats.j0 k bt455.1 (bt459.2.2 != 0) a0_0 a0_1 a1_0 a1_1 bt459.1 bt459.2.1) else (neumelaw07_DurBeats.j0 k bt455.1 true a0_0 a0_1 a1_0 a1_1 bt459.1 bt459.2.1)))
theorem neumelaw07_DurBeats.mono_l : ∀ k, (∀ y0 y1 y2 y3 y4 y5 y6 y7, LeO (neumelaw07_DurBeats.j0 k y0 y1 y2 y3 y4 y5 y6 y7) (neumelaw07_DurBeats.j0 (k + 1) y0 y1 y2 y3 y4 y5 y6 y7)) ∧ (∀ y0 y1 y2 y3 y4 y5 y6 y7, LeO (neumelaw07_DurBeats.j1 k y0 y1 y2 y3 y4 y5 y6 y7) (neumelaw07_DurBeats.j1 (k + 1) y0 y1 y2 y3 y4 y5 y6 y7)) ∧ (∀ y0 y1 y2 y3 y4 y5 y6 y7, LeO (neumelaw07_DurBeats.l0 k y0 y1 y2 y3 y4 y5 y6 y7) (neumelaw07_DurBeats.l0 (k + 1) y0 y1 y2 y3 y4 y5 y6 y7))
 | 0 => ⟨fun _ _ _ _ _ _ _ _ r h => by simp [neumelaw07_DurBeats.j0] at h, fun _ _ _ _ _ _ _ _ r h => by simp [neumelaw07_DurBeats.j1] at h, fun _ _ _ _ _ _ _ _ r h => by simp [neumelaw07_DurBeats.l0] at h⟩
 | k + 1 => by
  obtain ⟨ih0,ih1,ih2⟩ := neumelaw07_DurBeats.mono_l k
  refine ⟨?_,?_,?_⟩
  ·intro y0 y1 y2 y3 y4 y5 y6 y7
   unfold neumelaw07_DurBeats.j0
   repeat' first
   | (with_reducible exact ih0 _ _ _ _ _ _ _ _)
   | (with_reducible exact ih1 _ _ _ _ _ _ _ _)
   | (with_reducible exact ih2 _ _ _ _ _ _ _ _)
   | (with_reducible exact dur_Bar.mono _ _ _)
   | (with_reducible exact dur_Beat.mono _ _ _ _ _)
   | (with_reducible exact dur_Beats.mono _ _ _)
   | (with_reducible exact neumelaw07_heads.mono _)
   | (with_reducible exact neumeref02_Cmp.mono _ _ _ _ _)
   | (with_reducible exact neumeref02_Div.mono _ _ _ _ _)
   | (with_reducible exact neumeref02_Mul.mono _ _ _ _ _)
   | (with_reducible exact LeO.refl _)
   | (with_reducible exact LeO.none _)
   | (with_reducible refine LeO.ite ?_ ?_)
   | (with_reducible refine LeO.bind ?_ (fun _ => ?_))
   | exact ih0 _ _ _ _ _ _ _ _
   | exact ih1 _ _ _ _ _ _ _ _
   | exact ih2 _ _ _ _ _ _ _ _
   | exact dur_Bar.mono _ _ _
   | exact dur_Beat.mono _ _ _ _ _
   | exact dur_Beats.mono _ _ _
   | exact neumelaw07_heads.mono _
   | exact neumeref02_Cmp.mono _ _ _ _ _
   | exact neumeref02_Div.mono _ _ _ _ _
   | exact neumeref02_Mul.mono _ _ _ _ _
   | exact LeO.none _
   | refine LeO.ite ?_ ?_
   | refine LeO.bind ?_ (fun _ => ?_)
  ·intro y0 y1 y2 y3 y4 y5 y6 y7
   unfold neumelaw07_DurBeats.j1
   repeat' first
   | (with_reducible exact ih0 _ _ _ _ _ _ _ _)
   | (with_reducible exact ih1 _ _ _ _ _ _ _ _)
   | (with_reducible exact ih2 _ _ _ _ _ _ _ _)
   | (with_reducible exact dur_Bar.mono _ _ _)
   | (with_reducible exact dur_Beat.mono _ _ _ _ _)
   | (with_reducible exact dur_Beats.mono _ _ _)
   | (with_reducible exact neumelaw07_heads.mono _)
   | (with_reducible exact neumeref02_Cmp.mono _ _ _ _ _)
   | (with_reducible exact neumeref02_Div.mono _ _ _ _ _)
   | (with_reducible exact neumeref02_Mul.mono _ _ _ _ _)
   | (with_reducible exact LeO.refl _)
   | (with_reducible exact LeO.none _)
   | (with_reducible refine LeO.ite ?_ ?_)
   | (with_reducible refine LeO.bind ?_ (fun _ => ?_))
   | exact ih0 _ _ _ _ _ _ _ _
   | exact ih1 _ _ _ _ _ _ _ _
   | exact ih2 _ _ _ _ _ _ _ _
   | exact dur_Bar.mono _ _ _
   | exact dur_Beat.mono _ _ _ _ _
   | exact dur_Beats.mono _ _ _
   | exact neumelaw07_heads.mono _
   | exact neumeref02_Cmp.mono _ _ _ _ _
   | exact neumeref02_Div.mono _ _ _ _ _
   | exact neumeref02_Mul.mono _ _ _ _ _
   | exact LeO.none _
   | refine LeO.ite ?_ ?_
   | refine LeO.bind ?_ (fun _ => ?_)
  ·intro y0 y1 y2 y3 y4 y5 y6 y7
   unfold neumelaw07_DurBeats.l0
   repeat' first
   | (with_reducible exact ih0 _ _ _ _ _ _ _ _)
   | (with_reducible exact ih1 _ _ _ _ _ _ _ _)
   | (with_reducible exact ih2 _ _ _ _ _ _ _ _)
   | (with_reducible exact dur_Bar.mono _ _ _)
   | (with_reducible exact dur_Beat.mono _ _ _ _ _)
   | (with_reducible exact dur_Beats.mono _ _ _)
   | (with_reducible exact neumelaw07_heads.mono _)
   | (with_reducible exact neumeref02_Cmp.mono _ _ _ _ _)
   | (with_reducible exact neumeref02_Div.mono _ _ _ _ _)
   | (with_reducible exact neumeref02_Mul.mono _ _ _ _ _)
   | (with_reducible exact LeO.refl _)
   | (with_reducible exact LeO.none _)
   | (with_reducible refine LeO.ite ?_ ?_)
   | (with_reducible refine LeO.bind ?_ (fun _ => ?_))
   | exact ih0 _ _ _ _ _ _ _ _
   | exact ih1 _ _ _ _ _ _ _ _
   | exact ih2 _ _ _ _ _ _ _ _
   | exact dur_Bar.mono _ _ _
   | exact dur_Beat.mono _ _ _ _ _
   | exact dur_Beats.mono _ _ _
   | exact neumelaw07_heads.mono _
   | exact neumeref02_Cmp.mono _ _ _ _ _
   | exact neumeref02_Div.mono _ _ _ _ _
   | exact neumeref02_Mul.mono _ _ _ _ _
   | exact LeO.none _
   | refine LeO.ite ?_ ?_
   | refine LeO.bind ?_ (fun _ => ?_)
theorem neumelaw07_DurBeats.mono : ∀ a0 a1 a2 a3 k, LeO (neumelaw07_DurBeats.f k a0 a1 a2 a3) (neumelaw07_DurBeats.f (k + 1) a0 a1 a2 a3) := by
 intro a0 a1 a2 a3 k
 obtain ⟨ih0,ih1,ih2⟩ := neumelaw07_DurBeats.mono_l k
 unfold neumelaw07_DurBeats.f
 repeat' first
   | (with_reducible exact ih0 _ _ _ _ _ _ _ _)
   | (with_reducible exact ih1 _ _ _ _ _ _ _ _)
   | (with_reducible exact ih2 _ _ _ _ _ _ _ _)
   | (with_reducible exact dur_Bar.mono _ _ _)
   | (with_reducible exact dur_Beat.mono _ _ _ _ _)
   | (with_reducible exact dur_Beats.mono _ _ _)
   | (with_reducible exact neumelaw07_heads.mono _)
   | (with_reducible exact neumeref02_Cmp.mono _ _ _ _ _)
   | (with_reducible exact neumeref02_Div.mono _ _ _ _ _)
   | (with_reducible exact neumeref02_Mul.mono _ _ _ _ _)
   | (with_reducible exact LeO.refl _)
   | (with_reducible exact LeO.none _)
   | (with_reducible refine LeO.ite ?_ ?_)
   | (with_reducible refine LeO.bind ?_ (fun _ => ?_))
   | exact ih0 _ _ _ _ _ _ _ _
   | exact ih1 _ _ _ _ _ _ _ _
   | exact ih2 _ _ _ _ _ _ _ _
   | exact dur_Bar.mono _ _ _
   | exact dur_Beat.mono _ _ _ _ _
   | exact dur_Beats.mono _ _ _
   | exact neumelaw07_heads.mono _
   | exact neumeref02_Cmp.mono _ _ _ _ _
   | exact neumeref02_Div.mono _ _ _ _ _
   | exact neumeref02_Mul.mono _ _ _ _ _
   | exact LeO.none _
   | refine LeO.ite ?_ ?_
   | refine LeO.bind ?_ (fun _ => ?_)
def neumelaw07_DurBeats.T17 : Bool × List (List Nat × List Nat) := (true, [([], []), ([0], [0]), ([1], [1]), ([2], [2]), ([2], [2]), ([4, 2], [2, 4]), ([3, 5, 2], [2, 3, 5]), ([2, 6], [2, 6]), ([7, 2], [7]), ([8], [8]), ([8], [8]), ([9, 10, 8], [8, 9, 10]), ([11, 8], [8, 11]), ([8], [8]), ([12, 13, 8, 8], [8, 12, 13]), ([14, 8], [8, 14]), ([8, 15], [8, 15]), ([16, 14], [16]), ([17], [17]), ([17], [17]), ([19, 17], [17, 19]), ([20, 17], [17, 20]), ([18, 21, 17], [17, 18, 21]), ([22, 17, 17], [17, 22]), ([23], [23]), ([23], [23]), ([23], [23]), ([26, 23], [23, 26]), ([25, 27, 23], [23, 25, 27]), ([28, 23], [23, 28]), ([24, 29, 23, 23], [23, 24, 29]), ([30, 23], [23, 30]), ([23, 31, 17], [17, 23, 31]), ([17, 32], [17, 32]), ([33, 30], [33]), ([34, 34], [34]), ([34, 35], [34, 35]), ([36, 35, 0, 1, 2, 3, 4, 5, 6, 7, 8, 9, 10, 11, 12, 13, 14, 15, 16, 17, 18, 19, 20, 21, 22, 23, 24, 25, 26, 27, 28, 29, 30, 31, 32, 33, 34, 35, 36], [36])])
def neumelaw07_DurBeats.B17 : List Nat := [0, 1, 3, 7, 7, 23, 63, 127, 255, 511, 511, 2047, 4095, 511, 16383, 32767, 65535, 131071, 262143, 262143, 786431, 1835007, 4194303, 8388607, 16777215, 16777215, 16777215, 83886079, 251658239, 520093695, 1073741823, 2147483647, 4294967295, 8589934591, 17179869183, 34359738367, 68719476735, 137438953471]
theorem neumelaw07_DurBeats.tab17 : rtab .any (opsOf Tryd.f5 17) = neumelaw07_DurBeats.T17 := by kernel_rfl
theorem neumelaw07_DurBeats.bits17 : waitsOk neumelaw07_DurBeats.T17.2 neumelaw07_DurBeats.B17 = true := by kernel_rfl
set_option maxHeartbeats 8000000 in
set_option maxRecDepth 100000 in
theorem neumelaw07_DurBeats.calls (k : Nat) (a0_0 : Int) (a0_1 : Int) (a1_0 : Int) (a1_1 : Int) (r : Bool) (w : World) (hxt : Aside0 (r = true)) (h : neumelaw07_DurBeats.f k a0_0 a0_1 a1_0 a1_1 = some r) :
  Calls Tryd.prog 5 #[.agg #[.int .i64 a0_0,.int .i64 a0_1],.agg #[.int .i64 a1_0,.int .i64 a1_1]] w fun e w' => e = .returned (.bool r) ∧ Below w.heap.size w w' := by
 have hu42 := Tryd.underlying42
 have hu25 := Tryd.underlying25
 have HB := sd_ (Below.refl w.heap.size w)
 have H : ((dur_Beats.f k a0_0 a0_1).bind fun bt455 => ((dur_Bar.f k a0_0 a0_1).bind fun bt459 => (if bt455.2 = 0 then (neumelaw07_DurBeats.j0 k bt455.1 (bt459.2.2 != 0) a0_0 a0_1 a1_0 a1_1 bt459.1 bt459.2.1) else (neumelaw07_DurBeats.j0 k bt455.1 true a0_0 a0_1 a1_0 a1_1 bt459.1 bt459.2.1)))) = some r := h
 clear h
 replace H := ob_ H
 obtain ⟨⟨t455,t458⟩,A30,H⟩ := H
 try dsimp only at H
 have A3 := sd_ A30
 clear A30
 replace H := ob_ H
 obtain ⟨⟨t459,t460,t461⟩,A40,H⟩ := H
 replace H : (if t458 = 0 then (neumelaw07_DurBeats.j0 k t455 (t461 != 0) a0_0 a0_1 a1_0 a1_1 t459 t460) else (neumelaw07_DurBeats.j0 k t455 true a0_0 a0_1 a1_0 a1_1 t459 t460)) = some r := H
 have A4 := sd_ A40
 clear A40
 have HC5 := sd_ H
 clear H
 go_enter Tryd.func5,Tryd.ntmps5
 go_upto_region 3 with (first|((with_reducible refine gate_dst (N := 2) rfl ?_);(try (refine gate_guard (by rfl) ?_;dsimp only));refine box_event ?hg (N := 2) ?hd (cs := #[.int .i64 a0_0,.int .i64 a0_1]) (t := 42) ?hr ?_;(case hd => rfl);(case hg => rfl);(case hr => first|(go_simp;done)|(go_simp;rfl));intro gb453 hg w6 hbox hb;have BK453 := sd_ hbox;have GW453 := gw_ HB e0_ hg;have GE453 := GW453;replace HB := hb_ HB e0_ hb;clear hb hbox hg)|((with_reducible refine gate_dst (N := 3) rfl ?_);(try (refine gate_guard (by rfl) ?_;dsimp only));refine box_event ?hg (N := 3) ?hd (cs := #[.int .i64 a1_0,.int .i64 a1_1]) (t := 25) ?hr ?_;(case hd => rfl);(case hg => rfl);(case hr => first|(go_simp;done)|(go_simp;rfl));intro gb454 hg w7 hbox hb;have BK454 := sd_ hbox;have GW454 := gw_ HB (e_ GE453 e0_) hg;have GE454 := GW454;have NB453_454 := nb_ BK453 hg;have NB454_453 := sy_ NB453_454;replace BK453 := kb_ BK453 hb;replace HB := hb_ HB (e_ GE453 e0_) hb;clear hb hbox hg;have hnb8 := NB453_454.out;have hnc8 := NB454_453.out;have hcz9_0 : w7.cell? ⟨gb453,0,none⟩ = some (.int .i64 a0_0) := (kc_ BK453.out 0).trans rfl;have hcz9_1 : w7.cell? ⟨gb453,1,none⟩ = some (.int .i64 a0_1) := (kc_ BK453.out 1).trans rfl;have hfz9_0 := kf_ BK453.out 0;have hfz9_1 := kf_ BK453.out 1)|((with_reducible refine gate_callee (f := 14) rfl ?_);refine goesL_ (some 18) rfl rfl Tryd.func14 (by kernel_rfl) rfl #[.agg #[.int .i64 a0_0,.int .i64 a0_1]] rfl (by (try simp only [lm_,lq_,lx_]);first|done|rfl|(simp only [ld_,lt_];rfl)) ?_;(with_reducible refine (dur_Beats.calls k a0_0 a0_1 t455 t458 _ A3.out).mono ?_);rintro e w10 ⟨v456,rfl,ho0,hb⟩;refine ⟨_,rfl,?_⟩;have HO457 := sd_ (Kd.R_lower (Kd.R_newB ho0 (kk_ BK454.out)) (bz_ (bb_ HB.out (e_ GE453 (e_ GE454 e0_)))));replace BK453 := kb_ BK453 hb;replace BK454 := kb_ BK454 hb;replace HB := hb_ HB (e_ GE453 (e_ GE454 e0_)) hb;(try clear hb);(try clear hb2);(try clear hk);(try clear hi);(try clear ho0);have hcz11_0 : w10.cell? ⟨gb453,0,none⟩ = some (.int .i64 a0_0) := (kc_ BK453.out 0).trans rfl;have hcz11_1 : w10.cell? ⟨gb453,1,none⟩ = some (.int .i64 a0_1) := (kc_ BK453.out 1).trans rfl;have hfz11_0 := kf_ BK453.out 0;have hfz11_1 := kf_ BK453.out 1)|((with_reducible refine gate_callee (f := 15) rfl ?_);refine goesL_ (some 23) rfl rfl Tryd.func15 (by kernel_rfl) rfl #[.agg #[.int .i64 a0_0,.int .i64 a0_1]] rfl (by (try simp only [lm_,lq_,lx_]);first|done|rfl|(simp only [ld_,lt_];rfl)) ?_;(with_reducible refine (dur_Bar.calls k a0_0 a0_1 t459 t460 t461 _ A4.out).mono ?_);rintro e w12 ⟨rfl,hb⟩;refine ⟨_,rfl,?_⟩;replace HO457 := sd_ (Kd.R_below (by (with_reducible repeat (first|apply Kd.R_alloc|apply Kd.R_drewN|apply Kd.R_drew));exact HO457.out) hb);replace BK453 := kb_ BK453 hb;replace BK454 := kb_ BK454 hb;replace HB := hb_ HB (e_ GE453 (e_ GE454 e0_)) hb;(try clear hb);(try clear hb2);(try clear hk);(try clear hi))|((with_reducible refine gate_dst (N := 7) rfl ?_);(try (refine gate_guard (by rfl) ?_;dsimp only));refine box_event ?hg (N := 7) ?hd (cs := #[.int .i64 0,.int .i64 0]) (t := 25) ?hr ?_;(case hd => rfl);(case hg => rfl);(case hr => first|(go_simp;done)|(go_simp;rfl));intro gb462 hg w13 hbox hb;have BK462 := sd_ hbox;have GW462 := gw_ HB (e_ GE453 (e_ GE454 e0_)) hg;have GE462 := GW462;have NB453_462 := nb_ BK453 hg;have NB462_453 := sy_ NB453_462;have NB454_462 := nb_ BK454 hg;have NB462_454 := sy_ NB454_462;replace HO457 := sd_ (Kd.R_below (Kd.R_elderB (by (with_reducible repeat (first|apply Kd.R_alloc|apply Kd.R_drewN|apply Kd.R_drew));exact HO457.out) gb462 (Nat.le_of_eq hg.symm)) hb);replace BK453 := kb_ BK453 hb;replace BK454 := kb_ BK454 hb;replace HB := hb_ HB (e_ GE453 (e_ GE454 e0_)) hb;clear hb hbox hg;have hnb14 := NB462_453.out;have hnc14 := NB453_462.out;have hnb15 := NB462_454.out;have hnc15 := NB454_462.out;have hcz16_0 : w13.cell? ⟨gb462,0,none⟩ = some (.int .i64 0) := (kc_ BK462.out 0).trans rfl;have hcz16_1 : w13.cell? ⟨gb462,1,none⟩ = some (.int .i64 0) := (kc_ BK462.out 1).trans rfl;have hfz16_0 := kf_ BK462.out 0;have hfz16_1 := kf_ BK462.out 1))
 (try simp only [Act.put,ls_,lz_,lc_])
 go_cut [31] (fun v31 wc => ∃ (kq : Nat) (x31_4 : Bool),v31 = .bool x31_4 ∧ Aside0 (neumelaw07_DurBeats.j0 kq t455 x31_4 a0_0 a0_1 a1_0 a1_1 t459 t460 = some r) ∧ Aside0 (kq ≤ k) ∧ Aside0 (Kd.R k25 25 wc w.heap.size (fun k_ => k_ ≠ gb454 ∧ k_ ≠ gb462) v456 t455) ∧ Aside0 (wc.heap[gb453]? = some (.cells #[.int .i64 a0_0,.int .i64 a0_1] 42 (0,0))) ∧ Aside0 (wc.heap[gb454]? = some (.cells #[.int .i64 a1_0,.int .i64 a1_1] 25 (0,0))) ∧ Aside0 (wc.heap[gb462]? = some (.cells #[.int .i64 t459,.int .i64 t460] 25 (0,0))) ∧ Aside0 (Below w.heap.size w wc))
 case first =>
  have H := HC5.out
  clear HC5
  by_cases c17 : t458 = 0
  ·rw [if_pos c17] at H
   have c17b0 : (t458 == 0) = true := beq_iff_eq.mpr c17
   have c17b1 : (t458 != 0) = false := bne_eq_false_iff_eq.mpr c17
   clear c17
   (first|rw [c17b0]|(simp only [i64_w,i32_w];rw [c17b0])|skip)
   have H' := sd_ H
   clear H
   go_wp2
   go_meet
   case rel => exact ⟨_,((t461 != 0)),(by first|rfl|(simp;done)|(simp [*];done)|(simp [bne];done)),H',⟨by first|omega|exact Nat.le_refl _⟩,⟨by (with_reducible repeat (first|apply Kd.R_alloc|apply Kd.R_drewN|apply Kd.R_drew));exact Kd.R_mono (Kd.R_far (p := ⟨gb462,1,none⟩) (Kd.R_far (p := ⟨gb462,0,none⟩) (Kd.R_mono HO457.out (fun k_ hk => (⟨hk,hk.2⟩ : _ ∧ k_ ≠ gb462))) (fun _ hk => hk.2) (.int .i64 t459)) (fun _ hk => hk.2) (.int .i64 t460)) (fun _ hk => ⟨hk.1.1.2,hk.1.2⟩)⟩,⟨by (with_reducible repeat first|apply kn_|apply kd_|apply ka_);refine blk_far ?_ NB453_462.out _;(with_reducible repeat first|apply kn_|apply kd_|apply ka_);refine blk_far ?_ NB453_462.out _;(with_reducible repeat first|apply kn_|apply kd_|apply ka_);exact BK453.out⟩,⟨by (with_reducible repeat first|apply kn_|apply kd_|apply ka_);refine blk_far ?_ NB454_462.out _;(with_reducible repeat first|apply kn_|apply kd_|apply ka_);refine blk_far ?_ NB454_462.out _;(with_reducible repeat first|apply kn_|apply kd_|apply ka_);exact BK454.out⟩,⟨by (with_reducible repeat first|apply kn_|apply kd_|apply ka_);refine blk_put (cs := #[.int .i64 t459,.int .i64 0]) ?_ 1 _ rfl;(with_reducible repeat first|apply kn_|apply kd_|apply ka_);refine blk_put (cs := #[.int .i64 0,.int .i64 0]) ?_ 0 _ rfl;(with_reducible repeat first|apply kn_|apply kd_|apply ka_);exact BK462.out⟩,⟨by repeat (first|(with_reducible first|exact HB.out|apply ba_|apply pd_|apply d1_|refine bs_ ?_ GE453.out|refine bs_ ?_ GE454.out|refine bs_ ?_ GE462.out)|exact HB.out)⟩⟩
  ·rw [if_neg c17] at H
   have c17b0 : (t458 == 0) = false := beq_eq_false_iff_ne.mpr c17
   have c17b1 : (t458 != 0) = true := bne_iff_ne.mpr c17
   (first|rw [c17b0]|(simp only [i64_w,i32_w];rw [c17b0])|skip)
   have H' := sd_ H
   clear H
   go_wp2
   go_meet
   case rel => exact ⟨_,(true),(by first|rfl|(simp;done)|(simp [*];done)|(simp [bne];done)),H',⟨by first|omega|exact Nat.le_refl _⟩,⟨by (with_reducible repeat (first|apply Kd.R_alloc|apply Kd.R_drewN|apply Kd.R_drew));exact Kd.R_mono (Kd.R_far (p := ⟨gb462,1,none⟩) (Kd.R_far (p := ⟨gb462,0,none⟩) (Kd.R_mono HO457.out (fun k_ hk => (⟨hk,hk.2⟩ : _ ∧ k_ ≠ gb462))) (fun _ hk => hk.2) (.int .i64 t459)) (fun _ hk => hk.2) (.int .i64 t460)) (fun _ hk => ⟨hk.1.1.2,hk.1.2⟩)⟩,⟨by (with_reducible repeat first|apply kn_|apply kd_|apply ka_);refine blk_far ?_ NB453_462.out _;(with_reducible repeat first|apply kn_|apply kd_|apply ka_);refine blk_far ?_ NB453_462.out _;(with_reducible repeat first|apply kn_|apply kd_|apply ka_);exact BK453.out⟩,⟨by (with_reducible repeat first|apply kn_|apply kd_|apply ka_);refine blk_far ?_ NB454_462.out _;(with_reducible repeat first|apply kn_|apply kd_|apply ka_);refine blk_far ?_ NB454_462.out _;(with_reducible repeat first|apply kn_|apply kd_|apply ka_);exact BK454.out⟩,⟨by (with_reducible repeat first|apply kn_|apply kd_|apply ka_);refine blk_put (cs := #[.int .i64 t459,.int .i64 0]) ?_ 1 _ rfl;(with_reducible repeat first|apply kn_|apply kd_|apply ka_);refine blk_put (cs := #[.int .i64 0,.int .i64 0]) ?_ 0 _ rfl;(with_reducible repeat first|apply kn_|apply kd_|apply ka_);exact BK462.out⟩,⟨by repeat (first|(with_reducible first|exact HB.out|apply ba_|apply pd_|apply d1_|refine bs_ ?_ GE453.out|refine bs_ ?_ GE454.out|refine bs_ ?_ GE462.out)|exact HB.out)⟩⟩
 case rest =>
  clear HC5
  try clear c1;try clear p2;try clear c5;try clear c8;try clear c14;try clear c15;try clear c17;try clear c17b0;try clear c17b1;try clear hcz11_0;try clear hcz11_1;try clear hcz16_0;try clear hcz16_1;try clear hcz9_0;try clear hcz9_1;try clear hfz11_0;try clear hfz11_1;try clear hfz16_0;try clear hfz16_1;try clear hfz9_0;try clear hfz9_1
  obtain ⟨kq,x31_4,rfl,HA,HJ4,HO_5,BK453,BK454,BK462,HB⟩ := hcut
  cases kq with
  | zero => exact absurd HA.out (by simp [neumelaw07_DurBeats.j0])
  | succ kj4 =>
   have H := HA.out
   clear HA
   simp only [neumelaw07_DurBeats.j0] at H
   by_cases c18 : x31_4 = true
   ·subst c18
    have H1 : ((dur_Meter.f a0_0 a0_1).bind fun t463 => (if t463 = true then (some false) else ((neumelaw07_heads.f kj4).bind fun t464 => (some t464)))) = some r := by rw [if_pos rfl] at H;exact H
    clear H;have H := H1;clear H1
    replace H := ob_ H
    obtain ⟨t463,A190,H⟩ := H
    replace H : (if t463 = true then (some false) else ((neumelaw07_heads.f kj4).bind fun t464 => (some t464))) = some r := H
    have A19 := sd_ A190
    clear A190
    by_cases c20 : t463 = true
    ·subst c20
     have H1 : (some false) = some r := by rw [if_pos rfl] at H;exact H
     clear H;have H := H1;clear H1
     exact absurd ((Option.some.inj H).trans hxt.out) (by decide)
    ·replace c20 := bf_ c20
     subst c20
     have H1 : ((neumelaw07_heads.f kj4).bind fun t464 => (some t464)) = some r := by rw [if_neg (show ¬ (false = true) by decide)] at H;exact H
     clear H;have H := H1;clear H1
     replace H := ob_ H
     obtain ⟨t464,A210,H⟩ := H
     replace H : (some t464) = some r := H
     have A21 := sd_ A210
     clear A210
     obtain rfl := Option.some.inj H
     have hnb22 := NB453_454.out
     have hnc22 := NB454_453.out
     have hnb23 := NB453_462.out
     have hnc23 := NB462_453.out
     have hcz24_0 : wc.cell? ⟨gb453,0,none⟩ = some (.int .i64 a0_0) := (kc_ BK453.out 0).trans rfl
     have hcz24_1 : wc.cell? ⟨gb453,1,none⟩ = some (.int .i64 a0_1) := (kc_ BK453.out 1).trans rfl
     have hfz24_0 := kf_ BK453.out 0
     have hfz24_1 := kf_ BK453.out 1
     go_wp2_with (first|((with_reducible refine gate_callee (f := 16) rfl ?_);refine goesL_ (some 33) rfl rfl Tryd.func16 (by kernel_rfl) rfl #[.agg #[.int .i64 a0_0,.int .i64 a0_1]] rfl (by (try simp only [lm_,lq_,lx_]);first|done|rfl|(simp only [ld_,lt_];rfl)) ?_;(with_reducible refine (dur_Meter.calls a0_0 a0_1 false _ A19.out).mono ?_);rintro e w25 ⟨rfl,hb⟩;refine ⟨_,rfl,?_⟩;replace HO_5 := sd_ (Kd.R_below (by (with_reducible repeat (first|apply Kd.R_alloc|apply Kd.R_drewN|apply Kd.R_drew));exact HO_5.out) hb);replace BK453 := kb_ BK453 hb;replace BK454 := kb_ BK454 hb;replace BK462 := kb_ BK462 hb;replace HB := hb_ HB (e_ GE453 (e_ GE454 (e_ GE462 e0_))) hb;(try clear hb);(try clear hb2);(try clear hk);(try clear hi))|(go_at_call 11;(with_reducible refine (neumelaw07_heads.calls kj4  t464 _ A21.out).mono ?_);rintro e w26 ⟨rfl,hb⟩;replace HO_5 := sd_ (Kd.R_below (by (with_reducible repeat (first|apply Kd.R_alloc|apply Kd.R_drewN|apply Kd.R_drew));exact HO_5.out) hb);replace BK453 := kb_ BK453 hb;replace BK454 := kb_ BK454 hb;replace BK462 := kb_ BK462 hb;replace HB := hb_ HB (e_ GE453 (e_ GE454 (e_ GE462 e0_))) hb;(try clear hb);(try clear hb2);(try clear hk);(try clear hi)))
     go_ret
     exact ⟨by first|rfl|(simp [errW_none,errW_some] <;> rfl)|(simp [*,errW_none,errW_some] <;> rfl),by repeat (first|(with_reducible first|exact HB.out|apply ba_|apply pd_|apply d1_|refine bs_ ?_ GE453.out|refine bs_ ?_ GE454.out|refine bs_ ?_ GE462.out)|exact HB.out)⟩
   ·replace c18 := bf_ c18
    subst c18
    have H1 : (if (t455.length : Int) < 1 then (neumelaw07_DurBeats.j1 kj4 t455 true a0_0 a0_1 a1_0 a1_1 t459 t460) else (if 0 < (t455.length : Int) then (neumelaw07_DurBeats.j1 kj4 t455 (((rd_T25 t455 0).f0) != 0) a0_0 a0_1 a1_0 a1_1 t459 t460) else (none))) = some r := by rw [if_neg (show ¬ (false = true) by decide)] at H;exact H
    clear H;have H := H1;clear H1
    have HC27 := sd_ H
    clear H
    go_upto_region 5 with (fail)
    go_cut [47] (fun v47 wc => ∃ (kq : Nat) (x47_26 : Bool),v47 = .bool x47_26 ∧ Aside0 (neumelaw07_DurBeats.j1 kq t455 x47_26 a0_0 a0_1 a1_0 a1_1 t459 t460 = some r) ∧ Aside0 (kq ≤ kj4) ∧ Aside0 (Kd.R k25 25 wc w.heap.size (fun k_ => k_ ≠ gb454 ∧ k_ ≠ gb462) v456 t455) ∧ Aside0 (wc.heap[gb453]? = some (.cells #[.int .i64 a0_0,.int .i64 a0_1] 42 (0,0))) ∧ Aside0 (wc.heap[gb454]? = some (.cells #[.int .i64 a1_0,.int .i64 a1_1] 25 (0,0))) ∧ Aside0 (wc.heap[gb462]? = some (.cells #[.int .i64 t459,.int .i64 t460] 25 (0,0))) ∧ Aside0 (Below w.heap.size w wc))
    case first =>
     have H := HC27.out
     clear HC27
     by_cases c28 : (t455.length : Int) < 1
     ·rw [if_pos c28] at H
      have c28b0 : decide ((t455.length : Int) < 1) = true := dt_ c28
      have c28b1 : decide (t455.length < 1) = true := dt_ (by omega)
      clear c28
      (first|rw [c28b0]|(simp only [i64_w,i32_w];rw [c28b0])|skip)
      have H' := sd_ H
      clear H
      obtain ⟨Ao29,co29,eo29⟩ := Kd.R_slice HO_5.out
      subst eo29
      go_wp2
      go_meet
      case rel => exact ⟨_,(true),(by first|rfl|(simp;done)|(simp [*];done)|(simp [bne];done)),H',⟨by have := HJ4.out;first|omega|exact Nat.le_refl _⟩,⟨by (with_reducible repeat (first|apply Kd.R_alloc|apply Kd.R_drewN|apply Kd.R_drew));exact HO_5.out⟩,⟨by (with_reducible repeat first|apply kn_|apply kd_|apply ka_);exact BK453.out⟩,⟨by (with_reducible repeat first|apply kn_|apply kd_|apply ka_);exact BK454.out⟩,⟨by (with_reducible repeat first|apply kn_|apply kd_|apply ka_);exact BK462.out⟩,⟨by repeat (first|(with_reducible first|exact HB.out|apply ba_|apply pd_|apply d1_|refine bs_ ?_ GE453.out|refine bs_ ?_ GE454.out|refine bs_ ?_ GE462.out)|exact HB.out)⟩⟩
     ·rw [if_neg c28] at H
      have c28b0 : decide ((t455.length : Int) < 1) = false := df_ c28
      have c28b1 : decide (t455.length < 1) = false := df_ (by omega)
      clear c28
      (first|rw [c28b0]|(simp only [i64_w,i32_w];rw [c28b0])|skip)
      by_cases c30 : 0 < (t455.length : Int)
      ·rw [if_pos c30] at H
       have c30b0 : decide (0 < (t455.length : Int)) = true := dt_ c30
       have c30b1 : decide (0 < t455.length) = true := dt_ (by omega)
       clear c30
       have H' := sd_ H
       clear H
       obtain ⟨Ao31,co31,eo31⟩ := Kd.R_slice HO_5.out
       subst eo31
       have p465 : 0 ≤ (0 : Int) := (by omega)
       have q465 : 0 < (t455.length : Int) := od_ (by first|(with_reducible assumption)|assumption)
       obtain ⟨ad465,e465,hx465_0,hx465_1⟩ := at_T25 (Kd.R_reads' HO_5.out).2.2 0 p465 q465
       cases e465
       have qi465 : (0 < t455.length) = True := eq_true (by omega)
       (try rw [show ((0 : Int)).toNat = 0 from rfl] at hx465_0)
       (try rw [show 0 * 2 = 0 from rfl] at hx465_0)
       (try rw [Addr.add_zero'] at hx465_0)
       (try rw [show ((0 : Int)).toNat = 0 from rfl] at hx465_1)
       (try rw [show 0 * 2 = 0 from rfl] at hx465_1)
       (try rw [Addr.add_zero'] at hx465_1)
       replace p465 := eq_true p465
       replace q465 := eq_true q465
       go_wp2
       go_meet
       case rel => exact ⟨_,((((rd_T25 t455 0).f0) != 0)),(by first|rfl|(simp;done)|(simp [*];done)|(simp [bne];done)),H',⟨by have := HJ4.out;first|omega|exact Nat.le_refl _⟩,⟨by (with_reducible repeat (first|apply Kd.R_alloc|apply Kd.R_drewN|apply Kd.R_drew));exact HO_5.out⟩,⟨by (with_reducible repeat first|apply kn_|apply kd_|apply ka_);exact BK453.out⟩,⟨by (with_reducible repeat first|apply kn_|apply kd_|apply ka_);exact BK454.out⟩,⟨by (with_reducible repeat first|apply kn_|apply kd_|apply ka_);exact BK462.out⟩,⟨by repeat (first|(with_reducible first|exact HB.out|apply ba_|apply pd_|apply d1_|refine bs_ ?_ GE453.out|refine bs_ ?_ GE454.out|refine bs_ ?_ GE462.out)|exact HB.out)⟩⟩
      ·rw [if_neg c30] at H
       exact absurd H (by simp)
    case rest =>
     clear HC27
     try clear c1;try clear c2;try clear p2;try clear c3;try clear p4;try clear q4;try clear hx4;try clear qi4;try clear c5;try clear c8;try clear c14;try clear c15;try clear c16;try clear c17;try clear c17b0;try clear c17b1;try clear c18;try clear c20;try clear c22;try clear c23;try clear c28;try clear c28b0;try clear c28b1;try clear c30;try clear c30b0;try clear c30b1;try clear hcz11_0;try clear hcz11_1;try clear hcz16_0;try clear hcz16_1;try clear hcz24_0;try clear hcz24_1;try clear hcz9_0;try clear hcz9_1;try clear hfz11_0;try clear hfz11_1;try clear hfz16_0;try clear hfz16_1;try clear hfz24_0;try clear hfz24_1;try clear hfz9_0;try clear hfz9_1;try clear hx465_0;try clear hx465_1;try clear p2;try clear p465;try clear q465
     obtain ⟨kq,x47_26,rfl,HA,HJ26,HO_5,BK453,BK454,BK462,HB⟩ := hcut
     cases kq with
     | zero => exact absurd HA.out (by simp [neumelaw07_DurBeats.j1])
     | succ kj26 =>
      have H := HA.out
      clear HA
      simp only [neumelaw07_DurBeats.j1] at H
      by_cases c32 : x47_26 = true
      ·subst c32
       have H1 : (some false) = some r := by rw [if_pos rfl] at H;exact H
       clear H;have H := H1;clear H1
       exact absurd ((Option.some.inj H).trans hxt.out) (by decide)
      ·replace c32 := bf_ c32
       subst c32
       have H1 : ((neumeref02_Div.f kj26 t459 t460 (t455.length : Int) 1).bind fun bt466 => (neumelaw07_DurBeats.l0 kj26 t455 0 a0_0 a0_1 a1_0 a1_1 bt466.1 bt466.2.1)) = some r := by rw [if_neg (show ¬ (false = true) by decide)] at H;exact H
       clear H;have H := H1;clear H1
       replace H := ob_ H
       obtain ⟨⟨t466,t467,t468⟩,A330,H⟩ := H
       replace H : (neumelaw07_DurBeats.l0 kj26 t455 0 a0_0 a0_1 a1_0 a1_1 t466 t467) = some r := H
       have A33 := sd_ A330
       clear A330
       have H' := sd_ H
       clear H
       have hnb34 := NB462_453.out
       have hnc34 := NB453_462.out
       have hnb35 := NB462_454.out
       have hnc35 := NB454_462.out
       have hcz36_0 : wc.cell? ⟨gb462,0,none⟩ = some (.int .i64 t459) := (kc_ BK462.out 0).trans rfl
       have hcz36_1 : wc.cell? ⟨gb462,1,none⟩ = some (.int .i64 t460) := (kc_ BK462.out 1).trans rfl
       have hfz36_0 := kf_ BK462.out 0
       have hfz36_1 := kf_ BK462.out 1
       obtain ⟨Ao37,co37,eo37⟩ := Kd.R_slice HO_5.out
       subst eo37
       go_wp2_with (first|((with_reducible refine gate_callee (f := 17) rfl ?_);refine goesL_ (some 53) rfl rfl Tryd.func17 (by kernel_rfl) rfl #[.agg #[.int .i64 t459,.int .i64 t460],.agg #[.int .i64 (t455.length : Int),.int .i64 1]] rfl (by (try simp only [lm_,lq_,lx_]);first|done|rfl|(simp only [ld_,lt_];rfl)) ?_;(with_reducible refine (neumeref02_Div.calls kj26 t459 t460 (t455.length : Int) 1 t466 t467 t468 _ A33.out).mono ?_);rintro e w38 ⟨rfl,hb⟩;refine ⟨_,rfl,?_⟩;replace HO_5 := sd_ (Kd.R_below (by (with_reducible repeat (first|apply Kd.R_alloc|apply Kd.R_drewN|apply Kd.R_drew));exact HO_5.out) hb);replace BK453 := kb_ BK453 hb;replace BK454 := kb_ BK454 hb;replace BK462 := kb_ BK462 hb;replace HB := hb_ HB (e_ GE453 (e_ GE454 (e_ GE462 e0_))) hb;(try clear hb);(try clear hb2);(try clear hk);(try clear hi))|((with_reducible refine gate_dst (N := 9) rfl ?_);(try (refine gate_guard (by rfl) ?_;dsimp only));refine box_event ?hg (N := 9) ?hd (cs := #[.int .i64 0,.int .i64 0]) (t := 25) ?hr ?_;(case hd => rfl);(case hg => rfl);(case hr => first|(go_simp;done)|(go_simp;rfl));intro gb469 hg w39 hbox hb;have BK469 := sd_ hbox;have GW469 := gw_ HB (e_ GE453 (e_ GE454 (e_ GE462 e0_))) hg;have GE469 := GW469;have NB453_469 := nb_ BK453 hg;have NB469_453 := sy_ NB453_469;have NB454_469 := nb_ BK454 hg;have NB469_454 := sy_ NB454_469;have NB462_469 := nb_ BK462 hg;have NB469_462 := sy_ NB462_469;replace HO_5 := sd_ (Kd.R_below (Kd.R_elderB (by (with_reducible repeat (first|apply Kd.R_alloc|apply Kd.R_drewN|apply Kd.R_drew));exact HO_5.out) gb469 (Nat.le_of_eq hg.symm)) hb);replace BK453 := kb_ BK453 hb;replace BK454 := kb_ BK454 hb;replace BK462 := kb_ BK462 hb;replace HB := hb_ HB (e_ GE453 (e_ GE454 (e_ GE462 e0_))) hb;clear hb hbox hg;have hnb40 := NB469_453.out;have hnc40 := NB453_469.out;have hnb41 := NB469_454.out;have hnc41 := NB454_469.out;have hnb42 := NB469_462.out;have hnc42 := NB462_469.out;have hcz43_0 : w39.cell? ⟨gb469,0,none⟩ = some (.int .i64 0) := (kc_ BK469.out 0).trans rfl;have hcz43_1 : w39.cell? ⟨gb469,1,none⟩ = some (.int .i64 0) := (kc_ BK469.out 1).trans rfl;have hfz43_0 := kf_ BK469.out 0;have hfz43_1 := kf_ BK469.out 1))
       go_loopg [11] kj26 (fun kq v11 w' => ∃ (x11_3 : Int),v11 = .int .i64 x11_3 ∧ Aside0 (neumelaw07_DurBeats.l0 kq t455 x11_3 a0_0 a0_1 a1_0 a1_1 t466 t467 = some r) ∧ Aside0 (kq ≤ kj26) ∧ Aside0 (Kd.R k25 25 w' w.heap.size (fun k_ => k_ ≠ gb454 ∧ k_ ≠ gb462 ∧ k_ ≠ gb469) (.slice Ao37 t455.length co37) t455) ∧ Aside0 (w'.heap[gb453]? = some (.cells #[.int .i64 a0_0,.int .i64 a0_1] 42 (0,0))) ∧ Aside0 (w'.heap[gb454]? = some (.cells #[.int .i64 a1_0,.int .i64 a1_1] 25 (0,0))) ∧ Aside0 (w'.heap[gb462]? = some (.cells #[.int .i64 t459,.int .i64 t460] 25 (0,0))) ∧ Aside0 (w'.heap[gb469]? = some (.cells #[.int .i64 t466,.int .i64 t467] 25 (0,0))) ∧ Aside0 (Below w.heap.size w w'))
       case atStart => exact ⟨(0),(by first|rfl|(simp;done)|(simp [*];done)|(simp [bne];done)),H',⟨Nat.le_refl _⟩,⟨by (with_reducible repeat (first|apply Kd.R_alloc|apply Kd.R_drewN|apply Kd.R_drew));exact Kd.R_mono (Kd.R_far (p := ⟨gb469,1,none⟩) (Kd.R_far (p := ⟨gb469,0,none⟩) (Kd.R_mono HO_5.out (fun k_ hk => (⟨hk,hk.2⟩ : _ ∧ k_ ≠ gb469))) (fun _ hk => hk.2) (.int .i64 t466)) (fun _ hk => hk.2) (.int .i64 t467)) (fun _ hk => ⟨hk.1.1.1,⟨hk.1.1.2,hk.1.2⟩⟩)⟩,⟨by (with_reducible repeat first|apply kn_|apply kd_|apply ka_);refine blk_far ?_ NB453_469.out _;(with_reducible repeat first|apply kn_|apply kd_|apply ka_);refine blk_far ?_ NB453_469.out _;(with_reducible repeat first|apply kn_|apply kd_|apply ka_);exact BK453.out⟩,⟨by (with_reducible repeat first|apply kn_|apply kd_|apply ka_);refine blk_far ?_ NB454_469.out _;(with_reducible repeat first|apply kn_|apply kd_|apply ka_);refine blk_far ?_ NB454_469.out _;(with_reducible repeat first|apply kn_|apply kd_|apply ka_);exact BK454.out⟩,⟨by (with_reducible repeat first|apply kn_|apply kd_|apply ka_);refine blk_far ?_ NB462_469.out _;(with_reducible repeat first|apply kn_|apply kd_|apply ka_);refine blk_far ?_ NB462_469.out _;(with_reducible repeat first|apply kn_|apply kd_|apply ka_);exact BK462.out⟩,⟨by (with_reducible repeat first|apply kn_|apply kd_|apply ka_);refine blk_put (cs := #[.int .i64 t466,.int .i64 0]) ?_ 1 _ rfl;(with_reducible repeat first|apply kn_|apply kd_|apply ka_);refine blk_put (cs := #[.int .i64 0,.int .i64 0]) ?_ 0 _ rfl;(with_reducible repeat first|apply kn_|apply kd_|apply ka_);exact BK469.out⟩,⟨by repeat (first|(with_reducible first|exact HB.out|apply ba_|apply pd_|apply d1_|refine bs_ ?_ GE453.out|refine bs_ ?_ GE454.out|refine bs_ ?_ GE462.out|refine bs_ ?_ GE469.out)|exact HB.out)⟩⟩
       case round =>
        clear H'
        try clear c1;try clear c2;try clear p2;try clear c3;try clear c4;try clear p4;try clear q4;try clear hx4;try clear qi4;try clear c5;try clear c8;try clear c14;try clear c15;try clear c16;try clear c17;try clear c17b0;try clear c17b1;try clear c18;try clear c20;try clear c22;try clear c23;try clear c28;try clear c28b0;try clear c28b1;try clear c30;try clear c30b0;try clear c30b1;try clear c32;try clear c34;try clear c35;try clear c40;try clear c41;try clear c42;try clear hcz11_0;try clear hcz11_1;try clear hcz16_0;try clear hcz16_1;try clear hcz24_0;try clear hcz24_1;try clear hcz36_0;try clear hcz36_1;try clear hcz43_0;try clear hcz43_1;try clear hcz9_0;try clear hcz9_1;try clear hfz11_0;try clear hfz11_1;try clear hfz16_0;try clear hfz16_1;try clear hfz24_0;try clear hfz24_1;try clear hfz36_0;try clear hfz36_1;try clear hfz43_0;try clear hfz43_1;try clear hfz9_0;try clear hfz9_1;try clear hx465_0;try clear hx465_1;try clear p2;try clear p4;try clear p465;try clear q4;try clear q465
        obtain ⟨x11_3,rfl,HA,HK3,HO_5,BK453,BK454,BK462,BK469,HB⟩ := hrel
        cases gk with
        | zero => exact absurd HA.out (by simp [neumelaw07_DurBeats.l0])
        | succ k3 =>
         have H := HA.out
         clear HA
         simp only [neumelaw07_DurBeats.l0] at H
         by_cases c44 : x11_3 < (t455.length : Int)
         ·rw [if_pos c44] at H
          have c44b0 : decide (x11_3 < (t455.length : Int)) = true := dt_ c44
          clear c44
          replace H := ob_ H
          obtain ⟨⟨t470,t471,t472⟩,A450,H⟩ := H
          try dsimp only at H
          have A45 := sd_ A450
          clear A450
          by_cases c46 : 0 ≤ x11_3
          ·rw [if_pos c46] at H
           have c46b0 : decide (0 ≤ x11_3) = true := dt_ c46
           clear c46
           by_cases c47 : (!(((rd_T25 t455 x11_3).f0) == t470) || (!(((rd_T25 t455 x11_3).f1) == t471))) = true
           ·rw [if_pos c47] at H
            have c47b0 : (!(((rd_T25 t455 x11_3).f0) == t470) || (!(((rd_T25 t455 x11_3).f1) == t471))) = true := c47
            clear c47
            exact absurd ((Option.some.inj H).trans hxt.out) (by decide)
           ·rw [if_neg c47] at H
            have c47b0 : (!(((rd_T25 t455 x11_3).f0) == t470) || (!(((rd_T25 t455 x11_3).f1) == t471))) = false := by simpa using c47
            clear c47
            have H' := sd_ H
            clear H
            have hnb48 := NB469_453.out
            have hnc48 := NB453_469.out
            have hnb49 := NB469_454.out
            have hnc49 := NB454_469.out
            have hnb50 := NB469_462.out
            have hnc50 := NB462_469.out
            have hcz51_0 : wr.cell? ⟨gb469,0,none⟩ = some (.int .i64 t466) := (kc_ BK469.out 0).trans rfl
            have hcz51_1 : wr.cell? ⟨gb469,1,none⟩ = some (.int .i64 t467) := (kc_ BK469.out 1).trans rfl
            have hfz51_0 := kf_ BK469.out 0
            have hfz51_1 := kf_ BK469.out 1
            try go_wp2_with (first|((with_reducible refine gate_callee (f := 18) rfl ?_);refine goesL_ (some 66) rfl rfl Tryd.func18 (by kernel_rfl) rfl #[.agg #[.int .i64 t466,.int .i64 t467],.agg #[.int .i64 x11_3,.int .i64 1]] rfl (by (try simp only [lm_,lq_,lx_]);first|done|rfl|(simp only [ld_,lt_];rfl)) ?_;(with_reducible refine (neumeref02_Mul.calls k3 t466 t467 x11_3 1 t470 t471 t472 _ A45.out).mono ?_);rintro e w52 ⟨rfl,hb⟩;refine ⟨_,rfl,?_⟩;replace HO_5 := sd_ (Kd.R_below (by (with_reducible repeat (first|apply Kd.R_alloc|apply Kd.R_drewN|apply Kd.R_drew));exact HO_5.out) hb);replace BK453 := kb_ BK453 hb;replace BK454 := kb_ BK454 hb;replace BK462 := kb_ BK462 hb;replace BK469 := kb_ BK469 hb;replace HB := hb_ HB (e_ GE453 (e_ GE454 (e_ GE462 (e_ GE469 e0_)))) hb;(try clear hb);(try clear hb2);(try clear hk);(try clear hi))|((with_reducible refine gate_dst (N := 12) rfl ?_);(try (refine gate_guard (by rfl) ?_;dsimp only));refine box_event ?hg (N := 12) ?hd (cs := #[.int .i64 0,.int .i64 0]) (t := 25) ?hr ?_;(case hd => rfl);(case hg => rfl);(case hr => first|(go_simp;done)|(go_simp;rfl));intro gb473 hg w53 hbox hb;have BK473 := sd_ hbox;have GW473 := gw_ HB (e_ GE453 (e_ GE454 (e_ GE462 (e_ GE469 e0_)))) hg;have GE473 := GW473;have NB453_473 := nb_ BK453 hg;have NB473_453 := sy_ NB453_473;have NB454_473 := nb_ BK454 hg;have NB473_454 := sy_ NB454_473;have NB462_473 := nb_ BK462 hg;have NB473_462 := sy_ NB462_473;have NB469_473 := nb_ BK469 hg;have NB473_469 := sy_ NB469_473;replace HO_5 := sd_ (Kd.R_below (Kd.R_elderB (by (with_reducible repeat (first|apply Kd.R_alloc|apply Kd.R_drewN|apply Kd.R_drew));exact HO_5.out) gb473 (Nat.le_of_eq hg.symm)) hb);replace BK453 := kb_ BK453 hb;replace BK454 := kb_ BK454 hb;replace BK462 := kb_ BK462 hb;replace BK469 := kb_ BK469 hb;replace HB := hb_ HB (e_ GE453 (e_ GE454 (e_ GE462 (e_ GE469 e0_)))) hb;clear hb hbox hg;have hnb54 := NB473_453.out;have hnc54 := NB453_473.out;have hnb55 := NB473_454.out;have hnc55 := NB454_473.out;have hnb56 := NB473_462.out;have hnc56 := NB462_473.out;have hnb57 := NB473_469.out;have hnc57 := NB469_473.out;have hcz58_0 : w53.cell? ⟨gb473,0,none⟩ = some (.int .i64 0) := (kc_ BK473.out 0).trans rfl;have hcz58_1 : w53.cell? ⟨gb473,1,none⟩ = some (.int .i64 0) := (kc_ BK473.out 1).trans rfl;have hfz58_0 := kf_ BK473.out 0;have hfz58_1 := kf_ BK473.out 1))
            have n0_ : Aside0 (Kd.R k25 25 ((w53.setCell ⟨gb473,0,none⟩ (.int .i64 t470)).setCell ⟨gb473,1,none⟩ (.int .i64 t471)) w.heap.size (fun k_ => k_ ≠ gb454 ∧ k_ ≠ gb462 ∧ k_ ≠ gb469 ∧ k_ ≠ gb473) (.slice Ao37 t455.length co37) t455) := ⟨by (with_reducible repeat (first|apply Kd.R_alloc|apply Kd.R_drewN|apply Kd.R_drew));exact Kd.R_mono (Kd.R_far (p := ⟨gb473,1,none⟩) (Kd.R_far (p := ⟨gb473,0,none⟩) (Kd.R_mono HO_5.out (fun k_ hk => (⟨hk,hk.2⟩ : _ ∧ k_ ≠ gb473))) (fun _ hk => hk.2) (.int .i64 t470)) (fun _ hk => hk.2) (.int .i64 t471)) (fun _ hk => ⟨hk.1.1.1,⟨hk.1.1.2.1,⟨hk.1.1.2.2,hk.1.2⟩⟩⟩)⟩
            have n1_ : Aside0 (((w53.setCell ⟨gb473,0,none⟩ (.int .i64 t470)).setCell ⟨gb473,1,none⟩ (.int .i64 t471)).heap[gb453]? = some (.cells #[.int .i64 a0_0,.int .i64 a0_1] 42 (0,0))) := ⟨by (with_reducible repeat first|apply kn_|apply kd_|apply ka_);refine blk_far ?_ NB453_473.out _;(with_reducible repeat first|apply kn_|apply kd_|apply ka_);refine blk_far ?_ NB453_473.out _;(with_reducible repeat first|apply kn_|apply kd_|apply ka_);exact BK453.out⟩
            have n2_ : Aside0 (((w53.setCell ⟨gb473,0,none⟩ (.int .i64 t470)).setCell ⟨gb473,1,none⟩ (.int .i64 t471)).heap[gb454]? = some (.cells #[.int .i64 a1_0,.int .i64 a1_1] 25 (0,0))) := ⟨by (with_reducible repeat first|apply kn_|apply kd_|apply ka_);refine blk_far ?_ NB454_473.out _;(with_reducible repeat first|apply kn_|apply kd_|apply ka_);refine blk_far ?_ NB454_473.out _;(with_reducible repeat first|apply kn_|apply kd_|apply ka_);exact BK454.out⟩
            have n3_ : Aside0 (((w53.setCell ⟨gb473,0,none⟩ (.int .i64 t470)).setCell ⟨gb473,1,none⟩ (.int .i64 t471)).heap[gb462]? = some (.cells #[.int .i64 t459,.int .i64 t460] 25 (0,0))) := ⟨by (with_reducible repeat first|apply kn_|apply kd_|apply ka_);refine blk_far ?_ NB462_473.out _;(with_reducible repeat first|apply kn_|apply kd_|apply ka_);refine blk_far ?_ NB462_473.out _;(with_reducible repeat first|apply kn_|apply kd_|apply ka_);exact BK462.out⟩
            have n4_ : Aside0 (((w53.setCell ⟨gb473,0,none⟩ (.int .i64 t470)).setCell ⟨gb473,1,none⟩ (.int .i64 t471)).heap[gb469]? = some (.cells #[.int .i64 t466,.int .i64 t467] 25 (0,0))) := ⟨by (with_reducible repeat first|apply kn_|apply kd_|apply ka_);refine blk_far ?_ NB469_473.out _;(with_reducible repeat first|apply kn_|apply kd_|apply ka_);refine blk_far ?_ NB469_473.out _;(with_reducible repeat first|apply kn_|apply kd_|apply ka_);exact BK469.out⟩
            have n5_ : Aside0 (((w53.setCell ⟨gb473,0,none⟩ (.int .i64 t470)).setCell ⟨gb473,1,none⟩ (.int .i64 t471)).heap[gb473]? = some (.cells #[.int .i64 t470,.int .i64 t471] 25 (0,0))) := ⟨by (with_reducible repeat first|apply kn_|apply kd_|apply ka_);refine blk_put (cs := #[.int .i64 t470,.int .i64 0]) ?_ 1 _ rfl;(with_reducible repeat first|apply kn_|apply kd_|apply ka_);refine blk_put (cs := #[.int .i64 0,.int .i64 0]) ?_ 0 _ rfl;(with_reducible repeat first|apply kn_|apply kd_|apply ka_);exact BK473.out⟩
            have n6_ : Aside0 (Below w.heap.size w ((w53.setCell ⟨gb473,0,none⟩ (.int .i64 t470)).setCell ⟨gb473,1,none⟩ (.int .i64 t471))) := ⟨by repeat (first|(with_reducible first|exact HB.out|apply ba_|apply pd_|apply d1_|refine bs_ ?_ GE453.out|refine bs_ ?_ GE454.out|refine bs_ ?_ GE462.out|refine bs_ ?_ GE469.out|refine bs_ ?_ GE473.out)|exact HB.out)⟩
            (try clear HO_5)
            (try clear BK453)
            (try clear BK454)
            (try clear BK462)
            (try clear BK469)
            (try clear BK473)
            (try clear HB)
            generalize ((w53.setCell ⟨gb473,0,none⟩ (.int .i64 t470)).setCell ⟨gb473,1,none⟩ (.int .i64 t471)) = w59 at n0_ n1_ n2_ n3_ n4_ n5_ n6_ ⊢
            have HO_5 := n0_
            have BK453 := n1_
            have BK454 := n2_
            have BK462 := n3_
            have BK469 := n4_
            have BK473 := n5_
            have HB := n6_
            clear n0_ n1_ n2_ n3_ n4_ n5_ n6_
            replace HO_5 := sd_ (Kd.R_drew HO_5.out)
            replace BK453 := sd_ (kd_ BK453.out)
            replace BK454 := sd_ (kd_ BK454.out)
            replace BK462 := sd_ (kd_ BK462.out)
            replace BK469 := sd_ (kd_ BK469.out)
            replace BK473 := sd_ (kd_ BK473.out)
            replace HB := sd_ (d1_ HB.out)
            have p474 : 0 ≤ (x11_3 : Int) := od_ (by first|(with_reducible assumption)|assumption)
            have q474 : x11_3 < (t455.length : Int) := od_ (by first|(with_reducible assumption)|assumption)
            obtain ⟨ad474,e474,hx474_0,hx474_1⟩ := at_T25 (Kd.R_reads' HO_5.out).2.2 x11_3 p474 q474
            cases e474
            replace p474 := eq_true p474
            replace q474 := eq_true q474
            refine start_ (n := 6) (S := fun w' => w'.cell? ⟨gb473,0,none⟩ = some (.int .i64 t470) ∧ w'.cell? ⟨gb473,1,none⟩ = some (.int .i64 t471) ∧ w'.cell? (ad474.add ((x11_3).toNat * 2)) = some (.int .i64 ((rd_T25 t455 x11_3).f0)) ∧ w'.cell? ⟨(ad474.add ((x11_3).toNat * 2)).block,(ad474.add ((x11_3).toNat * 2)).off + 1,none⟩ = some (.int .i64 ((rd_T25 t455 x11_3).f1))) (ds := []) (Array.replicate 6 false) (by kernel_rfl) rfl rfl ⟨(kc_ BK473.out 0).trans rfl,(kc_ BK473.out 1).trans rfl,hx474_0,hx474_1⟩ (fun hHeld => ?_)
            generalize w59.drew = w60 at HO_5 BK453 BK454 BK462 BK469 BK473 HB hx474_0 hx474_1 hHeld ⊢
            refine pure_ (i := 0) (N := some 69) (v := ?_) (a' := ?_) (bz 6 1) rfl rfl (by kernel_rfl) (fun _ _ _ h => h) (Or.inl ⟨by rfl,?_⟩) ?_ ?_
            rotate_left;(intro w';go_simp;with_reducible rfl);rotate_left;(simp only [Act.put,ls_,lz_,lc_,i64_w,i32_w];rfl)
            refine pure_ (i := 1) (N := some 70) (v := ?_) (a' := ?_) (bz 6 3) rfl rfl (by kernel_rfl) (fun _ _ _ h => h) (Or.inl ⟨by rfl,?_⟩) ?_ ?_
            rotate_left;(intro w';go_simp;with_reducible rfl);rotate_left;(simp only [Act.put,ls_,lz_,lc_,i64_w,i32_w];rfl)
            refine pure_ (i := 2) (N := some 71) (v := ?_) (a' := ?_) (bz 6 7) rfl rfl (by kernel_rfl) (fun _ _ _ h => h) (Or.inl ⟨by rfl,?_⟩) ?_ ?_
            rotate_left;(intro w';go_simp;with_reducible rfl);rotate_left;(simp only [Act.put,ls_,lz_,lc_,i64_w,i32_w];rfl)
            refine take_ (i := 3) (N := some 72) (v := ?_) (a' := ?_) (bz 6 15) rfl rfl (by kernel_rfl) (fun _ _ _ h => h) (Or.inl ⟨by rfl,?_⟩) hHeld ?_ ?_
            rotate_left
            ·rintro w' ⟨s0,s1,s2,s3⟩
             go_simp
             with_reducible rfl
            rotate_left
            ·simp only [Act.put,ls_,lz_,lc_,i64_w,i32_w]
             rfl
            refine take_ (i := 4) (N := some 73) (v := ?_) (a' := ?_) (bz 6 31) rfl rfl (by kernel_rfl) (fun _ _ _ h => h) (Or.inl ⟨by rfl,?_⟩) hHeld ?_ ?_
            rotate_left
            ·rintro w' ⟨s0,s1,s2,s3⟩
             go_simp
             with_reducible rfl
            rotate_left
            ·simp only [Act.put,ls_,lz_,lc_,i64_w,i32_w]
             rfl
            refine pure_ (i := 5) (N := some 74) (v := ?_) (a' := ?_) (bz 6 63) rfl rfl (by kernel_rfl) (fun _ _ _ h => h) (Or.inl ⟨by rfl,?_⟩) ?_ ?_
            rotate_left;(intro w';go_simp;with_reducible rfl);rotate_left;(simp only [Act.put,ls_,lz_,lc_,i64_w,i32_w];rfl)
            refine done_ (by kernel_rfl) ?_
            try go_wp2
            go_roundg k3
            case measure => have := HJ4.out;have := HJ26.out;have := HK3.out;omega
            case rel => exact ⟨(wrap64 (x11_3 + 1)),(by first|rfl|(simp;done)|(simp [*];done)|(simp [bne];done)),H',⟨by have := HJ4.out;have := HJ26.out;have := HK3.out;omega⟩,⟨by (with_reducible repeat (first|apply Kd.R_alloc|apply Kd.R_drewN|apply Kd.R_drew));exact Kd.R_mono HO_5.out (fun _ hk => ⟨hk.1,⟨hk.2.1,hk.2.2.1⟩⟩)⟩,⟨by (with_reducible repeat first|apply kn_|apply kd_|apply ka_);exact BK453.out⟩,⟨by (with_reducible repeat first|apply kn_|apply kd_|apply ka_);exact BK454.out⟩,⟨by (with_reducible repeat first|apply kn_|apply kd_|apply ka_);exact BK462.out⟩,⟨by (with_reducible repeat first|apply kn_|apply kd_|apply ka_);exact BK469.out⟩,⟨by repeat (first|(with_reducible first|exact HB.out|apply ba_|apply pd_|apply d1_|refine bs_ ?_ GE453.out|refine bs_ ?_ GE454.out|refine bs_ ?_ GE462.out|refine bs_ ?_ GE469.out|refine bs_ ?_ GE473.out)|exact HB.out)⟩⟩
          ·rw [if_neg c46] at H
           exact absurd H (by simp)
         ·rw [if_neg c44] at H
          have c44b0 : decide (x11_3 < (t455.length : Int)) = false := df_ c44
          clear c44
          replace H := ob_ H
          obtain ⟨⟨t475,t476⟩,A610,H⟩ := H
          try dsimp only at H
          have A61 := sd_ A610
          clear A610
          by_cases c62 : t476 = 0
          ·rw [if_pos c62] at H
           have c62b0 : (t476 == 0) = true := beq_iff_eq.mpr c62
           have c62b1 : (t476 != 0) = false := bne_eq_false_iff_eq.mpr c62
           clear c62
           by_cases c63 : t475 ≥ 0
           ·rw [if_pos c63] at H
            have c63b0 : decide (0 ≤ t475) = true := dt_ c63
            clear c63
            by_cases c64 : t475 < (t455.length : Int)
            ·rw [if_pos c64] at H
             have c64b0 : decide (t475 < (t455.length : Int)) = true := dt_ c64
             clear c64
             by_cases c65 : 0 ≤ t475
             ·rw [if_pos c65] at H
              have c65b0 : decide (0 ≤ t475) = true := dt_ c65
              clear c65
              replace H := ob_ H
              obtain ⟨t478,A660,H⟩ := H
              try dsimp only at H
              have A66 := sd_ A660
              clear A660
              by_cases c67 : t478 ≤ 0
              ·rw [if_pos c67] at H
               have c67b0 : decide (t478 ≤ 0) = true := dt_ c67
               clear c67
               by_cases c68 : t475 = (wrap64 ((t455.length : Int) - 1))
               ·rw [if_pos c68] at H
                have c68b0 : (t475 == (wrap64 ((t455.length : Int) - 1))) = true := beq_iff_eq.mpr c68
                have c68b1 : (t475 != (wrap64 ((t455.length : Int) - 1))) = false := bne_eq_false_iff_eq.mpr c68
                clear c68
                replace H := ob_ H
                obtain ⟨t479,A690,H⟩ := H
                replace H : (some t479) = some r := H
                have A69 := sd_ A690
                clear A690
                obtain rfl := Option.some.inj H
                have hnb70 := NB453_454.out
                have hnc70 := NB454_453.out
                have hnb71 := NB453_462.out
                have hnc71 := NB462_453.out
                have hnb72 := NB453_469.out
                have hnc72 := NB469_453.out
                have hcz73_0 : wr.cell? ⟨gb453,0,none⟩ = some (.int .i64 a0_0) := (kc_ BK453.out 0).trans rfl
                have hcz73_1 : wr.cell? ⟨gb453,1,none⟩ = some (.int .i64 a0_1) := (kc_ BK453.out 1).trans rfl
                have hfz73_0 := kf_ BK453.out 0
                have hfz73_1 := kf_ BK453.out 1
                have hnb74 := NB454_462.out
                have hnc74 := NB462_454.out
                have hnb75 := NB454_469.out
                have hnc75 := NB469_454.out
                have hcz76_0 : wr.cell? ⟨gb454,0,none⟩ = some (.int .i64 a1_0) := (kc_ BK454.out 0).trans rfl
                have hcz76_1 : wr.cell? ⟨gb454,1,none⟩ = some (.int .i64 a1_1) := (kc_ BK454.out 1).trans rfl
                have hfz76_0 := kf_ BK454.out 0
                have hfz76_1 := kf_ BK454.out 1
                try go_wp2_with (first|((with_reducible refine gate_callee (f := 19) rfl ?_);refine goesL_ (some 78) rfl rfl Tryd.func19 (by kernel_rfl) rfl #[.agg #[.int .i64 a0_0,.int .i64 a0_1],.agg #[.int .i64 a1_0,.int .i64 a1_1]] rfl (by (try simp only [lm_,lq_,lx_]);first|done|rfl|(simp only [ld_,lt_];rfl)) ?_;(with_reducible refine (dur_Beat.calls k3 a0_0 a0_1 a1_0 a1_1 t475 t476 _ A61.out).mono ?_);rintro e w77 ⟨rfl,hb⟩;refine ⟨_,rfl,?_⟩;replace HO_5 := sd_ (Kd.R_below (by (with_reducible repeat (first|apply Kd.R_alloc|apply Kd.R_drewN|apply Kd.R_drew));exact HO_5.out) hb);replace BK453 := kb_ BK453 hb;replace BK454 := kb_ BK454 hb;replace BK462 := kb_ BK462 hb;replace BK469 := kb_ BK469 hb;replace HB := hb_ HB (e_ GE453 (e_ GE454 (e_ GE462 (e_ GE469 e0_)))) hb;(try clear hb);(try clear hb2);(try clear hk);(try clear hi)))
                replace HO_5 := sd_ (Kd.R_drew HO_5.out)
                replace BK453 := sd_ (kd_ BK453.out)
                replace BK454 := sd_ (kd_ BK454.out)
                replace BK462 := sd_ (kd_ BK462.out)
                replace BK469 := sd_ (kd_ BK469.out)
                replace HB := sd_ (d1_ HB.out)
                have p477 : 0 ≤ (t475 : Int) := od_ (by first|(with_reducible assumption)|assumption)
                have q477 : t475 < (t455.length : Int) := od_ (by first|(with_reducible assumption)|assumption)
                obtain ⟨ad477,e477,hx477_0,hx477_1⟩ := at_T25 (Kd.R_reads' HO_5.out).2.2 t475 p477 q477
                cases e477
                replace p477 := eq_true p477
                replace q477 := eq_true q477
                refine start_ (n := 38) (S := fun w' => w'.cell? ⟨gb454,0,none⟩ = some (.int .i64 a1_0) ∧ w'.cell? ⟨gb454,1,none⟩ = some (.int .i64 a1_1) ∧ w'.cell? (ad477.add ((t475).toNat * 2)) = some (.int .i64 ((rd_T25 t455 t475).f0)) ∧ w'.cell? ⟨(ad477.add ((t475).toNat * 2)).block,(ad477.add ((t475).toNat * 2)).off + 1,none⟩ = some (.int .i64 ((rd_T25 t455 t475).f1))) (ds := []) (Array.replicate 38 false) (by kernel_rfl) rfl rfl ⟨(kc_ BK454.out 0).trans rfl,(kc_ BK454.out 1).trans rfl,hx477_0,hx477_1⟩ (fun hHeld => ?_);refine with_tabW neumelaw07_DurBeats.tab17 neumelaw07_DurBeats.bits17 (fun HT_ HW_ => ?_)
                generalize w77.drew = w78 at HO_5 BK453 BK454 BK462 BK469 HB hx477_0 hx477_1 hHeld ⊢
                refine pu_ (v := ?_) (a' := ?_) 0 84 (bz 38 1) rfl rfl HT_ (by kernel_rfl) (fun _ _ _ h => h) (by rfl) ?_ ?_ ?_
                rotate_left;(intro w';go_simp;with_reducible rfl);rotate_left;(simp only [Act.put,ls_,lz_,lc_,i64_w,i32_w];rfl)
                refine pu_ (v := ?_) (a' := ?_) 1 85 (bz 38 3) rfl rfl HT_ (by kernel_rfl) (fun _ _ _ h => h) (by rfl) ?_ ?_ ?_
                rotate_left;(intro w';go_simp;with_reducible rfl);rotate_left;(simp only [Act.put,ls_,lz_,lc_,i64_w,i32_w];rfl)
                refine pu_ (v := ?_) (a' := ?_) 2 86 (bz 38 7) rfl rfl HT_ (by kernel_rfl) (fun _ _ _ h => h) (by rfl) ?_ ?_ ?_
                rotate_left;(intro w';go_simp;with_reducible rfl);rotate_left;(simp only [Act.put,ls_,lz_,lc_,i64_w,i32_w];rfl)
                refine pu_ (v := ?_) (a' := ?_) 3 87 (bz 38 15) rfl rfl HT_ (by kernel_rfl) (fun _ _ _ h => h) (by rfl) ?_ ?_ ?_
                rotate_left;(intro w';go_simp;with_reducible rfl);rotate_left;(simp only [Act.put,ls_,lz_,lc_,i64_w,i32_w];rfl)
                refine pu_ (v := ?_) (a' := ?_) 4 88 (bz 38 31) rfl rfl HT_ (by kernel_rfl) (fun _ _ _ h => h) (by rfl) ?_ ?_ ?_
                rotate_left;(intro w';go_simp;with_reducible rfl);rotate_left;(simp only [Act.put,ls_,lz_,lc_,i64_w,i32_w];rfl)
                refine pu_ (v := ?_) (a' := ?_) 5 89 (bz 38 63) rfl rfl HT_ (by kernel_rfl) (fun _ _ _ h => h) (by rfl) ?_ ?_ ?_
                rotate_left;(intro w';go_simp;with_reducible rfl);rotate_left;(simp only [Act.put,ls_,lz_,lc_,i64_w,i32_w];rfl)
                refine pu_ (v := ?_) (a' := ?_) 6 90 (bz 38 127) rfl rfl HT_ (by kernel_rfl) (fun _ _ _ h => h) (by rfl) ?_ ?_ ?_
                rotate_left;(intro w';go_simp;with_reducible rfl);rotate_left;(simp only [Act.put,ls_,lz_,lc_,i64_w,i32_w];rfl)
                refine pu_ (v := ?_) (a' := ?_) 7 91 (bz 38 255) rfl rfl HT_ (by kernel_rfl) (fun _ _ _ h => h) (by rfl) ?_ ?_ ?_
                rotate_left;(intro w';go_simp;with_reducible rfl);rotate_left;(simp only [Act.put,ls_,lz_,lc_,i64_w,i32_w];rfl)
                refine pu_ (v := ?_) (a' := ?_) 8 92 (bz 38 511) rfl rfl HT_ (by kernel_rfl) (fun _ _ _ h => h) (by rfl) ?_ ?_ ?_
                rotate_left;(intro w';go_simp;with_reducible rfl);rotate_left;(simp only [Act.put,ls_,lz_,lc_,i64_w,i32_w];rfl)
                refine pu_ (v := ?_) (a' := ?_) 9 93 (bz 38 1023) rfl rfl HT_ (by kernel_rfl) (fun _ _ _ h => h) (by rfl) ?_ ?_ ?_
                rotate_left;(intro w';go_simp;with_reducible rfl);rotate_left;(simp only [Act.put,ls_,lz_,lc_,i64_w,i32_w];rfl)
                refine pu_ (v := ?_) (a' := ?_) 10 94 (bz 38 2047) rfl rfl HT_ (by kernel_rfl) (fun _ _ _ h => h) (by rfl) ?_ ?_ ?_
                rotate_left;(intro w';go_simp;with_reducible rfl);rotate_left;(simp only [Act.put,ls_,lz_,lc_,i64_w,i32_w];rfl)
                refine pu_ (v := ?_) (a' := ?_) 11 95 (bz 38 4095) rfl rfl HT_ (by kernel_rfl) (fun _ _ _ h => h) (by rfl) ?_ ?_ ?_
                rotate_left;(intro w';go_simp;with_reducible rfl);rotate_left;(simp only [Act.put,ls_,lz_,lc_,i64_w,i32_w];rfl)
                refine ta_ (v := ?_) (a' := ?_) 12 96 (bz 38 8191) rfl rfl HT_ HW_ (by kernel_rfl) (fun _ _ _ h => h) (by rfl) ?_ hHeld ?_ ?_
                rotate_left
                ·rintro w' ⟨s0,s1,s2,s3⟩
                 go_simp
                 with_reducible rfl
                rotate_left
                ·simp only [Act.put,ls_,lz_,lc_,i64_w,i32_w]
                 rfl
                refine ta_ (v := ?_) (a' := ?_) 13 97 (bz 38 16383) rfl rfl HT_ HW_ (by kernel_rfl) (fun _ _ _ h => h) (by rfl) ?_ hHeld ?_ ?_
                rotate_left
                ·rintro w' ⟨s0,s1,s2,s3⟩
                 go_simp
                 with_reducible rfl
                rotate_left
                ·simp only [Act.put,ls_,lz_,lc_,i64_w,i32_w]
                 rfl
                refine on_ (N := some 98) 14 (bz 38 32767) rfl rfl HT_ (by kernel_rfl) (by decide) (fun K hK => ?_)
                refine goes_ Tryd.func20 (by kernel_rfl) rfl #[.agg #[.int .i64 ((rd_T25 t455 t475).f0),.int .i64 ((rd_T25 t455 t475).f1)],.agg #[.int .i64 a1_0,.int .i64 a1_1]] (by rfl) rfl rfl (by (try simp only [lm_,lq_,lx_]);first|done|rfl|(simp only [ld_,lt_];rfl)) ?_
                with_reducible refine (neumeref02_Cmp.calls k3 ((rd_T25 t455 t475).f0) ((rd_T25 t455 t475).f1) a1_0 a1_1 t478 _ A66.out).mono ?_
                rintro e w79 ⟨rfl,hb⟩
                have HS2_ := (hb.cell (wb_ _ _ (hHeld.2.2.1))).trans (hHeld.2.2.1)
                have HS3_ := (hb.cell (wb_ _ _ (hHeld.2.2.2))).trans (hHeld.2.2.2)
                refine ⟨_,rfl,?_⟩
                replace HO_5 := sd_ (Kd.R_below (by (with_reducible repeat (first|apply Kd.R_alloc|apply Kd.R_drewN|apply Kd.R_drew));exact HO_5.out) hb)
                replace BK453 := kb_ BK453 hb
                replace BK454 := kb_ BK454 hb
                replace BK462 := kb_ BK462 hb
                replace BK469 := kb_ BK469 hb
                replace HB := hb_ HB (e_ GE453 (e_ GE454 (e_ GE462 (e_ GE469 e0_)))) hb
                (try clear hb)
                (try clear hb2)
                (try clear hk)
                (try clear hi)
                refine hK.out _ _ ⟨(kc_ BK454.out 0).trans rfl,(kc_ BK454.out 1).trans rfl,HS2_,HS3_⟩ (fun hHeld => ?_)
                clear hK K
                refine norm_ (a' := ?_) ?_ ?_
                rotate_left
                ·show Act.put _ (some 98) _ = _
                 simp only [Act.put,ls_,lz_,lc_,i64_w,i32_w]
                 rfl
                refine pu_ (v := ?_) (a' := ?_) 15 99 (bz 38 65535) rfl rfl HT_ (by kernel_rfl) (fun _ _ _ h => h) (by rfl) ?_ ?_ ?_
                rotate_left;(intro w';go_simp;with_reducible rfl);rotate_left;(simp only [Act.put,ls_,lz_,lc_,i64_w,i32_w];rfl)
                refine pu_ (v := ?_) (a' := ?_) 16 100 (bz 38 131071) rfl rfl HT_ (by kernel_rfl) (fun _ _ _ h => h) (by rfl) ?_ ?_ ?_
                rotate_left;(intro w';go_simp;with_reducible rfl);rotate_left;(simp only [Act.put,ls_,lz_,lc_,i64_w,i32_w];rfl)
                refine pu_ (v := ?_) (a' := ?_) 17 101 (bz 38 262143) rfl rfl HT_ (by kernel_rfl) (fun _ _ _ h => h) (by rfl) ?_ ?_ ?_
                rotate_left;(intro w';go_simp;with_reducible rfl);rotate_left;(simp only [Act.put,ls_,lz_,lc_,i64_w,i32_w];rfl)
                refine pu_ (v := ?_) (a' := ?_) 18 102 (bz 38 524287) rfl rfl HT_ (by kernel_rfl) (fun _ _ _ h => h) (by rfl) ?_ ?_ ?_
                rotate_left;(intro w';go_simp;with_reducible rfl);rotate_left;(simp only [Act.put,ls_,lz_,lc_,i64_w,i32_w];rfl)
                refine pu_ (v := ?_) (a' := ?_) 19 103 (bz 38 1048575) rfl rfl HT_ (by kernel_rfl) (fun _ _ _ h => h) (by rfl) ?_ ?_ ?_
                rotate_left;(intro w';go_simp;with_reducible rfl);rotate_left;(simp only [Act.put,ls_,lz_,lc_,i64_w,i32_w];rfl)
                refine pu_ (v := ?_) (a' := ?_) 20 104 (bz 38 2097151) rfl rfl HT_ (by kernel_rfl) (fun _ _ _ h => h) (by rfl) ?_ ?_ ?_
                rotate_left;(intro w';go_simp;with_reducible rfl);rotate_left;(simp only [Act.put,ls_,lz_,lc_,i64_w,i32_w];rfl)
                refine pu_ (v := ?_) (a' := ?_) 21 105 (bz 38 4194303) rfl rfl HT_ (by kernel_rfl) (fun _ _ _ h => h) (by rfl) ?_ ?_ ?_
                rotate_left;(intro w';go_simp;with_reducible rfl);rotate_left;(simp only [Act.put,ls_,lz_,lc_,i64_w,i32_w];rfl)
                refine pu_ (v := ?_) (a' := ?_) 22 106 (bz 38 8388607) rfl rfl HT_ (by kernel_rfl) (fun _ _ _ h => h) (by rfl) ?_ ?_ ?_
                rotate_left;(intro w';go_simp;with_reducible rfl);rotate_left;(simp only [Act.put,ls_,lz_,lc_,i64_w,i32_w];rfl)
                refine pu_ (v := ?_) (a' := ?_) 23 107 (bz 38 16777215) rfl rfl HT_ (by kernel_rfl) (fun _ _ _ h => h) (by rfl) ?_ ?_ ?_
                rotate_left;(intro w';go_simp;with_reducible rfl);rotate_left;(simp only [Act.put,ls_,lz_,lc_,i64_w,i32_w];rfl)
                refine pz_ (a' := ?_) 24 108 (bz 38 33554431) rfl rfl HT_ (by kernel_rfl) (fun _ _ _ h => h) (by rfl) ?_ ?_
                rotate_left
                ·simp only [Act.put,ls_,lz_,lc_,i64_w,i32_w]
                 rfl
                refine pz_ (a' := ?_) 25 109 (bz 38 67108863) rfl rfl HT_ (by kernel_rfl) (fun _ _ _ h => h) (by rfl) ?_ ?_
                rotate_left
                ·simp only [Act.put,ls_,lz_,lc_,i64_w,i32_w]
                 rfl
                refine pz_ (a' := ?_) 26 110 (bz 38 134217727) rfl rfl HT_ (by kernel_rfl) (fun _ _ _ h => h) (by rfl) ?_ ?_
                rotate_left
                ·simp only [Act.put,ls_,lz_,lc_,i64_w,i32_w]
                 rfl
                refine pz_ (a' := ?_) 27 111 (bz 38 268435455) rfl rfl HT_ (by kernel_rfl) (fun _ _ _ h => h) (by rfl) ?_ ?_
                rotate_left
                ·simp only [Act.put,ls_,lz_,lc_,i64_w,i32_w]
                 rfl
                refine pz_ (a' := ?_) 28 112 (bz 38 536870911) rfl rfl HT_ (by kernel_rfl) (fun _ _ _ h => h) (by rfl) ?_ ?_
                rotate_left
                ·simp only [Act.put,ls_,lz_,lc_,i64_w,i32_w]
                 rfl
                refine pz_ (a' := ?_) 29 113 (bz 38 1073741823) rfl rfl HT_ (by kernel_rfl) (fun _ _ _ h => h) (by rfl) ?_ ?_
                rotate_left
                ·simp only [Act.put,ls_,lz_,lc_,i64_w,i32_w]
                 rfl
                refine pz_ (a' := ?_) 30 114 (bz 38 2147483647) rfl rfl HT_ (by kernel_rfl) (fun _ _ _ h => h) (by rfl) ?_ ?_
                rotate_left
                ·simp only [Act.put,ls_,lz_,lc_,i64_w,i32_w]
                 rfl
                refine pz_ (a' := ?_) 31 115 (bz 38 4294967295) rfl rfl HT_ (by kernel_rfl) (fun _ _ _ h => h) (by rfl) ?_ ?_
                rotate_left
                ·simp only [Act.put,ls_,lz_,lc_,i64_w,i32_w]
                 rfl
                refine pu_ (v := ?_) (a' := ?_) 32 116 (bz 38 8589934591) rfl rfl HT_ (by kernel_rfl) (fun _ _ _ h => h) (by rfl) ?_ ?_ ?_
                rotate_left;(intro w';go_simp;with_reducible rfl);rotate_left;(simp only [Act.put,ls_,lz_,lc_,i64_w,i32_w];rfl)
                refine pu_ (v := ?_) (a' := ?_) 33 117 (bz 38 17179869183) rfl rfl HT_ (by kernel_rfl) (fun _ _ _ h => h) (by rfl) ?_ ?_ ?_
                rotate_left;(intro w';go_simp;with_reducible rfl);rotate_left;(simp only [Act.put,ls_,lz_,lc_,i64_w,i32_w];rfl)
                refine pu_ (v := ?_) (a' := ?_) 34 118 (bz 38 34359738367) rfl rfl HT_ (by kernel_rfl) (fun _ _ _ h => h) (by rfl) ?_ ?_ ?_
                rotate_left;(intro w';go_simp;with_reducible rfl);rotate_left;(simp only [Act.put,ls_,lz_,lc_,i64_w,i32_w];rfl)
                refine on_ (N := some 119) 35 (bz 38 68719476735) rfl rfl HT_ (by kernel_rfl) (by decide) (fun K hK => ?_)
                refine goes_ Tryd.func11 (by kernel_rfl) rfl #[] (by rfl) rfl rfl (by (try simp only [lm_,lq_,lx_]);first|done|rfl|(simp only [ld_,lt_];rfl)) ?_
                with_reducible refine (neumelaw07_heads.calls k3  t479 _ A69.out).mono ?_
                rintro e w80 ⟨rfl,hb⟩
                have HS2_ := (hb.cell (wb_ _ _ (hHeld.2.2.1))).trans (hHeld.2.2.1)
                have HS3_ := (hb.cell (wb_ _ _ (hHeld.2.2.2))).trans (hHeld.2.2.2)
                refine ⟨_,rfl,?_⟩
                replace HO_5 := sd_ (Kd.R_below (by (with_reducible repeat (first|apply Kd.R_alloc|apply Kd.R_drewN|apply Kd.R_drew));exact HO_5.out) hb)
                replace BK453 := kb_ BK453 hb
                replace BK454 := kb_ BK454 hb
                replace BK462 := kb_ BK462 hb
                replace BK469 := kb_ BK469 hb
                replace HB := hb_ HB (e_ GE453 (e_ GE454 (e_ GE462 (e_ GE469 e0_)))) hb
                (try clear hb)
                (try clear hb2)
                (try clear hk)
                (try clear hi)
                refine hK.out _ _ ⟨(kc_ BK454.out 0).trans rfl,(kc_ BK454.out 1).trans rfl,HS2_,HS3_⟩ (fun hHeld => ?_)
                clear hK K
                refine norm_ (a' := ?_) ?_ ?_
                rotate_left
                ·show Act.put _ (some 119) _ = _
                 simp only [Act.put,ls_,lz_,lc_,i64_w,i32_w]
                 rfl
                refine pu_ (v := ?_) (a' := ?_) 36 120 (bz 38 137438953471) rfl rfl HT_ (by kernel_rfl) (fun _ _ _ h => h) (by rfl) ?_ ?_ ?_
                rotate_left;(intro w';go_simp;with_reducible rfl);rotate_left;(simp only [Act.put,ls_,lz_,lc_,i64_w,i32_w];rfl)
                refine pu_ (v := ?_) (a' := ?_) 37 4 (bz 38 274877906943) rfl rfl HT_ (by kernel_rfl) (fun _ _ _ h => h) (by rfl) ?_ ?_ ?_
                rotate_left;(intro w';go_simp;with_reducible rfl);rotate_left;(simp only [Act.put,ls_,lz_,lc_,i64_w,i32_w];rfl)
                refine done_ (done_of HT_.out (by kernel_rfl)) ?_
                try go_wp2
                go_ret
                exact ⟨by first|rfl|(simp [errW_none,errW_some] <;> rfl)|(simp [*,errW_none,errW_some] <;> rfl),by repeat (first|(with_reducible first|exact HB.out|apply ba_|apply pd_|apply d1_|refine bs_ ?_ GE453.out|refine bs_ ?_ GE454.out|refine bs_ ?_ GE462.out|refine bs_ ?_ GE469.out)|exact HB.out)⟩
               ·rw [if_neg c68] at H
                have c68b0 : (t475 == (wrap64 ((t455.length : Int) - 1))) = false := beq_eq_false_iff_ne.mpr c68
                have c68b1 : (t475 != (wrap64 ((t455.length : Int) - 1))) = true := bne_iff_ne.mpr c68
                obtain ⟨ji81,hji81⟩ : ∃ j_ : Int,(wrap64 (t475 + 1)) = j_ := ⟨_,rfl⟩
                replace H : (if 0 ≤ (ji81) then (if (ji81) < (t455.length : Int) then ((neumeref02_Cmp.f k3 a1_0 a1_1 ((rd_T25 t455 (ji81)).f0) ((rd_T25 t455 (ji81)).f1)).bind fun t481 => (if t481 < 0 then ((neumelaw07_heads.f k3).bind fun t482 => (some t482)) else (some false))) else (none)) else (none)) = some r := by first|(rw [hji81] at H;exact H)|(simp only [hji81] at H ⊢;exact H)
                (try rw [hji81] at A61)
                (try rw [hji81] at A66)
                have hji81w : (IntKind.i64.wrap (t475 + 1)) = ji81 := (i64_w _).trans hji81
                by_cases c82 : 0 ≤ (ji81)
                ·rw [if_pos c82] at H
                 have c82b0 : decide (0 ≤ (ji81)) = true := dt_ c82
                 clear c82
                 by_cases c83 : (ji81) < (t455.length : Int)
                 ·rw [if_pos c83] at H
                  have c83b0 : decide ((ji81) < (t455.length : Int)) = true := dt_ c83
                  clear c83
                  replace H := ob_ H
                  obtain ⟨t481,A840,H⟩ := H
                  replace H : (if t481 < 0 then ((neumelaw07_heads.f k3).bind fun t482 => (some t482)) else (some false)) = some r := H
                  have A84 := sd_ A840
                  clear A840
                  by_cases c85 : t481 < 0
                  ·rw [if_pos c85] at H
                   have c85b0 : decide (t481 < 0) = true := dt_ c85
                   clear c85
                   replace H := ob_ H
                   obtain ⟨t482,A860,H⟩ := H
                   replace H : (some t482) = some r := H
                   have A86 := sd_ A860
                   clear A860
                   obtain rfl := Option.some.inj H
                   have hnb87 := NB453_454.out
                   have hnc87 := NB454_453.out
                   have hnb88 := NB453_462.out
                   have hnc88 := NB462_453.out
                   have hnb89 := NB453_469.out
                   have hnc89 := NB469_453.out
                   have hcz90_0 : wr.cell? ⟨gb453,0,none⟩ = some (.int .i64 a0_0) := (kc_ BK453.out 0).trans rfl
                   have hcz90_1 : wr.cell? ⟨gb453,1,none⟩ = some (.int .i64 a0_1) := (kc_ BK453.out 1).trans rfl
                   have hfz90_0 := kf_ BK453.out 0
                   have hfz90_1 := kf_ BK453.out 1
                   have hnb91 := NB454_462.out
                   have hnc91 := NB462_454.out
                   have hnb92 := NB454_469.out
                   have hnc92 := NB469_454.out
                   have hcz93_0 : wr.cell? ⟨gb454,0,none⟩ = some (.int .i64 a1_0) := (kc_ BK454.out 0).trans rfl
                   have hcz93_1 : wr.cell? ⟨gb454,1,none⟩ = some (.int .i64 a1_1) := (kc_ BK454.out 1).trans rfl
                   have hfz93_0 := kf_ BK454.out 0
                   have hfz93_1 := kf_ BK454.out 1
                   try go_wp2_with (first|((with_reducible refine gate_callee (f := 19) rfl ?_);refine goesL_ (some 78) rfl rfl Tryd.func19 (by kernel_rfl) rfl #[.agg #[.int .i64 a0_0,.int .i64 a0_1],.agg #[.int .i64 a1_0,.int .i64 a1_1]] rfl (by (try simp only [lm_,lq_,lx_]);first|done|rfl|(simp only [ld_,lt_];rfl)) ?_;(with_reducible refine (dur_Beat.calls k3 a0_0 a0_1 a1_0 a1_1 t475 t476 _ A61.out).mono ?_);rintro e w94 ⟨rfl,hb⟩;refine ⟨_,rfl,?_⟩;replace HO_5 := sd_ (Kd.R_below (by (with_reducible repeat (first|apply Kd.R_alloc|apply Kd.R_drewN|apply Kd.R_drew));exact HO_5.out) hb);replace BK453 := kb_ BK453 hb;replace BK454 := kb_ BK454 hb;replace BK462 := kb_ BK462 hb;replace BK469 := kb_ BK469 hb;replace HB := hb_ HB (e_ GE453 (e_ GE454 (e_ GE462 (e_ GE469 e0_)))) hb;(try clear hb);(try clear hb2);(try clear hk);(try clear hi)))
                   replace HO_5 := sd_ (Kd.R_drew HO_5.out)
                   replace BK453 := sd_ (kd_ BK453.out)
                   replace BK454 := sd_ (kd_ BK454.out)
                   replace BK462 := sd_ (kd_ BK462.out)
                   replace BK469 := sd_ (kd_ BK469.out)
                   replace HB := sd_ (d1_ HB.out)
                   have p477 : 0 ≤ (t475 : Int) := od_ (by first|(with_reducible assumption)|assumption)
                   have q477 : t475 < (t455.length : Int) := od_ (by first|(with_reducible assumption)|assumption)
                   obtain ⟨ad477,e477,hx477_0,hx477_1⟩ := at_T25 (Kd.R_reads' HO_5.out).2.2 t475 p477 q477
                   cases e477
                   replace p477 := eq_true p477
                   replace q477 := eq_true q477
                   have p480 : 0 ≤ ((ji81) : Int) := od_ (by first|(with_reducible assumption)|assumption)
                   have q480 : (ji81) < (t455.length : Int) := od_ (by first|(with_reducible assumption)|assumption)
                   obtain ⟨ad480,e480,hx480_0,hx480_1⟩ := at_T25 (Kd.R_reads' HO_5.out).2.2 (ji81) p480 q480
                   obtain rfl : ad477 = ad480 := (by injection e480)
                   replace p480 := eq_true p480
                   replace q480 := eq_true q480
                   refine start_ (n := 38) (S := fun w' => w'.cell? ⟨gb454,0,none⟩ = some (.int .i64 a1_0) ∧ w'.cell? ⟨gb454,1,none⟩ = some (.int .i64 a1_1) ∧ w'.cell? (ad477.add ((t475).toNat * 2)) = some (.int .i64 ((rd_T25 t455 t475).f0)) ∧ w'.cell? ⟨(ad477.add ((t475).toNat * 2)).block,(ad477.add ((t475).toNat * 2)).off + 1,none⟩ = some (.int .i64 ((rd_T25 t455 t475).f1)) ∧ w'.cell? (ad477.add (((ji81)).toNat * 2)) = some (.int .i64 ((rd_T25 t455 (ji81)).f0)) ∧ w'.cell? ⟨(ad477.add (((ji81)).toNat * 2)).block,(ad477.add (((ji81)).toNat * 2)).off + 1,none⟩ = some (.int .i64 ((rd_T25 t455 (ji81)).f1))) (ds := []) (Array.replicate 38 false) (by kernel_rfl) rfl rfl ⟨(kc_ BK454.out 0).trans rfl,(kc_ BK454.out 1).trans rfl,hx477_0,hx477_1,hx480_0,hx480_1⟩ (fun hHeld => ?_);refine with_tabW neumelaw07_DurBeats.tab17 neumelaw07_DurBeats.bits17 (fun HT_ HW_ => ?_)
                   generalize w94.drew = w95 at HO_5 BK453 BK454 BK462 BK469 HB hx477_0 hx477_1 hx480_0 hx480_1 hHeld ⊢
                   refine pu_ (v := ?_) (a' := ?_) 0 84 (bz 38 1) rfl rfl HT_ (by kernel_rfl) (fun _ _ _ h => h) (by rfl) ?_ ?_ ?_
                   rotate_left;(intro w';go_simp;with_reducible rfl);rotate_left;(simp only [Act.put,ls_,lz_,lc_,i64_w,i32_w];rfl)
                   refine pu_ (v := ?_) (a' := ?_) 1 85 (bz 38 3) rfl rfl HT_ (by kernel_rfl) (fun _ _ _ h => h) (by rfl) ?_ ?_ ?_
                   rotate_left;(intro w';go_simp;with_reducible rfl);rotate_left;(simp only [Act.put,ls_,lz_,lc_,i64_w,i32_w];rfl)
                   refine pu_ (v := ?_) (a' := ?_) 2 86 (bz 38 7) rfl rfl HT_ (by kernel_rfl) (fun _ _ _ h => h) (by rfl) ?_ ?_ ?_
                   rotate_left;(intro w';go_simp;with_reducible rfl);rotate_left;(simp only [Act.put,ls_,lz_,lc_,i64_w,i32_w];rfl)
                   refine pu_ (v := ?_) (a' := ?_) 3 87 (bz 38 15) rfl rfl HT_ (by kernel_rfl) (fun _ _ _ h => h) (by rfl) ?_ ?_ ?_
                   rotate_left;(intro w';go_simp;with_reducible rfl);rotate_left;(simp only [Act.put,ls_,lz_,lc_,i64_w,i32_w];rfl)
                   refine pu_ (v := ?_) (a' := ?_) 4 88 (bz 38 31) rfl rfl HT_ (by kernel_rfl) (fun _ _ _ h => h) (by rfl) ?_ ?_ ?_
                   rotate_left;(intro w';go_simp;with_reducible rfl);rotate_left;(simp only [Act.put,ls_,lz_,lc_,i64_w,i32_w];rfl)
                   refine pu_ (v := ?_) (a' := ?_) 5 89 (bz 38 63) rfl rfl HT_ (by kernel_rfl) (fun _ _ _ h => h) (by rfl) ?_ ?_ ?_
                   rotate_left;(intro w';go_simp;with_reducible rfl);rotate_left;(simp only [Act.put,ls_,lz_,lc_,i64_w,i32_w];rfl)
                   refine pu_ (v := ?_) (a' := ?_) 6 90 (bz 38 127) rfl rfl HT_ (by kernel_rfl) (fun _ _ _ h => h) (by rfl) ?_ ?_ ?_
                   rotate_left;(intro w';go_simp;with_reducible rfl);rotate_left;(simp only [Act.put,ls_,lz_,lc_,i64_w,i32_w];rfl)
                   refine pu_ (v := ?_) (a' := ?_) 7 91 (bz 38 255) rfl rfl HT_ (by kernel_rfl) (fun _ _ _ h => h) (by rfl) ?_ ?_ ?_
                   rotate_left;(intro w';go_simp;with_reducible rfl);rotate_left;(simp only [Act.put,ls_,lz_,lc_,i64_w,i32_w];rfl)
                   refine pu_ (v := ?_) (a' := ?_) 8 92 (bz 38 511) rfl rfl HT_ (by kernel_rfl) (fun _ _ _ h => h) (by rfl) ?_ ?_ ?_
                   rotate_left;(intro w';go_simp;with_reducible rfl);rotate_left;(simp only [Act.put,ls_,lz_,lc_,i64_w,i32_w];rfl)
                   refine pu_ (v := ?_) (a' := ?_) 9 93 (bz 38 1023) rfl rfl HT_ (by kernel_rfl) (fun _ _ _ h => h) (by rfl) ?_ ?_ ?_
                   rotate_left;(intro w';go_simp;with_reducible rfl);rotate_left;(simp only [Act.put,ls_,lz_,lc_,i64_w,i32_w];rfl)
                   refine pu_ (v := ?_) (a' := ?_) 10 94 (bz 38 2047) rfl rfl HT_ (by kernel_rfl) (fun _ _ _ h => h) (by rfl) ?_ ?_ ?_
                   rotate_left;(intro w';go_simp;with_reducible rfl);rotate_left;(simp only [Act.put,ls_,lz_,lc_,i64_w,i32_w];rfl)
                   refine pu_ (v := ?_) (a' := ?_) 11 95 (bz 38 4095) rfl rfl HT_ (by kernel_rfl) (fun _ _ _ h => h) (by rfl) ?_ ?_ ?_
                   rotate_left;(intro w';go_simp;with_reducible rfl);rotate_left;(simp only [Act.put,ls_,lz_,lc_,i64_w,i32_w];rfl)
                   refine ta_ (v := ?_) (a' := ?_) 12 96 (bz 38 8191) rfl rfl HT_ HW_ (by kernel_rfl) (fun _ _ _ h => h) (by rfl) ?_ hHeld ?_ ?_
                   rotate_left
                   ·rintro w' ⟨s0,s1,s2,s3,s4,s5⟩
                    go_simp
                    with_reducible rfl
                   rotate_left
                   ·simp only [Act.put,ls_,lz_,lc_,i64_w,i32_w]
                    rfl
                   refine ta_ (v := ?_) (a' := ?_) 13 97 (bz 38 16383) rfl rfl HT_ HW_ (by kernel_rfl) (fun _ _ _ h => h) (by rfl) ?_ hHeld ?_ ?_
                   rotate_left
                   ·rintro w' ⟨s0,s1,s2,s3,s4,s5⟩
                    go_simp
                    with_reducible rfl
                   rotate_left
                   ·simp only [Act.put,ls_,lz_,lc_,i64_w,i32_w]
                    rfl
                   refine on_ (N := some 98) 14 (bz 38 32767) rfl rfl HT_ (by kernel_rfl) (by decide) (fun K hK => ?_)
                   refine goes_ Tryd.func20 (by kernel_rfl) rfl #[.agg #[.int .i64 ((rd_T25 t455 t475).f0),.int .i64 ((rd_T25 t455 t475).f1)],.agg #[.int .i64 a1_0,.int .i64 a1_1]] (by rfl) rfl rfl (by (try simp only [lm_,lq_,lx_]);first|done|rfl|(simp only [ld_,lt_];rfl)) ?_
                   with_reducible refine (neumeref02_Cmp.calls k3 ((rd_T25 t455 t475).f0) ((rd_T25 t455 t475).f1) a1_0 a1_1 t478 _ A66.out).mono ?_
                   rintro e w96 ⟨rfl,hb⟩
                   have HS2_ := (hb.cell (wb_ _ _ (hHeld.2.2.1))).trans (hHeld.2.2.1)
                   have HS3_ := (hb.cell (wb_ _ _ (hHeld.2.2.2.1))).trans (hHeld.2.2.2.1)
                   have HS4_ := (hb.cell (wb_ _ _ (hHeld.2.2.2.2.1))).trans (hHeld.2.2.2.2.1)
                   have HS5_ := (hb.cell (wb_ _ _ (hHeld.2.2.2.2.2))).trans (hHeld.2.2.2.2.2)
                   refine ⟨_,rfl,?_⟩
                   replace HO_5 := sd_ (Kd.R_below (by (with_reducible repeat (first|apply Kd.R_alloc|apply Kd.R_drewN|apply Kd.R_drew));exact HO_5.out) hb)
                   replace BK453 := kb_ BK453 hb
                   replace BK454 := kb_ BK454 hb
                   replace BK462 := kb_ BK462 hb
                   replace BK469 := kb_ BK469 hb
                   replace HB := hb_ HB (e_ GE453 (e_ GE454 (e_ GE462 (e_ GE469 e0_)))) hb
                   (try clear hb)
                   (try clear hb2)
                   (try clear hk)
                   (try clear hi)
                   refine hK.out _ _ ⟨(kc_ BK454.out 0).trans rfl,(kc_ BK454.out 1).trans rfl,HS2_,HS3_,HS4_,HS5_⟩ (fun hHeld => ?_)
                   clear hK K
                   refine norm_ (a' := ?_) ?_ ?_
                   rotate_left
                   ·show Act.put _ (some 98) _ = _
                    simp only [Act.put,ls_,lz_,lc_,i64_w,i32_w]
                    rfl
                   refine pu_ (v := ?_) (a' := ?_) 15 99 (bz 38 65535) rfl rfl HT_ (by kernel_rfl) (fun _ _ _ h => h) (by rfl) ?_ ?_ ?_
                   rotate_left;(intro w';go_simp;with_reducible rfl);rotate_left;(simp only [Act.put,ls_,lz_,lc_,i64_w,i32_w];rfl)
                   refine pu_ (v := ?_) (a' := ?_) 16 100 (bz 38 131071) rfl rfl HT_ (by kernel_rfl) (fun _ _ _ h => h) (by rfl) ?_ ?_ ?_
                   rotate_left;(intro w';go_simp;with_reducible rfl);rotate_left;(simp only [Act.put,ls_,lz_,lc_,i64_w,i32_w];rfl)
                   refine pu_ (v := ?_) (a' := ?_) 17 101 (bz 38 262143) rfl rfl HT_ (by kernel_rfl) (fun _ _ _ h => h) (by rfl) ?_ ?_ ?_
                   rotate_left;(intro w';go_simp;with_reducible rfl);rotate_left;(simp only [Act.put,ls_,lz_,lc_,i64_w,i32_w];rfl)
                   refine pu_ (v := ?_) (a' := ?_) 18 102 (bz 38 524287) rfl rfl HT_ (by kernel_rfl) (fun _ _ _ h => h) (by rfl) ?_ ?_ ?_
                   rotate_left;(intro w';go_simp;with_reducible rfl);rotate_left;(simp only [Act.put,ls_,lz_,lc_,i64_w,i32_w];rfl)
                   refine pu_ (v := ?_) (a' := ?_) 19 103 (bz 38 1048575) rfl rfl HT_ (by kernel_rfl) (fun _ _ _ h => h) (by rfl) ?_ ?_ ?_
                   rotate_left;(intro w';go_simp;with_reducible rfl);rotate_left;(simp only [Act.put,ls_,lz_,lc_,i64_w,i32_w];rfl)
                   refine pu_ (v := ?_) (a' := ?_) 20 104 (bz 38 2097151) rfl rfl HT_ (by kernel_rfl) (fun _ _ _ h => h) (by rfl) ?_ ?_ ?_
                   rotate_left;(intro w';go_simp;with_reducible rfl);rotate_left;(simp only [Act.put,ls_,lz_,lc_,i64_w,i32_w];rfl)
                   refine pu_ (v := ?_) (a' := ?_) 21 105 (bz 38 4194303) rfl rfl HT_ (by kernel_rfl) (fun _ _ _ h => h) (by rfl) ?_ ?_ ?_
                   rotate_left;(intro w';go_simp;with_reducible rfl);rotate_left;(simp only [Act.put,ls_,lz_,lc_,i64_w,i32_w];rfl)
                   refine pu_ (v := ?_) (a' := ?_) 22 106 (bz 38 8388607) rfl rfl HT_ (by kernel_rfl) (fun _ _ _ h => h) (by rfl) ?_ ?_ ?_
                   rotate_left;(intro w';go_simp;with_reducible rfl);rotate_left;(simp only [Act.put,ls_,lz_,lc_,i64_w,i32_w];rfl)
                   refine pu_ (v := ?_) (a' := ?_) 23 107 (bz 38 16777215) rfl rfl HT_ (by kernel_rfl) (fun _ _ _ h => h) (by rfl) ?_ ?_ ?_
                   rotate_left;(intro w';go_simp;with_reducible rfl);rotate_left;(simp only [Act.put,ls_,lz_,lc_,i64_w,i32_w];rfl)
                   refine pu_ (v := ?_) (a' := ?_) 25 109 (bz 38 50331647) rfl rfl HT_ (by kernel_rfl) (fun _ _ _ h => h) (by rfl) ?_ ?_ ?_
                   rotate_left;(intro w';go_simp;with_reducible rfl);rotate_left;(simp only [Act.put,ls_,lz_,lc_,i64_w,i32_w];rfl)
                   refine pu_ (v := ?_) (a' := ?_) 26 110 (bz 38 117440511) rfl rfl HT_ (by kernel_rfl) (fun _ _ _ h => h) (by rfl) ?_ ?_ ?_
                   rotate_left;(intro w';go_simp;with_reducible rfl);rotate_left;(simp only [Act.put,ls_,lz_,lc_,i64_w,i32_w];rfl)
                   refine pu_ (v := ?_) (a' := ?_) 27 111 (bz 38 251658239) rfl rfl HT_ (by kernel_rfl) (fun _ _ _ h => h) (by rfl) ?_ ?_ ?_
                   rotate_left;(intro w';go_simp;with_reducible rfl);rotate_left;(simp only [Act.put,ls_,lz_,lc_,i64_w,i32_w];rfl)
                   refine pu_ (v := ?_) (a' := ?_) 28 112 (bz 38 520093695) rfl rfl HT_ (by kernel_rfl) (fun _ _ _ h => h) (by rfl) ?_ ?_ ?_
                   rotate_left;(intro w';go_simp;with_reducible rfl);rotate_left;(simp only [Act.put,ls_,lz_,lc_,i64_w,i32_w];rfl)
                   refine ta_ (v := ?_) (a' := ?_) 24 108 (bz 38 536870911) rfl rfl HT_ HW_ (by kernel_rfl) (fun _ _ _ h => h) (by rfl) ?_ hHeld ?_ ?_
                   rotate_left
                   ·rintro w' ⟨s0,s1,s2,s3,s4,s5⟩
                    go_simp
                    with_reducible rfl
                   rotate_left
                   ·simp only [Act.put,ls_,lz_,lc_,i64_w,i32_w]
                    rfl
                   refine ta_ (v := ?_) (a' := ?_) 29 113 (bz 38 1073741823) rfl rfl HT_ HW_ (by kernel_rfl) (fun _ _ _ h => h) (by rfl) ?_ hHeld ?_ ?_
                   rotate_left
                   ·rintro w' ⟨s0,s1,s2,s3,s4,s5⟩
                    go_simp
                    with_reducible rfl
                   rotate_left
                   ·simp only [Act.put,ls_,lz_,lc_,i64_w,i32_w]
                    rfl
                   refine on_ (N := some 114) 30 (bz 38 2147483647) rfl rfl HT_ (by kernel_rfl) (by decide) (fun K hK => ?_)
                   refine goes_ Tryd.func20 (by kernel_rfl) rfl #[.agg #[.int .i64 a1_0,.int .i64 a1_1],.agg #[.int .i64 ((rd_T25 t455 (ji81)).f0),.int .i64 ((rd_T25 t455 (ji81)).f1)]] (by rfl) rfl rfl (by (try simp only [lm_,lq_,lx_]);first|done|(simp only [hji81];rfl)|rfl|(simp only [ld_,lt_];rfl)) ?_
                   with_reducible refine (neumeref02_Cmp.calls k3 a1_0 a1_1 ((rd_T25 t455 (ji81)).f0) ((rd_T25 t455 (ji81)).f1) t481 _ A84.out).mono ?_
                   rintro e w97 ⟨rfl,hb⟩
                   have HS2_ := (hb.cell (wb_ _ _ (hHeld.2.2.1))).trans (hHeld.2.2.1)
                   have HS3_ := (hb.cell (wb_ _ _ (hHeld.2.2.2.1))).trans (hHeld.2.2.2.1)
                   have HS4_ := (hb.cell (wb_ _ _ (hHeld.2.2.2.2.1))).trans (hHeld.2.2.2.2.1)
                   have HS5_ := (hb.cell (wb_ _ _ (hHeld.2.2.2.2.2))).trans (hHeld.2.2.2.2.2)
                   refine ⟨_,rfl,?_⟩
                   replace HO_5 := sd_ (Kd.R_below (by (with_reducible repeat (first|apply Kd.R_alloc|apply Kd.R_drewN|apply Kd.R_drew));exact HO_5.out) hb)
                   replace BK453 := kb_ BK453 hb
                   replace BK454 := kb_ BK454 hb
                   replace BK462 := kb_ BK462 hb
                   replace BK469 := kb_ BK469 hb
                   replace HB := hb_ HB (e_ GE453 (e_ GE454 (e_ GE462 (e_ GE469 e0_)))) hb
                   (try clear hb)
                   (try clear hb2)
                   (try clear hk)
                   (try clear hi)
                   refine hK.out _ _ ⟨(kc_ BK454.out 0).trans rfl,(kc_ BK454.out 1).trans rfl,HS2_,HS3_,HS4_,HS5_⟩ (fun hHeld => ?_)
                   clear hK K
                   refine norm_ (a' := ?_) ?_ ?_
                   rotate_left
                   ·show Act.put _ (some 114) _ = _
                    simp only [Act.put,ls_,lz_,lc_,i64_w,i32_w]
                    rfl
                   refine pu_ (v := ?_) (a' := ?_) 31 115 (bz 38 4294967295) rfl rfl HT_ (by kernel_rfl) (fun _ _ _ h => h) (by rfl) ?_ ?_ ?_
                   rotate_left;(intro w';go_simp;with_reducible rfl);rotate_left;(simp only [Act.put,ls_,lz_,lc_,i64_w,i32_w];rfl)
                   refine pu_ (v := ?_) (a' := ?_) 32 116 (bz 38 8589934591) rfl rfl HT_ (by kernel_rfl) (fun _ _ _ h => h) (by rfl) ?_ ?_ ?_
                   rotate_left;(intro w';go_simp;with_reducible rfl);rotate_left;(simp only [Act.put,ls_,lz_,lc_,i64_w,i32_w];rfl)
                   refine pu_ (v := ?_) (a' := ?_) 33 117 (bz 38 17179869183) rfl rfl HT_ (by kernel_rfl) (fun _ _ _ h => h) (by rfl) ?_ ?_ ?_
                   rotate_left;(intro w';go_simp;with_reducible rfl);rotate_left;(simp only [Act.put,ls_,lz_,lc_,i64_w,i32_w];rfl)
                   refine pu_ (v := ?_) (a' := ?_) 34 118 (bz 38 34359738367) rfl rfl HT_ (by kernel_rfl) (fun _ _ _ h => h) (by rfl) ?_ ?_ ?_
                   rotate_left;(intro w';go_simp;with_reducible rfl);rotate_left;(simp only [Act.put,ls_,lz_,lc_,i64_w,i32_w];rfl)
                   refine on_ (N := some 119) 35 (bz 38 68719476735) rfl rfl HT_ (by kernel_rfl) (by decide) (fun K hK => ?_)
                   refine goes_ Tryd.func11 (by kernel_rfl) rfl #[] (by rfl) rfl rfl (by (try simp only [lm_,lq_,lx_]);first|done|rfl|(simp only [ld_,lt_];rfl)) ?_
                   with_reducible refine (neumelaw07_heads.calls k3  t482 _ A86.out).mono ?_
                   rintro e w98 ⟨rfl,hb⟩
                   have HS2_ := (hb.cell (wb_ _ _ (hHeld.2.2.1))).trans (hHeld.2.2.1)
                   have HS3_ := (hb.cell (wb_ _ _ (hHeld.2.2.2.1))).trans (hHeld.2.2.2.1)
                   have HS4_ := (hb.cell (wb_ _ _ (hHeld.2.2.2.2.1))).trans (hHeld.2.2.2.2.1)
                   have HS5_ := (hb.cell (wb_ _ _ (hHeld.2.2.2.2.2))).trans (hHeld.2.2.2.2.2)
                   refine ⟨_,rfl,?_⟩
                   replace HO_5 := sd_ (Kd.R_below (by (with_reducible repeat (first|apply Kd.R_alloc|apply Kd.R_drewN|apply Kd.R_drew));exact HO_5.out) hb)
                   replace BK453 := kb_ BK453 hb
                   replace BK454 := kb_ BK454 hb
                   replace BK462 := kb_ BK462 hb
                   replace BK469 := kb_ BK469 hb
                   replace HB := hb_ HB (e_ GE453 (e_ GE454 (e_ GE462 (e_ GE469 e0_)))) hb
                   (try clear hb)
                   (try clear hb2)
                   (try clear hk)
                   (try clear hi)
                   refine hK.out _ _ ⟨(kc_ BK454.out 0).trans rfl,(kc_ BK454.out 1).trans rfl,HS2_,HS3_,HS4_,HS5_⟩ (fun hHeld => ?_)
                   clear hK K
                   refine norm_ (a' := ?_) ?_ ?_
                   rotate_left
                   ·show Act.put _ (some 119) _ = _
                    simp only [Act.put,ls_,lz_,lc_,i64_w,i32_w]
                    rfl
                   refine pu_ (v := ?_) (a' := ?_) 36 120 (bz 38 137438953471) rfl rfl HT_ (by kernel_rfl) (fun _ _ _ h => h) (by rfl) ?_ ?_ ?_
                   rotate_left;(intro w';go_simp;with_reducible rfl);rotate_left;(simp only [Act.put,ls_,lz_,lc_,i64_w,i32_w];rfl)
                   refine pu_ (v := ?_) (a' := ?_) 37 4 (bz 38 274877906943) rfl rfl HT_ (by kernel_rfl) (fun _ _ _ h => h) (by rfl) ?_ ?_ ?_
                   rotate_left;(intro w';go_simp;with_reducible rfl);rotate_left;(simp only [Act.put,ls_,lz_,lc_,i64_w,i32_w];rfl)
                   refine done_ (done_of HT_.out (by kernel_rfl)) ?_
                   try go_wp2
                   go_ret
                   exact ⟨by first|rfl|(simp [errW_none,errW_some] <;> rfl)|(simp only [← hji81];first|rfl|(simp [errW_none,errW_some] <;> rfl))|(simp [*,errW_none,errW_some] <;> rfl),by repeat (first|(with_reducible first|exact HB.out|apply ba_|apply pd_|apply d1_|refine bs_ ?_ GE453.out|refine bs_ ?_ GE454.out|refine bs_ ?_ GE462.out|refine bs_ ?_ GE469.out)|exact HB.out)⟩
                  ·rw [if_neg c85] at H
                   have c85b0 : decide (t481 < 0) = false := df_ c85
                   clear c85
                   exact absurd ((Option.some.inj H).trans hxt.out) (by decide)
                 ·rw [if_neg c83] at H
                  exact absurd H (by simp)
                ·rw [if_neg c82] at H
                 exact absurd H (by simp)
              ·rw [if_neg c67] at H
               have c67b0 : decide (t478 ≤ 0) = false := df_ c67
               clear c67
               exact absurd ((Option.some.inj H).trans hxt.out) (by decide)
             ·rw [if_neg c65] at H
              exact absurd H (by simp)
            ·rw [if_neg c64] at H
             have c64b0 : decide (t475 < (t455.length : Int)) = false := df_ c64
             clear c64
             exact absurd ((Option.some.inj H).trans hxt.out) (by decide)
           ·rw [if_neg c63] at H
            have c63b0 : decide (0 ≤ t475) = false := df_ c63
            clear c63
            exact absurd ((Option.some.inj H).trans hxt.out) (by decide)
          ·rw [if_neg c62] at H
           have c62b0 : (t476 == 0) = false := beq_eq_false_iff_ne.mpr c62
           have c62b1 : (t476 != 0) = true := bne_iff_ne.mpr c62
           replace H := ob_ H
           obtain ⟨t483,A990,H⟩ := H
           replace H : (some t483) = some r := H
           have A99 := sd_ A990
           clear A990
           obtain rfl := Option.some.inj H
           have hnb100 := NB453_454.out
           have hnc100 := NB454_453.out
           have hnb101 := NB453_462.out
           have hnc101 := NB462_453.out
           have hnb102 := NB453_469.out
           have hnc102 := NB469_453.out
           have hcz103_0 : wr.cell? ⟨gb453,0,none⟩ = some (.int .i64 a0_0) := (kc_ BK453.out 0).trans rfl
           have hcz103_1 : wr.cell? ⟨gb453,1,none⟩ = some (.int .i64 a0_1) := (kc_ BK453.out 1).trans rfl
           have hfz103_0 := kf_ BK453.out 0
           have hfz103_1 := kf_ BK453.out 1
           have hnb104 := NB454_462.out
           have hnc104 := NB462_454.out
           have hnb105 := NB454_469.out
           have hnc105 := NB469_454.out
           have hcz106_0 : wr.cell? ⟨gb454,0,none⟩ = some (.int .i64 a1_0) := (kc_ BK454.out 0).trans rfl
           have hcz106_1 : wr.cell? ⟨gb454,1,none⟩ = some (.int .i64 a1_1) := (kc_ BK454.out 1).trans rfl
           have hfz106_0 := kf_ BK454.out 0
           have hfz106_1 := kf_ BK454.out 1
           go_wp2_with (first|((with_reducible refine gate_callee (f := 19) rfl ?_);refine goesL_ (some 78) rfl rfl Tryd.func19 (by kernel_rfl) rfl #[.agg #[.int .i64 a0_0,.int .i64 a0_1],.agg #[.int .i64 a1_0,.int .i64 a1_1]] rfl (by (try simp only [lm_,lq_,lx_]);first|done|rfl|(simp only [ld_,lt_];rfl)) ?_;(with_reducible refine (dur_Beat.calls k3 a0_0 a0_1 a1_0 a1_1 t475 t476 _ A61.out).mono ?_);rintro e w107 ⟨rfl,hb⟩;refine ⟨_,rfl,?_⟩;replace HO_5 := sd_ (Kd.R_below (by (with_reducible repeat (first|apply Kd.R_alloc|apply Kd.R_drewN|apply Kd.R_drew));exact HO_5.out) hb);replace BK453 := kb_ BK453 hb;replace BK454 := kb_ BK454 hb;replace BK462 := kb_ BK462 hb;replace BK469 := kb_ BK469 hb;replace HB := hb_ HB (e_ GE453 (e_ GE454 (e_ GE462 (e_ GE469 e0_)))) hb;(try clear hb);(try clear hb2);(try clear hk);(try clear hi))|((with_reducible refine gate_callee (f := 11) rfl ?_);refine goesL_ (some 83) rfl rfl Tryd.func11 (by kernel_rfl) rfl #[] rfl (by (try simp only [lm_,lq_,lx_]);first|done|rfl|(simp only [ld_,lt_];rfl)) ?_;(with_reducible refine (neumelaw07_heads.calls k3  t483 _ A99.out).mono ?_);rintro e w108 ⟨rfl,hb⟩;refine ⟨_,rfl,?_⟩;replace HO_5 := sd_ (Kd.R_below (by (with_reducible repeat (first|apply Kd.R_alloc|apply Kd.R_drewN|apply Kd.R_drew));exact HO_5.out) hb);replace BK453 := kb_ BK453 hb;replace BK454 := kb_ BK454 hb;replace BK462 := kb_ BK462 hb;replace BK469 := kb_ BK469 hb;replace HB := hb_ HB (e_ GE453 (e_ GE454 (e_ GE462 (e_ GE469 e0_)))) hb;(try clear hb);(try clear hb2);(try clear hk);(try clear hi)))
           go_ret
           exact ⟨by first|rfl|(simp [errW_none,errW_some] <;> rfl)|(simp [*,errW_none,errW_some] <;> rfl),by repeat (first|(with_reducible first|exact HB.out|apply ba_|apply pd_|apply d1_|refine bs_ ?_ GE453.out|refine bs_ ?_ GE454.out|refine bs_ ?_ GE462.out|refine bs_ ?_ GE469.out)|exact HB.out)⟩

end Go.Proofs.YtdiccfonlojlfaaDoor.P
