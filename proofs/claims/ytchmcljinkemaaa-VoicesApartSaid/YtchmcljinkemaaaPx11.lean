-- Written by a program of this session (wip/tools/xprint.py, over the kit's print): Lean checks it.
import Derived.Test.YtchmcljinkemaaaPx0
import Derived.Test.YtchmcljinkemaaaPx1
import Derived.Test.YtchmcljinkemaaaPx3
import Derived.Test.YtchmcljinkemaaaPx5
import Derived.Test.YtchmcljinkemaaaPx10
namespace Go.Proofs.Ytchmcljinkemaaa.P
open Go.RowKit Go.Proofs.YtchmcljinkemaaaW.PrintWords Go.Proofs.YtchmcljinkemaaaW.PrintLast Go.Proofs.YtchmcljinkemaaaW.PrintMore
attribute [local go_sem] max2_int min2_int max_two min_two max_three min_three max_four min_four   -- for this text's walks alone
set_option linter.unusedVariables false
set_option linter.unusedSimpArgs false

/-! ### neumelaw24_VoicesApart: function 4 -/
mutual
def neumelaw24_VoicesApart.l0 : Nat → List (List (S45)) → Bool → List Int → List (S45) → Int → Option (Bool)
 | 0, _, _, _, _, _ => none
 | k + 1, x1, x2, x7, x9, x10 => if x10 < (x1.length : Int) then (if 0 ≤ x10 then (if x10 < (x7.length : Int) then (if (rd x7 x10) > 1099511627776 then (neumelaw24_VoicesApart.j1 k x1 x2 x7 x9 x10 true) else (neumelaw24_VoicesApart.j1 k x1 x2 x7 x9 x10 (decide ((rd x7 x10) < (-1099511627776))))) else (none)) else (none)) else ((neumelaw24_heads.f k).bind fun t350 => (some t350))
def neumelaw24_VoicesApart.j1 : Nat → List (List (S45)) → Bool → List Int → List (S45) → Int → Bool → Option (Bool)
 | 0, _, _, _, _, _, _ => none
 | k + 1, x1, x2, x7, x9, x10, x57 => if x57 = true then (some false) else (if 0 ≤ x10 then (if x10 < (x1.length : Int) then (if x10 < (x7.length : Int) then ((neumelaw24_moved.f k (rd_L2 x1 x10) (rd x7 x10)).bind fun t355 => ((neumelaw24_meet.f k x9 t355).bind fun t358 => (if t358 = true then (some false) else (if x2 = true then (if (rd x7 x10) < 0 then (some false) else (if x9.length + t355.length < 4398046511104 then (neumelaw24_VoicesApart.l0 k x1 x2 x7 (x9 ++ t355) (wrap64 (x10 + 1))) else (none))) else (if (rd x7 x10) > 0 then (some false) else (if x9.length + t355.length < 4398046511104 then (neumelaw24_VoicesApart.l0 k x1 x2 x7 (x9 ++ t355) (wrap64 (x10 + 1))) else (none))))))) else (none)) else (none)) else (none))
end
def neumelaw24_VoicesApart.f (k : Nat) (l0 : List (S45)) (l1 : List (List (S45))) (a2 : Bool) : Option (Bool) := (neumelaw24_few.f k l0 l1).bind fun t337 => (if t337 = true then ((voices_Row.f k l0 l1 a2).bind fun bt339 => (if bt339.2 = 0 then (if (bt339.1.length : Int) = (l1.length : Int) then ((some (([] : List (S45)) : List (S45))).bind fun y344 => (if y344.length + l0.length < 4398046511104 then (neumelaw24_VoicesApart.l0 k l1 a2 bt339.1 (y344 ++ l0) 0) else (none))) else (some false)) else (if (bt339.1.length : Int) = 0 then ((neumelaw24_heads.f k).bind fun t343 => (some t343)) else (some false)))) else ((neumelaw24_heads.f k).bind fun t338 => (some t338)))
theorem neumelaw24_VoicesApart.mono_l : ∀ k, (∀ y0 y1 y2 y3 y4, LeO (neumelaw24_VoicesApart.l0 k y0 y1 y2 y3 y4) (neumelaw24_VoicesApart.l0 (k + 1) y0 y1 y2 y3 y4)) ∧ (∀ y0 y1 y2 y3 y4 y5, LeO (neumelaw24_VoicesApart.j1 k y0 y1 y2 y3 y4 y5) (neumelaw24_VoicesApart.j1 (k + 1) y0 y1 y2 y3 y4 y5))
 | 0 => ⟨fun _ _ _ _ _ r h => by simp [neumelaw24_VoicesApart.l0] at h, fun _ _ _ _ _ _ r h => by simp [neumelaw24_VoicesApart.j1] at h⟩
 | k + 1 => by
  obtain ⟨ih0, ih1⟩ := neumelaw24_VoicesApart.mono_l k
  refine ⟨?_, ?_⟩
  ·intro y0 y1 y2 y3 y4
   unfold neumelaw24_VoicesApart.l0
   repeat' first
   | (with_reducible exact ih0 _ _ _ _ _)
   | (with_reducible exact ih1 _ _ _ _ _ _)
   | (with_reducible exact neumelaw24_few.mono _ _ _)
   | (with_reducible exact neumelaw24_heads.mono _)
   | (with_reducible exact neumelaw24_meet.mono _ _ _)
   | (with_reducible exact neumelaw24_moved.mono _ _ _)
   | (with_reducible exact voices_Row.mono _ _ _ _)
   | (with_reducible exact LeO.refl _)
   | (with_reducible exact LeO.none _)
   | (with_reducible refine LeO.ite ?_ ?_)
   | (with_reducible refine LeO.bind ?_ (fun _ => ?_))
   | exact ih0 _ _ _ _ _
   | exact ih1 _ _ _ _ _ _
   | exact neumelaw24_few.mono _ _ _
   | exact neumelaw24_heads.mono _
   | exact neumelaw24_meet.mono _ _ _
   | exact neumelaw24_moved.mono _ _ _
   | exact voices_Row.mono _ _ _ _
   | exact LeO.none _
   | refine LeO.ite ?_ ?_
   | refine LeO.bind ?_ (fun _ => ?_)
  ·intro y0 y1 y2 y3 y4 y5
   unfold neumelaw24_VoicesApart.j1
   repeat' first
   | (with_reducible exact ih0 _ _ _ _ _)
   | (with_reducible exact ih1 _ _ _ _ _ _)
   | (with_reducible exact neumelaw24_few.mono _ _ _)
   | (with_reducible exact neumelaw24_heads.mono _)
   | (with_reducible exact neumelaw24_meet.mono _ _ _)
   | (with_reducible exact neumelaw24_moved.mono _ _ _)
   | (with_reducible exact voices_Row.mono _ _ _ _)
   | (with_reducible exact LeO.refl _)
   | (with_reducible exact LeO.none _)
   | (with_reducible refine LeO.ite ?_ ?_)
   | (with_reducible refine LeO.bind ?_ (fun _ => ?_))
   | exact ih0 _ _ _ _ _
   | exact ih1 _ _ _ _ _ _
   | exact neumelaw24_few.mono _ _ _
   | exact neumelaw24_heads.mono _
   | exact neumelaw24_meet.mono _ _ _
   | exact neumelaw24_moved.mono _ _ _
   | exact voices_Row.mono _ _ _ _
   | exact LeO.none _
   | refine LeO.ite ?_ ?_
   | refine LeO.bind ?_ (fun _ => ?_)
theorem neumelaw24_VoicesApart.mono : ∀ a0 a1 a2 k, LeO (neumelaw24_VoicesApart.f k a0 a1 a2) (neumelaw24_VoicesApart.f (k + 1) a0 a1 a2) := by
 intro a0 a1 a2 k
 obtain ⟨ih0, ih1⟩ := neumelaw24_VoicesApart.mono_l k
 unfold neumelaw24_VoicesApart.f
 repeat' first
   | (with_reducible exact ih0 _ _ _ _ _)
   | (with_reducible exact ih1 _ _ _ _ _ _)
   | (with_reducible exact neumelaw24_few.mono _ _ _)
   | (with_reducible exact neumelaw24_heads.mono _)
   | (with_reducible exact neumelaw24_meet.mono _ _ _)
   | (with_reducible exact neumelaw24_moved.mono _ _ _)
   | (with_reducible exact voices_Row.mono _ _ _ _)
   | (with_reducible exact LeO.refl _)
   | (with_reducible exact LeO.none _)
   | (with_reducible refine LeO.ite ?_ ?_)
   | (with_reducible refine LeO.bind ?_ (fun _ => ?_))
   | exact ih0 _ _ _ _ _
   | exact ih1 _ _ _ _ _ _
   | exact neumelaw24_few.mono _ _ _
   | exact neumelaw24_heads.mono _
   | exact neumelaw24_meet.mono _ _ _
   | exact neumelaw24_moved.mono _ _ _
   | exact voices_Row.mono _ _ _ _
   | exact LeO.none _
   | refine LeO.ite ?_ ?_
   | refine LeO.bind ?_ (fun _ => ?_)
def neumelaw24_VoicesApart.T14 : Bool × List (List Nat × List Nat) := (true, [([], []), ([], []), ([0, 1], [0, 1]), ([2], [2]), ([], []), ([], []), ([4, 5], [4, 5]), ([6], [6]), ([3, 7], [3, 7]), ([8, 8, 0, 1, 2, 3, 4, 5, 6, 7, 8], [8])])
def neumelaw24_VoicesApart.B14 : List Nat := [0, 0, 3, 7, 0, 0, 48, 112, 255, 511]
theorem neumelaw24_VoicesApart.tab14 : rtab .any (opsOf Try.f4 14) = neumelaw24_VoicesApart.T14 := by kernel_rfl
theorem neumelaw24_VoicesApart.bits14 : waitsOk neumelaw24_VoicesApart.T14.2 neumelaw24_VoicesApart.B14 = true := by kernel_rfl
set_option maxHeartbeats 8000000 in
set_option maxRecDepth 100000 in
theorem neumelaw24_VoicesApart.calls (k : Nat) (A0 : Option Addr) (c0 : Nat) (l0 : List (S45)) (A1 : Option Addr) (c1 : Nat) (l1 : List (List (S45))) (a2 : Bool) (r : Bool) (w : World) (hr0 : Kd.C k45 w A0 l0.length l0) (hc0 : l0.length ≤ c0) (hr1 : Kd.C (Kd.slice 45 k45) w A1 l1.length l1) (hc1 : l1.length ≤ c1) (hxt : Aside0 (r = true)) (h : neumelaw24_VoicesApart.f k l0 l1 a2 = some r) :
  Calls Try.prog 4 #[.slice A0 l0.length c0, .slice A1 l1.length c1, .bool a2] w fun e w' => e = .returned (.bool r) ∧ Below w.heap.size w w' := by
 have HR0 := sd_ hr0
 have HC0 := sd_ hc0
 clear hr0 hc0
 have HR1 := sd_ hr1
 have HC1 := sd_ hc1
 clear hr1 hc1
 have HB := sd_ (Below.refl w.heap.size w)
 have H : ((neumelaw24_few.f k l0 l1).bind fun t337 => (if t337 = true then ((voices_Row.f k l0 l1 a2).bind fun bt339 => (if bt339.2 = 0 then (if (bt339.1.length : Int) = (l1.length : Int) then ((some (([] : List (S45)) : List (S45))).bind fun y344 => (if y344.length + l0.length < 4398046511104 then (neumelaw24_VoicesApart.l0 k l1 a2 bt339.1 (y344 ++ l0) 0) else (none))) else (some false)) else (if (bt339.1.length : Int) = 0 then ((neumelaw24_heads.f k).bind fun t343 => (some t343)) else (some false)))) else ((neumelaw24_heads.f k).bind fun t338 => (some t338)))) = some r := h
 clear h
 replace H := ob_ H
 obtain ⟨t337, A40, H⟩ := H
 replace H : (if t337 = true then ((voices_Row.f k l0 l1 a2).bind fun bt339 => (if bt339.2 = 0 then (if (bt339.1.length : Int) = (l1.length : Int) then ((some (([] : List (S45)) : List (S45))).bind fun y344 => (if y344.length + l0.length < 4398046511104 then (neumelaw24_VoicesApart.l0 k l1 a2 bt339.1 (y344 ++ l0) 0) else (none))) else (some false)) else (if (bt339.1.length : Int) = 0 then ((neumelaw24_heads.f k).bind fun t343 => (some t343)) else (some false)))) else ((neumelaw24_heads.f k).bind fun t338 => (some t338))) = some r := H
 have A4 := sd_ A40
 clear A40
 by_cases c5 : t337 = true
 ·subst c5
  have H1 : ((voices_Row.f k l0 l1 a2).bind fun bt339 => (if bt339.2 = 0 then (if (bt339.1.length : Int) = (l1.length : Int) then ((some (([] : List (S45)) : List (S45))).bind fun y344 => (if y344.length + l0.length < 4398046511104 then (neumelaw24_VoicesApart.l0 k l1 a2 bt339.1 (y344 ++ l0) 0) else (none))) else (some false)) else (if (bt339.1.length : Int) = 0 then ((neumelaw24_heads.f k).bind fun t343 => (some t343)) else (some false)))) = some r := by rw [if_pos rfl] at H; exact H
  clear H; have H := H1; clear H1
  replace H := ob_ H
  obtain ⟨⟨t339, t340⟩, A60, H⟩ := H
  replace H : (if t340 = 0 then (if (t339.length : Int) = (l1.length : Int) then ((some (([] : List (S45)) : List (S45))).bind fun y344 => (if y344.length + l0.length < 4398046511104 then (neumelaw24_VoicesApart.l0 k l1 a2 t339 (y344 ++ l0) 0) else (none))) else (some false)) else (if (t339.length : Int) = 0 then ((neumelaw24_heads.f k).bind fun t343 => (some t343)) else (some false))) = some r := H
  have A6 := sd_ A60
  clear A60
  by_cases c7 : t340 = 0
  ·rw [if_pos c7] at H
   have c7b0 : (t340 == 0) = true := beq_iff_eq.mpr c7
   have c7b1 : (t340 != 0) = false := bne_eq_false_iff_eq.mpr c7
   clear c7
   by_cases c8 : (t339.length : Int) = (l1.length : Int)
   ·rw [if_pos c8] at H
    have c8b0 : ((t339.length : Int) == (l1.length : Int)) = true := beq_iff_eq.mpr c8
    have c8b1 : ((t339.length : Int) != (l1.length : Int)) = false := bne_eq_false_iff_eq.mpr c8
    have c8b2 : (t339.length == l1.length) = true := by first | simpa using c8 | (simp at c8 ⊢; omega)
    clear c8
    obtain ⟨y344, hy344⟩ : ∃ y_ : List (S45), y_ = (([] : List (S45))) := ⟨_, rfl⟩
    replace H : (if y344.length + l0.length < 4398046511104 then (neumelaw24_VoicesApart.l0 k l1 a2 t339 (y344 ++ l0) 0) else (none)) = some r := by first | (rw [hy344]; with_reducible exact H) | (have H2_ := (Option.bind_some _ _).symm.trans H; rw [hy344]; with_reducible exact H2_) | (have H2_ := (Option.bind_some _ _).symm.trans H; with_reducible exact H2_) | with_reducible exact H | (rw [hy344]; exact H) | exact H
    have Ny344 := sd_ hy344
    clear hy344
    by_cases c9 : y344.length + l0.length < 4398046511104
    ·rw [if_pos c9] at H
     have LMc9 := sd_ c9
     clear c9
     obtain ⟨y347, hy347⟩ : ∃ y_ : List (S45), y_ = (y344 ++ l0) := ⟨_, rfl⟩
     replace H : (neumelaw24_VoicesApart.l0 k l1 a2 t339 y347 0) = some r := by first | (rw [hy347]; with_reducible exact H) | (have H2_ := (Option.bind_some _ _).symm.trans H; rw [hy347]; with_reducible exact H2_) | (have H2_ := (Option.bind_some _ _).symm.trans H; with_reducible exact H2_) | with_reducible exact H | (rw [hy347]; exact H) | exact H
     have Ny347 := sd_ hy347
     clear hy347
     have H' := sd_ H
     clear H
     go_enter Try.func4, Try.ntmps4
     go_wp2_with (first | ((with_reducible refine gate_callee (f := 6) rfl ?_); refine goesL_ (some 14) rfl rfl Try.func6 (by kernel_rfl) rfl #[.slice A0 l0.length c0, .slice A1 l1.length c1] rfl (by (try simp only [lm_, lq_, lx_]); first | done | rfl | (simp only [ld_, lt_]; rfl)) ?_; (with_reducible refine (neumelaw24_few.calls k _ _ l0 _ _ l1 true _ ?side1 ?side2 ?side3 ?side4 A4.out).mono ?_); (case side1 => repeat (first | exact HR0.out | (with_reducible refine Kd.C_alloc ?_ _) | (with_reducible refine Kd.C_drewN ?_ _) | (with_reducible refine Kd.C_drew ?_))); (case side2 => exact HC0.out); (case side3 => repeat (first | exact HR1.out | (with_reducible refine Kd.C_alloc ?_ _) | (with_reducible refine Kd.C_drewN ?_ _) | (with_reducible refine Kd.C_drew ?_))); (case side4 => exact HC1.out); rintro e w' ⟨rfl, ⟨nd, rfl⟩⟩; refine ⟨_, rfl, ?_⟩) | ((with_reducible refine gate_callee (f := 8) rfl ?_); refine goesL_ (some 21) rfl rfl Try.func8 (by kernel_rfl) rfl #[.slice A0 l0.length c0, .slice A1 l1.length c1, .bool a2] rfl (by (try simp only [lm_, lq_, lx_]); first | done | rfl | (simp only [ld_, lt_]; rfl)) ?_; (with_reducible refine (voices_Row.calls k _ _ l0 _ _ l1 a2 t339 t340 _ ?side1 ?side2 ?side3 ?side4 A6.out).mono ?_); (case side1 => repeat (first | exact HR0.out | (with_reducible refine Kd.C_alloc ?_ _) | (with_reducible refine Kd.C_drewN ?_ _) | (with_reducible refine Kd.C_drew ?_))); (case side2 => exact HC0.out); (case side3 => repeat (first | exact HR1.out | (with_reducible refine Kd.C_alloc ?_ _) | (with_reducible refine Kd.C_drewN ?_ _) | (with_reducible refine Kd.C_drew ?_))); (case side4 => exact HC1.out); rintro e w10 ⟨v341, rfl, ho0, hb⟩; refine ⟨_, rfl, ?_⟩; have HO342 := sd_ (Kd.R_lower ho0 (bz_ (bb_ HB.out e0_))); replace HB := hb_ HB e0_ hb; (try clear hb); (try clear hb2); (try clear hk); (try clear hi); (try clear ho0); obtain ⟨Ao11, co11, eo11⟩ := Kd.R_slice HO342.out; subst eo11) | ((with_reducible refine gate_dst (N := 37) rfl ?_); refine Kd.R_lit k45 _ 45 ?hg (N := 37) ?hd (xs := ([] : List (S45))) (inner := []) (ok := fun _ => True) (okp := fun _ => True) ?hr ?hp (fun _ hk => hk) trivial (Below.refl _ _) (Nat.le_refl _) (by simp) ?_; (case hd => rfl); (case hg => rfl); (case hr => first | (go_simp; done) | (go_simp; rfl)); (case hp => exact (Reps.none _ _)); intro v345 w12 ho13 hb hg_ hnew_; clear hg_ hnew_; (first | rw [← Ny344.out] at ho13 | (simp only [Int.reduceToNat] at ho13; rw [← Ny344.out] at ho13)); have HO346 := sd_ (Kd.R_lower ho13 (bz_ (bb_ HB.out e0_))); replace HO342 := sd_ (Kd.R_below (by (with_reducible repeat (first | apply Kd.R_alloc | apply Kd.R_drewN | apply Kd.R_drew)); exact HO342.out) hb); replace HB := hb_ HB e0_ hb; clear hb ho13) | ((with_reducible refine gate_builtin (b := .append) (xs := #[.tmp 37, .tmp 38]) rfl ?_); at_builtin; refine Kd.R_append_rows k45 (w0 := w) w.heap.size rfl (.tmp 37) (.tmp 38) 22 45 (.agg #[(.int .i64 0), (.int .i64 0), (.int .i64 0), (.int .i64 0)]) 32 rfl Try.underlying22 info45 rfl (by decide) (by omega) v345 y344 l0 _ _ _ (fun _ => True) (fun _ => False) rfl rfl ?aO ?aR (fun _ _ h => h) (fun _ h => h.elim) ?aF ?aB ?aS ?aL ?_; (case aR => repeat (first | exact (Kd.C_below HR0.out HB.out) | (with_reducible refine Kd.C_alloc ?_ _) | (with_reducible refine Kd.C_drewN ?_ _) | (with_reducible refine Kd.C_drew ?_))); (case aB => exact (bb_ HB.out e0_)); (case aF => exact (fun _ _ => trivial)); (case aO => exact (by (with_reducible repeat (first | apply Kd.R_alloc | apply Kd.R_drewN | apply Kd.R_drew)); exact HO346.out)); (case aS => exact (bz_ (bb_ HB.out e0_))); (case aL => have := LMc9.out; omega); intro v348 w14 ho hb hg hat; rw [← Ny347.out] at ho; have n0_ := sd_ (Kd.R_over' (by (with_reducible repeat (first | apply Kd.R_alloc | apply Kd.R_drewN | apply Kd.R_drew)); exact HO342.out) (Kd.R_typed (by (with_reducible repeat (first | apply Kd.R_alloc | apply Kd.R_drewN | apply Kd.R_drew)); exact HO346.out)) (by decide) hg); have n1_ := sd_ (hb); have n2_ := sd_ (ho); clear HO342; clear HB; clear HO346; have HO342 := n0_; have HB := n1_; have HO349 := n2_; clear n0_ n1_ n2_; clear ho hb hg hat))
     go_loopg [9, 10] k (fun kq v9 v10 w' => ∃ (x9_1 : List (S45)) (x10_1 : Int), v10 = .int .i64 x10_1 ∧ Aside0 (neumelaw24_VoicesApart.l0 kq l1 a2 t339 x9_1 x10_1 = some r) ∧ Aside0 (kq ≤ k) ∧ Aside0 (Kd.R (Kd.int .i64) 3 w' w.heap.size (fun _ => True) (.slice Ao11 t339.length co11) t339) ∧ Aside0 (Kd.R k45 45 w' w.heap.size (fun _ => True) v9 x9_1) ∧ Aside0 (Below w.heap.size w w'))
     case atStart => exact ⟨(y347), (0), (by first | rfl | (simp; done) | (simp [*]; done) | (simp [bne]; done)), H', ⟨Nat.le_refl _⟩, ⟨by (with_reducible repeat (first | apply Kd.R_alloc | apply Kd.R_drewN | apply Kd.R_drew)); exact HO342.out⟩, ⟨by (with_reducible repeat (first | apply Kd.R_alloc | apply Kd.R_drewN | apply Kd.R_drew)); exact HO349.out⟩, ⟨by repeat (first | (with_reducible first | exact HB.out | apply ba_ | apply pd_ | apply d1_) | exact HB.out)⟩⟩
     case round =>
      clear H'
      try clear c1; try clear p2; try clear c4; try clear c5; try clear c6; try clear c7; try clear c7b0; try clear c7b1; try clear c8; try clear c8b0; try clear c8b1; try clear c8b2; try clear c9
      obtain ⟨x9_1, x10_1, rfl, HA, HK1, HO_7, HO_9, HB⟩ := hrel
      cases gk with
      | zero => exact absurd HA.out (by simp [neumelaw24_VoicesApart.l0])
      | succ k1 =>
       have H := HA.out
       clear HA
       simp only [neumelaw24_VoicesApart.l0] at H
       by_cases c15 : x10_1 < (l1.length : Int)
       ·rw [if_pos c15] at H
        have c15b0 : decide (x10_1 < (l1.length : Int)) = true := dt_ c15
        clear c15
        have HC16 := sd_ H
        clear H
        go_upto_region 12 with (fail)
        go_cut [57] (fun v57 wc => ∃ (kq : Nat) (x57_15 : Bool), v57 = .bool x57_15 ∧ Aside0 (neumelaw24_VoicesApart.j1 kq l1 a2 t339 x9_1 x10_1 x57_15 = some r) ∧ Aside0 (kq ≤ k1) ∧ Aside0 (Kd.R (Kd.int .i64) 3 wc w.heap.size (fun _ => True) (.slice Ao11 t339.length co11) t339) ∧ Aside0 (Kd.R k45 45 wc w.heap.size (fun _ => True) u9 x9_1) ∧ Aside0 (Below w.heap.size w wc))
        case first =>
         have H := HC16.out
         clear HC16
         by_cases c17 : 0 ≤ x10_1
         ·rw [if_pos c17] at H
          have c17b0 : decide (0 ≤ x10_1) = true := dt_ c17
          clear c17
          (first | rw [c17b0] | (simp only [i64_w, i32_w]; rw [c17b0]) | skip)
          by_cases c18 : x10_1 < (t339.length : Int)
          ·rw [if_pos c18] at H
           have c18b0 : decide (x10_1 < (t339.length : Int)) = true := dt_ c18
           clear c18
           by_cases c19 : (rd t339 x10_1) > 1099511627776
           ·rw [if_pos c19] at H
            have c19b0 : decide (1099511627776 < (rd t339 x10_1)) = true := dt_ c19
            clear c19
            have H' := sd_ H
            clear H
            have p351 : 0 ≤ (x10_1 : Int) := od_ (by first | (with_reducible assumption) | assumption)
            have q351 : x10_1 < (t339.length : Int) := od_ (by first | (with_reducible assumption) | assumption)
            obtain ⟨ad351, e351, hx351_0⟩ := Kd.at_int (Kd.R_reads' HO_7.out).2.2 x10_1 p351 q351
            cases e351
            replace p351 := eq_true p351
            replace q351 := eq_true q351
            go_wp2
            go_meet
            case rel => exact ⟨_, (true), (by first | rfl | (simp; done) | (simp [*]; done) | (simp [bne]; done)), H', ⟨by have := HK1.out; first | omega | exact Nat.le_refl _⟩, ⟨by (with_reducible repeat (first | apply Kd.R_alloc | apply Kd.R_drewN | apply Kd.R_drew)); exact HO_7.out⟩, ⟨by (with_reducible repeat (first | apply Kd.R_alloc | apply Kd.R_drewN | apply Kd.R_drew)); exact HO_9.out⟩, ⟨by repeat (first | (with_reducible first | exact HB.out | apply ba_ | apply pd_ | apply d1_) | exact HB.out)⟩⟩
           ·rw [if_neg c19] at H
            have c19b0 : decide (1099511627776 < (rd t339 x10_1)) = false := df_ c19
            clear c19
            have H' := sd_ H
            clear H
            have p351 : 0 ≤ (x10_1 : Int) := od_ (by first | (with_reducible assumption) | assumption)
            have q351 : x10_1 < (t339.length : Int) := od_ (by first | (with_reducible assumption) | assumption)
            obtain ⟨ad351, e351, hx351_0⟩ := Kd.at_int (Kd.R_reads' HO_7.out).2.2 x10_1 p351 q351
            cases e351
            replace p351 := eq_true p351
            replace q351 := eq_true q351
            have p352 : 0 ≤ (x10_1 : Int) := od_ (by first | (with_reducible assumption) | assumption)
            have q352 : x10_1 < (t339.length : Int) := od_ (by first | (with_reducible assumption) | assumption)
            obtain ⟨ad352, e352, hx352_0⟩ := Kd.at_int (Kd.R_reads' HO_7.out).2.2 x10_1 p352 q352
            obtain rfl : ad351 = ad352 := (by injection e352)
            replace p352 := eq_true p352
            replace q352 := eq_true q352
            go_wp2
            go_meet
            case rel => exact ⟨_, (decide ((rd t339 x10_1) < (-1099511627776))), (by first | rfl | (simp; done) | (simp [*]; done) | (simp [bne]; done)), H', ⟨by have := HK1.out; first | omega | exact Nat.le_refl _⟩, ⟨by (with_reducible repeat (first | apply Kd.R_alloc | apply Kd.R_drewN | apply Kd.R_drew)); exact HO_7.out⟩, ⟨by (with_reducible repeat (first | apply Kd.R_alloc | apply Kd.R_drewN | apply Kd.R_drew)); exact HO_9.out⟩, ⟨by repeat (first | (with_reducible first | exact HB.out | apply ba_ | apply pd_ | apply d1_) | exact HB.out)⟩⟩
          ·rw [if_neg c18] at H
           exact absurd H (by simp)
         ·rw [if_neg c17] at H
          exact absurd H (by simp)
        case rest =>
         clear HC16
         try clear c1; try clear p2; try clear p3; try clear q3; try clear hx3; try clear c4; try clear c5; try clear c6; try clear c7; try clear c7b0; try clear c7b1; try clear c8; try clear c8b0; try clear c8b1; try clear c8b2; try clear c9; try clear c15; try clear c15b0; try clear c17; try clear c17b0; try clear c18; try clear c18b0; try clear c19; try clear c19b0; try clear hx351_0; try clear hx352_0; try clear p2; try clear p351; try clear p352; try clear q351; try clear q352
         obtain ⟨kq, x57_15, rfl, HA, HJ15, HO_7, HO_9, HB⟩ := hcut
         cases kq with
         | zero => exact absurd HA.out (by simp [neumelaw24_VoicesApart.j1])
         | succ kj15 =>
          have H := HA.out
          clear HA
          simp only [neumelaw24_VoicesApart.j1] at H
          by_cases c20 : x57_15 = true
          ·subst c20
           have H1 : (some false) = some r := by rw [if_pos rfl] at H; exact H
           clear H; have H := H1; clear H1
           exact absurd ((Option.some.inj H).trans hxt.out) (by decide)
          ·replace c20 := bf_ c20
           subst c20
           have H1 : (if 0 ≤ x10_1 then (if x10_1 < (l1.length : Int) then (if x10_1 < (t339.length : Int) then ((neumelaw24_moved.f kj15 (rd_L2 l1 x10_1) (rd t339 x10_1)).bind fun t355 => ((neumelaw24_meet.f kj15 x9_1 t355).bind fun t358 => (if t358 = true then (some false) else (if a2 = true then (if (rd t339 x10_1) < 0 then (some false) else (if x9_1.length + t355.length < 4398046511104 then (neumelaw24_VoicesApart.l0 kj15 l1 a2 t339 (x9_1 ++ t355) (wrap64 (x10_1 + 1))) else (none))) else (if (rd t339 x10_1) > 0 then (some false) else (if x9_1.length + t355.length < 4398046511104 then (neumelaw24_VoicesApart.l0 kj15 l1 a2 t339 (x9_1 ++ t355) (wrap64 (x10_1 + 1))) else (none))))))) else (none)) else (none)) else (none)) = some r := by rw [if_neg (show ¬ (false = true) by decide)] at H; exact H
           clear H; have H := H1; clear H1
           by_cases c21 : 0 ≤ x10_1
           ·rw [if_pos c21] at H
            have c21b0 : decide (0 ≤ x10_1) = true := dt_ c21
            clear c21
            by_cases c22 : x10_1 < (l1.length : Int)
            ·rw [if_pos c22] at H
             have c22b0 : decide (x10_1 < (l1.length : Int)) = true := dt_ c22
             clear c22
             by_cases c23 : x10_1 < (t339.length : Int)
             ·rw [if_pos c23] at H
              have c23b0 : decide (x10_1 < (t339.length : Int)) = true := dt_ c23
              clear c23
              replace H := ob_ H
              obtain ⟨t355, A240, H⟩ := H
              replace H : ((neumelaw24_meet.f kj15 x9_1 t355).bind fun t358 => (if t358 = true then (some false) else (if a2 = true then (if (rd t339 x10_1) < 0 then (some false) else (if x9_1.length + t355.length < 4398046511104 then (neumelaw24_VoicesApart.l0 kj15 l1 a2 t339 (x9_1 ++ t355) (wrap64 (x10_1 + 1))) else (none))) else (if (rd t339 x10_1) > 0 then (some false) else (if x9_1.length + t355.length < 4398046511104 then (neumelaw24_VoicesApart.l0 kj15 l1 a2 t339 (x9_1 ++ t355) (wrap64 (x10_1 + 1))) else (none)))))) = some r := H
              have A24 := sd_ A240
              clear A240
              replace H := ob_ H
              obtain ⟨t358, A250, H⟩ := H
              replace H : (if t358 = true then (some false) else (if a2 = true then (if (rd t339 x10_1) < 0 then (some false) else (if x9_1.length + t355.length < 4398046511104 then (neumelaw24_VoicesApart.l0 kj15 l1 a2 t339 (x9_1 ++ t355) (wrap64 (x10_1 + 1))) else (none))) else (if (rd t339 x10_1) > 0 then (some false) else (if x9_1.length + t355.length < 4398046511104 then (neumelaw24_VoicesApart.l0 kj15 l1 a2 t339 (x9_1 ++ t355) (wrap64 (x10_1 + 1))) else (none))))) = some r := H
              have A25 := sd_ A250
              clear A250
              by_cases c26 : t358 = true
              ·subst c26
               have H1 : (some false) = some r := by rw [if_pos rfl] at H; exact H
               clear H; have H := H1; clear H1
               exact absurd ((Option.some.inj H).trans hxt.out) (by decide)
              ·replace c26 := bf_ c26
               subst c26
               have H1 : (if a2 = true then (if (rd t339 x10_1) < 0 then (some false) else (if x9_1.length + t355.length < 4398046511104 then (neumelaw24_VoicesApart.l0 kj15 l1 a2 t339 (x9_1 ++ t355) (wrap64 (x10_1 + 1))) else (none))) else (if (rd t339 x10_1) > 0 then (some false) else (if x9_1.length + t355.length < 4398046511104 then (neumelaw24_VoicesApart.l0 kj15 l1 a2 t339 (x9_1 ++ t355) (wrap64 (x10_1 + 1))) else (none)))) = some r := by rw [if_neg (show ¬ (false = true) by decide)] at H; exact H
               clear H; have H := H1; clear H1
               by_cases c27 : a2 = true
               ·subst c27
                have H1 : (if (rd t339 x10_1) < 0 then (some false) else (if x9_1.length + t355.length < 4398046511104 then (neumelaw24_VoicesApart.l0 kj15 l1 true t339 (x9_1 ++ t355) (wrap64 (x10_1 + 1))) else (none))) = some r := by rw [if_pos rfl] at H; exact H
                clear H; have H := H1; clear H1
                by_cases c28 : (rd t339 x10_1) < 0
                ·rw [if_pos c28] at H
                 have c28b0 : decide ((rd t339 x10_1) < 0) = true := dt_ c28
                 clear c28
                 exact absurd ((Option.some.inj H).trans hxt.out) (by decide)
                ·rw [if_neg c28] at H
                 have c28b0 : decide ((rd t339 x10_1) < 0) = false := df_ c28
                 clear c28
                 by_cases c29 : x9_1.length + t355.length < 4398046511104
                 ·rw [if_pos c29] at H
                  have LMc29 := sd_ c29
                  clear c29
                  obtain ⟨y360, hy360⟩ : ∃ y_ : List (S45), y_ = (x9_1 ++ t355) := ⟨_, rfl⟩
                  replace H : (neumelaw24_VoicesApart.l0 kj15 l1 true t339 y360 (wrap64 (x10_1 + 1))) = some r := by first | (rw [hy360]; with_reducible exact H) | (have H2_ := (Option.bind_some _ _).symm.trans H; rw [hy360]; with_reducible exact H2_) | (have H2_ := (Option.bind_some _ _).symm.trans H; with_reducible exact H2_) | with_reducible exact H | (rw [hy360]; exact H) | exact H
                  have Ny360 := sd_ hy360
                  clear hy360
                  have H' := sd_ H
                  clear H
                  try go_wp2
                  replace HO_7 := sd_ (Kd.R_drew HO_7.out)
                  replace HO_9 := sd_ (Kd.R_drew HO_9.out)
                  replace HB := sd_ (d1_ HB.out)
                  have p353 : 0 ≤ (x10_1 : Int) := od_ (by first | (with_reducible assumption) | assumption)
                  have q353 : x10_1 < (l1.length : Int) := od_ (by first | (with_reducible assumption) | assumption)
                  obtain ⟨ad353, A353_0, c353_0, e353, hx353_0, hl353_0, hi353_0⟩ := at_L2 HR1.out x10_1 p353 q353
                  have hw353_0 := hx353_0
                  cases e353
                  replace hx353_0 := (HB.out.cell (wb_ w _ hx353_0)).trans hx353_0
                  have HR353_0 := sd_ hi353_0
                  have HC353_0 := sd_ hl353_0
                  clear hi353_0 hl353_0
                  replace p353 := eq_true p353
                  replace q353 := eq_true q353
                  have p354 : 0 ≤ (x10_1 : Int) := od_ (by first | (with_reducible assumption) | assumption)
                  have q354 : x10_1 < (t339.length : Int) := od_ (by first | (with_reducible assumption) | assumption)
                  obtain ⟨ad354, e354, hx354_0⟩ := Kd.at_int (Kd.R_reads' HO_7.out).2.2 x10_1 p354 q354
                  cases e354
                  replace p354 := eq_true p354
                  replace q354 := eq_true q354
                  refine start_ (n := 10) (S := fun w' => w'.cell? (ad353.add (x10_1).toNat) = some (.slice A353_0 (rd_L2 l1 x10_1).length c353_0) ∧ w'.cell? (ad354.add (x10_1).toNat) = some (.int .i64 (rd t339 x10_1))) (ds := []) (Array.replicate 10 false) (by kernel_rfl) rfl rfl ⟨((HB.out.cell (wb_ w _ hw353_0)).trans hw353_0), hx354_0⟩ (fun hHeld => ?_); refine with_tabW neumelaw24_VoicesApart.tab14 neumelaw24_VoicesApart.bits14 (fun HT_ HW_ => ?_)
                  generalize wc.drew = w30 at HO_7 HO_9 HB HR353_0 hx353_0 hx354_0 hHeld ⊢
                  refine pu_ (v := ?_) (a' := ?_) 0 58 (bz 10 1) rfl rfl HT_ (by kernel_rfl) (fun _ _ _ h => h) (by rfl) ?_ ?_ ?_
                  rotate_left; (intro w'; go_simp; with_reducible rfl); rotate_left; (simp only [Act.put, ls_, lz_, lc_, i64_w, i32_w]; rfl)
                  refine pu_ (v := ?_) (a' := ?_) 1 59 (bz 10 3) rfl rfl HT_ (by kernel_rfl) (fun _ _ _ h => h) (by rfl) ?_ ?_ ?_
                  rotate_left; (intro w'; go_simp; with_reducible rfl); rotate_left; (simp only [Act.put, ls_, lz_, lc_, i64_w, i32_w]; rfl)
                  refine pu_ (v := ?_) (a' := ?_) 2 60 (bz 10 7) rfl rfl HT_ (by kernel_rfl) (fun _ _ _ h => h) (by rfl) ?_ ?_ ?_
                  rotate_left; (intro w'; go_simp; with_reducible rfl); rotate_left; (simp only [Act.put, ls_, lz_, lc_, i64_w, i32_w]; rfl)
                  refine pu_ (v := ?_) (a' := ?_) 4 62 (bz 10 23) rfl rfl HT_ (by kernel_rfl) (fun _ _ _ h => h) (by rfl) ?_ ?_ ?_
                  rotate_left; (intro w'; go_simp; with_reducible rfl); rotate_left; (simp only [Act.put, ls_, lz_, lc_, i64_w, i32_w]; rfl)
                  refine pu_ (v := ?_) (a' := ?_) 5 63 (bz 10 55) rfl rfl HT_ (by kernel_rfl) (fun _ _ _ h => h) (by rfl) ?_ ?_ ?_
                  rotate_left; (intro w'; go_simp; with_reducible rfl); rotate_left; (simp only [Act.put, ls_, lz_, lc_, i64_w, i32_w]; rfl)
                  refine pu_ (v := ?_) (a' := ?_) 6 64 (bz 10 119) rfl rfl HT_ (by kernel_rfl) (fun _ _ _ h => h) (by rfl) ?_ ?_ ?_
                  rotate_left; (intro w'; go_simp; with_reducible rfl); rotate_left; (simp only [Act.put, ls_, lz_, lc_, i64_w, i32_w]; rfl)
                  refine ta_ (v := ?_) (a' := ?_) 3 61 (bz 10 127) rfl rfl HT_ HW_ (by kernel_rfl) (fun _ _ _ h => h) (by rfl) ?_ hHeld ?_ ?_
                  rotate_left
                  ·rintro w' ⟨s0, s1⟩
                   go_simp
                   with_reducible rfl
                  rotate_left
                  ·simp only [Act.put, ls_, lz_, lc_, i64_w, i32_w]
                   rfl
                  refine ta_ (v := ?_) (a' := ?_) 7 65 (bz 10 255) rfl rfl HT_ HW_ (by kernel_rfl) (fun _ _ _ h => h) (by rfl) ?_ hHeld ?_ ?_
                  rotate_left
                  ·rintro w' ⟨s0, s1⟩
                   go_simp
                   with_reducible rfl
                  rotate_left
                  ·simp only [Act.put, ls_, lz_, lc_, i64_w, i32_w]
                   rfl
                  refine on_ (N := some 66) 8 (bz 10 511) rfl rfl HT_ (by kernel_rfl) (by decide) (fun K hK => ?_)
                  refine goes_ Try.func17 (by kernel_rfl) rfl #[.slice A353_0 (rd_L2 l1 x10_1).length c353_0, .int .i64 (rd t339 x10_1)] (by rfl) rfl rfl (by (try simp only [lm_, lq_, lx_]); first | done | rfl | (simp only [ld_, lt_]; rfl)) ?_
                  with_reducible refine (neumelaw24_moved.calls kj15 _ _ (rd_L2 l1 x10_1) (rd t339 x10_1) t355 _ ?side1 ?side2 A24.out).mono ?_
                  (case side1 => repeat (first | exact (Kd.C_below HR353_0.out HB.out) | (with_reducible refine Kd.C_alloc ?_ _) | (with_reducible refine Kd.C_drewN ?_ _) | (with_reducible refine Kd.C_drew ?_)))
                  (case side2 => exact HC353_0.out)
                  rintro e w31 ⟨v356, rfl, ho0, hb⟩
                  have HS1_ := (hb.cell (wb_ _ _ (hHeld.2))).trans (hHeld.2)
                  refine ⟨_, rfl, ?_⟩
                  have HO357 := sd_ (Kd.R_lower (Kd.R_new' ho0 (Kd.R_lt (by (with_reducible repeat (first | apply Kd.R_alloc | apply Kd.R_drewN | apply Kd.R_drew)); exact HO_9.out))) (bz_ (bb_ HB.out e0_)))
                  replace HO_7 := sd_ (Kd.R_below (by (with_reducible repeat (first | apply Kd.R_alloc | apply Kd.R_drewN | apply Kd.R_drew)); exact HO_7.out) hb)
                  replace HO_9 := sd_ (Kd.R_elder' (by (with_reducible repeat (first | apply Kd.R_alloc | apply Kd.R_drewN | apply Kd.R_drew)); exact HO_9.out) (Kd.R_base ho0) hb)
                  replace HB := hb_ HB e0_ hb
                  (try clear hb)
                  (try clear hb2)
                  (try clear hk)
                  (try clear hi)
                  (try clear ho0)
                  refine hK.out _ _ ⟨((HB.out.cell (wb_ w _ hw353_0)).trans hw353_0), HS1_⟩ (fun hHeld => ?_)
                  clear hK K
                  refine norm_ (a' := ?_) ?_ ?_
                  rotate_left
                  ·show Act.put _ (some 66) _ = _
                   simp only [Act.put, ls_, lz_, lc_, i64_w, i32_w]
                   rfl
                  refine pu_ (v := ?_) (a' := ?_) 9 11 (bz 10 1023) rfl rfl HT_ (by kernel_rfl) (fun _ _ _ h => h) (by rfl) ?_ ?_ ?_
                  rotate_left; (intro w'; go_simp; with_reducible rfl); rotate_left; (simp only [Act.put, ls_, lz_, lc_, i64_w, i32_w]; rfl)
                  refine done_ (done_of HT_.out (by kernel_rfl)) ?_
                  obtain ⟨Ao32, co32, eo32⟩ := Kd.R_slice HO_9.out
                  subst eo32
                  obtain ⟨Ao33, co33, eo33⟩ := Kd.R_slice HO357.out
                  subst eo33
                  try go_wp2_with (first | ((with_reducible refine gate_callee (f := 18) rfl ?_); refine goesL_ (some 69) rfl rfl Try.func18 (by kernel_rfl) rfl #[.slice Ao32 x9_1.length co32, .slice Ao33 t355.length co33] rfl (by (try simp only [lm_, lq_, lx_]); first | done | rfl | (simp only [ld_, lt_]; rfl)) ?_; (with_reducible refine (neumelaw24_meet.calls kj15 _ _ x9_1 _ _ t355 false _ ?side1 ?side2 ?side3 ?side4 A25.out).mono ?_); (case side1 => repeat (first | exact (Kd.R_reads' HO_9.out).2.2 | (with_reducible refine Kd.C_alloc ?_ _) | (with_reducible refine Kd.C_drewN ?_ _) | (with_reducible refine Kd.C_drew ?_))); (case side2 => exact (Kd.R_reads' HO_9.out).2.1); (case side3 => repeat (first | exact (Kd.R_reads' HO357.out).2.2 | (with_reducible refine Kd.C_alloc ?_ _) | (with_reducible refine Kd.C_drewN ?_ _) | (with_reducible refine Kd.C_drew ?_))); (case side4 => exact (Kd.R_reads' HO357.out).2.1); rintro e w34 ⟨rfl, hb⟩; refine ⟨_, rfl, ?_⟩; replace HO_7 := sd_ (Kd.R_below (by (with_reducible repeat (first | apply Kd.R_alloc | apply Kd.R_drewN | apply Kd.R_drew)); exact HO_7.out) hb); replace HO_9 := sd_ (Kd.R_below (by (with_reducible repeat (first | apply Kd.R_alloc | apply Kd.R_drewN | apply Kd.R_drew)); exact HO_9.out) hb); replace HO357 := sd_ (Kd.R_below (by (with_reducible repeat (first | apply Kd.R_alloc | apply Kd.R_drewN | apply Kd.R_drew)); exact HO357.out) hb); replace HB := hb_ HB e0_ hb; (try clear hb); (try clear hb2); (try clear hk); (try clear hi); have p359 : 0 ≤ (x10_1 : Int) := od_ (by first | (with_reducible assumption) | assumption); have q359 : x10_1 < (t339.length : Int) := od_ (by first | (with_reducible assumption) | assumption); obtain ⟨ad359, e359, hx359_0⟩ := Kd.at_int (Kd.R_reads' HO_7.out).2.2 x10_1 p359 q359; obtain rfl : ad354 = ad359 := (by injection e359); replace p359 := eq_true p359; replace q359 := eq_true q359) | ((with_reducible refine gate_builtin (b := .append) (xs := #[.tmp 91, .tmp 92]) rfl ?_); at_builtin; refine Kd.R_append_rows k45 (w0 := w) w.heap.size rfl (.tmp 91) (.tmp 92) 22 45 (.agg #[(.int .i64 0), (.int .i64 0), (.int .i64 0), (.int .i64 0)]) 32 rfl Try.underlying22 info45 rfl (by decide) (by omega) (.slice Ao32 x9_1.length co32) x9_1 t355 _ _ _ (fun k_ => some k_ ≠ (.slice Ao33 t355.length co33 : Value).ownBlock) (fun _ => False) rfl rfl ?aO ?aR (fun _ _ h => h) (fun _ h => h.elim) ?aF ?aB ?aS ?aL ?_; (case aR => repeat (first | exact (Kd.R_reads' HO357.out).2.2 | (with_reducible refine Kd.C_alloc ?_ _) | (with_reducible refine Kd.C_drewN ?_ _) | (with_reducible refine Kd.C_drew ?_))); (case aB => exact (bb_ HB.out e0_)); (case aF => exact (fun k_ hk => Kd.fresh' (Kd.R_lt (by (with_reducible repeat (first | apply Kd.R_alloc | apply Kd.R_drewN | apply Kd.R_drew)); exact HO357.out)) k_ hk)); (case aO => exact (by (with_reducible repeat (first | apply Kd.R_alloc | apply Kd.R_drewN | apply Kd.R_drew)); exact Kd.R_mono HO_9.out (fun _ hk => hk.2))); (case aS => exact (bz_ (bb_ HB.out e0_))); (case aL => have := LMc29.out; omega); intro v361 w35 ho hb hg hat; rw [← Ny360.out] at ho; have n0_ := sd_ (Kd.R_over' (by (with_reducible repeat (first | apply Kd.R_alloc | apply Kd.R_drewN | apply Kd.R_drew)); exact HO_7.out) (Kd.R_typed (by (with_reducible repeat (first | apply Kd.R_alloc | apply Kd.R_drewN | apply Kd.R_drew)); exact HO_9.out)) (by decide) hg); have n1_ := sd_ (Kd.R_after (ok := (fun _ => True)) (by (with_reducible repeat (first | apply Kd.R_alloc | apply Kd.R_drewN | apply Kd.R_drew)); exact HO357.out) hg hat); have n2_ := sd_ (hb); have n3_ := sd_ (ho); clear HO_7; clear HO357; clear HB; clear HO_9; have HO_7 := n0_; have HO357 := n1_; have HB := n2_; have HO362 := n3_; clear n0_ n1_ n2_ n3_; clear ho hb hg hat))
                  go_roundg kj15
                  case measure => have := HK1.out; have := HJ15.out; omega
                  case rel => exact ⟨(y360), (wrap64 (x10_1 + 1)), (by first | rfl | (simp; done) | (simp [*]; done) | (simp [bne]; done)), H', ⟨by have := HK1.out; have := HJ15.out; omega⟩, ⟨by (with_reducible repeat (first | apply Kd.R_alloc | apply Kd.R_drewN | apply Kd.R_drew)); exact HO_7.out⟩, ⟨by (with_reducible repeat (first | apply Kd.R_alloc | apply Kd.R_drewN | apply Kd.R_drew)); exact Kd.R_mono HO362.out (fun _ hk => trivial)⟩, ⟨by repeat (first | (with_reducible first | exact HB.out | apply ba_ | apply pd_ | apply d1_) | exact HB.out)⟩⟩
                 ·rw [if_neg c29] at H
                  exact absurd H (by simp)
               ·replace c27 := bf_ c27
                subst c27
                have H1 : (if (rd t339 x10_1) > 0 then (some false) else (if x9_1.length + t355.length < 4398046511104 then (neumelaw24_VoicesApart.l0 kj15 l1 false t339 (x9_1 ++ t355) (wrap64 (x10_1 + 1))) else (none))) = some r := by rw [if_neg (show ¬ (false = true) by decide)] at H; exact H
                clear H; have H := H1; clear H1
                by_cases c36 : (rd t339 x10_1) > 0
                ·rw [if_pos c36] at H
                 have c36b0 : decide (0 < (rd t339 x10_1)) = true := dt_ c36
                 clear c36
                 exact absurd ((Option.some.inj H).trans hxt.out) (by decide)
                ·rw [if_neg c36] at H
                 have c36b0 : decide (0 < (rd t339 x10_1)) = false := df_ c36
                 clear c36
                 by_cases c37 : x9_1.length + t355.length < 4398046511104
                 ·rw [if_pos c37] at H
                  have LMc37 := sd_ c37
                  clear c37
                  obtain ⟨y364, hy364⟩ : ∃ y_ : List (S45), y_ = (x9_1 ++ t355) := ⟨_, rfl⟩
                  replace H : (neumelaw24_VoicesApart.l0 kj15 l1 false t339 y364 (wrap64 (x10_1 + 1))) = some r := by first | (rw [hy364]; with_reducible exact H) | (have H2_ := (Option.bind_some _ _).symm.trans H; rw [hy364]; with_reducible exact H2_) | (have H2_ := (Option.bind_some _ _).symm.trans H; with_reducible exact H2_) | with_reducible exact H | (rw [hy364]; exact H) | exact H
                  have Ny364 := sd_ hy364
                  clear hy364
                  have H' := sd_ H
                  clear H
                  try go_wp2
                  replace HO_7 := sd_ (Kd.R_drew HO_7.out)
                  replace HO_9 := sd_ (Kd.R_drew HO_9.out)
                  replace HB := sd_ (d1_ HB.out)
                  have p353 : 0 ≤ (x10_1 : Int) := od_ (by first | (with_reducible assumption) | assumption)
                  have q353 : x10_1 < (l1.length : Int) := od_ (by first | (with_reducible assumption) | assumption)
                  obtain ⟨ad353, A353_0, c353_0, e353, hx353_0, hl353_0, hi353_0⟩ := at_L2 HR1.out x10_1 p353 q353
                  have hw353_0 := hx353_0
                  cases e353
                  replace hx353_0 := (HB.out.cell (wb_ w _ hx353_0)).trans hx353_0
                  have HR353_0 := sd_ hi353_0
                  have HC353_0 := sd_ hl353_0
                  clear hi353_0 hl353_0
                  replace p353 := eq_true p353
                  replace q353 := eq_true q353
                  have p354 : 0 ≤ (x10_1 : Int) := od_ (by first | (with_reducible assumption) | assumption)
                  have q354 : x10_1 < (t339.length : Int) := od_ (by first | (with_reducible assumption) | assumption)
                  obtain ⟨ad354, e354, hx354_0⟩ := Kd.at_int (Kd.R_reads' HO_7.out).2.2 x10_1 p354 q354
                  cases e354
                  replace p354 := eq_true p354
                  replace q354 := eq_true q354
                  refine start_ (n := 10) (S := fun w' => w'.cell? (ad353.add (x10_1).toNat) = some (.slice A353_0 (rd_L2 l1 x10_1).length c353_0) ∧ w'.cell? (ad354.add (x10_1).toNat) = some (.int .i64 (rd t339 x10_1))) (ds := []) (Array.replicate 10 false) (by kernel_rfl) rfl rfl ⟨((HB.out.cell (wb_ w _ hw353_0)).trans hw353_0), hx354_0⟩ (fun hHeld => ?_); refine with_tabW neumelaw24_VoicesApart.tab14 neumelaw24_VoicesApart.bits14 (fun HT_ HW_ => ?_)
                  generalize wc.drew = w38 at HO_7 HO_9 HB HR353_0 hx353_0 hx354_0 hHeld ⊢
                  refine pu_ (v := ?_) (a' := ?_) 0 58 (bz 10 1) rfl rfl HT_ (by kernel_rfl) (fun _ _ _ h => h) (by rfl) ?_ ?_ ?_
                  rotate_left; (intro w'; go_simp; with_reducible rfl); rotate_left; (simp only [Act.put, ls_, lz_, lc_, i64_w, i32_w]; rfl)
                  refine pu_ (v := ?_) (a' := ?_) 1 59 (bz 10 3) rfl rfl HT_ (by kernel_rfl) (fun _ _ _ h => h) (by rfl) ?_ ?_ ?_
                  rotate_left; (intro w'; go_simp; with_reducible rfl); rotate_left; (simp only [Act.put, ls_, lz_, lc_, i64_w, i32_w]; rfl)
                  refine pu_ (v := ?_) (a' := ?_) 2 60 (bz 10 7) rfl rfl HT_ (by kernel_rfl) (fun _ _ _ h => h) (by rfl) ?_ ?_ ?_
                  rotate_left; (intro w'; go_simp; with_reducible rfl); rotate_left; (simp only [Act.put, ls_, lz_, lc_, i64_w, i32_w]; rfl)
                  refine pu_ (v := ?_) (a' := ?_) 4 62 (bz 10 23) rfl rfl HT_ (by kernel_rfl) (fun _ _ _ h => h) (by rfl) ?_ ?_ ?_
                  rotate_left; (intro w'; go_simp; with_reducible rfl); rotate_left; (simp only [Act.put, ls_, lz_, lc_, i64_w, i32_w]; rfl)
                  refine pu_ (v := ?_) (a' := ?_) 5 63 (bz 10 55) rfl rfl HT_ (by kernel_rfl) (fun _ _ _ h => h) (by rfl) ?_ ?_ ?_
                  rotate_left; (intro w'; go_simp; with_reducible rfl); rotate_left; (simp only [Act.put, ls_, lz_, lc_, i64_w, i32_w]; rfl)
                  refine pu_ (v := ?_) (a' := ?_) 6 64 (bz 10 119) rfl rfl HT_ (by kernel_rfl) (fun _ _ _ h => h) (by rfl) ?_ ?_ ?_
                  rotate_left; (intro w'; go_simp; with_reducible rfl); rotate_left; (simp only [Act.put, ls_, lz_, lc_, i64_w, i32_w]; rfl)
                  refine ta_ (v := ?_) (a' := ?_) 3 61 (bz 10 127) rfl rfl HT_ HW_ (by kernel_rfl) (fun _ _ _ h => h) (by rfl) ?_ hHeld ?_ ?_
                  rotate_left
                  ·rintro w' ⟨s0, s1⟩
                   go_simp
                   with_reducible rfl
                  rotate_left
                  ·simp only [Act.put, ls_, lz_, lc_, i64_w, i32_w]
                   rfl
                  refine ta_ (v := ?_) (a' := ?_) 7 65 (bz 10 255) rfl rfl HT_ HW_ (by kernel_rfl) (fun _ _ _ h => h) (by rfl) ?_ hHeld ?_ ?_
                  rotate_left
                  ·rintro w' ⟨s0, s1⟩
                   go_simp
                   with_reducible rfl
                  rotate_left
                  ·simp only [Act.put, ls_, lz_, lc_, i64_w, i32_w]
                   rfl
                  refine on_ (N := some 66) 8 (bz 10 511) rfl rfl HT_ (by kernel_rfl) (by decide) (fun K hK => ?_)
                  refine goes_ Try.func17 (by kernel_rfl) rfl #[.slice A353_0 (rd_L2 l1 x10_1).length c353_0, .int .i64 (rd t339 x10_1)] (by rfl) rfl rfl (by (try simp only [lm_, lq_, lx_]); first | done | rfl | (simp only [ld_, lt_]; rfl)) ?_
                  with_reducible refine (neumelaw24_moved.calls kj15 _ _ (rd_L2 l1 x10_1) (rd t339 x10_1) t355 _ ?side1 ?side2 A24.out).mono ?_
                  (case side1 => repeat (first | exact (Kd.C_below HR353_0.out HB.out) | (with_reducible refine Kd.C_alloc ?_ _) | (with_reducible refine Kd.C_drewN ?_ _) | (with_reducible refine Kd.C_drew ?_)))
                  (case side2 => exact HC353_0.out)
                  rintro e w39 ⟨v356, rfl, ho0, hb⟩
                  have HS1_ := (hb.cell (wb_ _ _ (hHeld.2))).trans (hHeld.2)
                  refine ⟨_, rfl, ?_⟩
                  have HO357 := sd_ (Kd.R_lower (Kd.R_new' ho0 (Kd.R_lt (by (with_reducible repeat (first | apply Kd.R_alloc | apply Kd.R_drewN | apply Kd.R_drew)); exact HO_9.out))) (bz_ (bb_ HB.out e0_)))
                  replace HO_7 := sd_ (Kd.R_below (by (with_reducible repeat (first | apply Kd.R_alloc | apply Kd.R_drewN | apply Kd.R_drew)); exact HO_7.out) hb)
                  replace HO_9 := sd_ (Kd.R_elder' (by (with_reducible repeat (first | apply Kd.R_alloc | apply Kd.R_drewN | apply Kd.R_drew)); exact HO_9.out) (Kd.R_base ho0) hb)
                  replace HB := hb_ HB e0_ hb
                  (try clear hb)
                  (try clear hb2)
                  (try clear hk)
                  (try clear hi)
                  (try clear ho0)
                  refine hK.out _ _ ⟨((HB.out.cell (wb_ w _ hw353_0)).trans hw353_0), HS1_⟩ (fun hHeld => ?_)
                  clear hK K
                  refine norm_ (a' := ?_) ?_ ?_
                  rotate_left
                  ·show Act.put _ (some 66) _ = _
                   simp only [Act.put, ls_, lz_, lc_, i64_w, i32_w]
                   rfl
                  refine pu_ (v := ?_) (a' := ?_) 9 11 (bz 10 1023) rfl rfl HT_ (by kernel_rfl) (fun _ _ _ h => h) (by rfl) ?_ ?_ ?_
                  rotate_left; (intro w'; go_simp; with_reducible rfl); rotate_left; (simp only [Act.put, ls_, lz_, lc_, i64_w, i32_w]; rfl)
                  refine done_ (done_of HT_.out (by kernel_rfl)) ?_
                  obtain ⟨Ao40, co40, eo40⟩ := Kd.R_slice HO_9.out
                  subst eo40
                  obtain ⟨Ao41, co41, eo41⟩ := Kd.R_slice HO357.out
                  subst eo41
                  try go_wp2_with (first | ((with_reducible refine gate_callee (f := 18) rfl ?_); refine goesL_ (some 69) rfl rfl Try.func18 (by kernel_rfl) rfl #[.slice Ao40 x9_1.length co40, .slice Ao41 t355.length co41] rfl (by (try simp only [lm_, lq_, lx_]); first | done | rfl | (simp only [ld_, lt_]; rfl)) ?_; (with_reducible refine (neumelaw24_meet.calls kj15 _ _ x9_1 _ _ t355 false _ ?side1 ?side2 ?side3 ?side4 A25.out).mono ?_); (case side1 => repeat (first | exact (Kd.R_reads' HO_9.out).2.2 | (with_reducible refine Kd.C_alloc ?_ _) | (with_reducible refine Kd.C_drewN ?_ _) | (with_reducible refine Kd.C_drew ?_))); (case side2 => exact (Kd.R_reads' HO_9.out).2.1); (case side3 => repeat (first | exact (Kd.R_reads' HO357.out).2.2 | (with_reducible refine Kd.C_alloc ?_ _) | (with_reducible refine Kd.C_drewN ?_ _) | (with_reducible refine Kd.C_drew ?_))); (case side4 => exact (Kd.R_reads' HO357.out).2.1); rintro e w42 ⟨rfl, hb⟩; refine ⟨_, rfl, ?_⟩; replace HO_7 := sd_ (Kd.R_below (by (with_reducible repeat (first | apply Kd.R_alloc | apply Kd.R_drewN | apply Kd.R_drew)); exact HO_7.out) hb); replace HO_9 := sd_ (Kd.R_below (by (with_reducible repeat (first | apply Kd.R_alloc | apply Kd.R_drewN | apply Kd.R_drew)); exact HO_9.out) hb); replace HO357 := sd_ (Kd.R_below (by (with_reducible repeat (first | apply Kd.R_alloc | apply Kd.R_drewN | apply Kd.R_drew)); exact HO357.out) hb); replace HB := hb_ HB e0_ hb; (try clear hb); (try clear hb2); (try clear hk); (try clear hi); have p363 : 0 ≤ (x10_1 : Int) := od_ (by first | (with_reducible assumption) | assumption); have q363 : x10_1 < (t339.length : Int) := od_ (by first | (with_reducible assumption) | assumption); obtain ⟨ad363, e363, hx363_0⟩ := Kd.at_int (Kd.R_reads' HO_7.out).2.2 x10_1 p363 q363; obtain rfl : ad354 = ad363 := (by injection e363); replace p363 := eq_true p363; replace q363 := eq_true q363) | ((with_reducible refine gate_builtin (b := .append) (xs := #[.tmp 91, .tmp 92]) rfl ?_); at_builtin; refine Kd.R_append_rows k45 (w0 := w) w.heap.size rfl (.tmp 91) (.tmp 92) 22 45 (.agg #[(.int .i64 0), (.int .i64 0), (.int .i64 0), (.int .i64 0)]) 32 rfl Try.underlying22 info45 rfl (by decide) (by omega) (.slice Ao40 x9_1.length co40) x9_1 t355 _ _ _ (fun k_ => some k_ ≠ (.slice Ao41 t355.length co41 : Value).ownBlock) (fun _ => False) rfl rfl ?aO ?aR (fun _ _ h => h) (fun _ h => h.elim) ?aF ?aB ?aS ?aL ?_; (case aR => repeat (first | exact (Kd.R_reads' HO357.out).2.2 | (with_reducible refine Kd.C_alloc ?_ _) | (with_reducible refine Kd.C_drewN ?_ _) | (with_reducible refine Kd.C_drew ?_))); (case aB => exact (bb_ HB.out e0_)); (case aF => exact (fun k_ hk => Kd.fresh' (Kd.R_lt (by (with_reducible repeat (first | apply Kd.R_alloc | apply Kd.R_drewN | apply Kd.R_drew)); exact HO357.out)) k_ hk)); (case aO => exact (by (with_reducible repeat (first | apply Kd.R_alloc | apply Kd.R_drewN | apply Kd.R_drew)); exact Kd.R_mono HO_9.out (fun _ hk => hk.2))); (case aS => exact (bz_ (bb_ HB.out e0_))); (case aL => have := LMc37.out; omega); intro v365 w43 ho hb hg hat; rw [← Ny364.out] at ho; have n0_ := sd_ (Kd.R_over' (by (with_reducible repeat (first | apply Kd.R_alloc | apply Kd.R_drewN | apply Kd.R_drew)); exact HO_7.out) (Kd.R_typed (by (with_reducible repeat (first | apply Kd.R_alloc | apply Kd.R_drewN | apply Kd.R_drew)); exact HO_9.out)) (by decide) hg); have n1_ := sd_ (Kd.R_after (ok := (fun _ => True)) (by (with_reducible repeat (first | apply Kd.R_alloc | apply Kd.R_drewN | apply Kd.R_drew)); exact HO357.out) hg hat); have n2_ := sd_ (hb); have n3_ := sd_ (ho); clear HO_7; clear HO357; clear HB; clear HO_9; have HO_7 := n0_; have HO357 := n1_; have HB := n2_; have HO366 := n3_; clear n0_ n1_ n2_ n3_; clear ho hb hg hat))
                  go_roundg kj15
                  case measure => have := HK1.out; have := HJ15.out; omega
                  case rel => exact ⟨(y364), (wrap64 (x10_1 + 1)), (by first | rfl | (simp; done) | (simp [*]; done) | (simp [bne]; done)), H', ⟨by have := HK1.out; have := HJ15.out; omega⟩, ⟨by (with_reducible repeat (first | apply Kd.R_alloc | apply Kd.R_drewN | apply Kd.R_drew)); exact HO_7.out⟩, ⟨by (with_reducible repeat (first | apply Kd.R_alloc | apply Kd.R_drewN | apply Kd.R_drew)); exact Kd.R_mono HO366.out (fun _ hk => trivial)⟩, ⟨by repeat (first | (with_reducible first | exact HB.out | apply ba_ | apply pd_ | apply d1_) | exact HB.out)⟩⟩
                 ·rw [if_neg c37] at H
                  exact absurd H (by simp)
             ·rw [if_neg c23] at H
              exact absurd H (by simp)
            ·rw [if_neg c22] at H
             exact absurd H (by simp)
           ·rw [if_neg c21] at H
            exact absurd H (by simp)
       ·rw [if_neg c15] at H
        have c15b0 : decide (x10_1 < (l1.length : Int)) = false := df_ c15
        clear c15
        replace H := ob_ H
        obtain ⟨t350, A440, H⟩ := H
        replace H : (some t350) = some r := H
        have A44 := sd_ A440
        clear A440
        obtain rfl := Option.some.inj H
        go_wp2_with (first | ((with_reducible refine gate_callee (f := 7) rfl ?_); refine goesL_ (some 94) rfl rfl Try.func7 (by kernel_rfl) rfl #[] rfl (by (try simp only [lm_, lq_, lx_]); first | done | rfl | (simp only [ld_, lt_]; rfl)) ?_; (with_reducible refine (neumelaw24_heads.calls k1  t350 _ A44.out).mono ?_); rintro e w45 ⟨rfl, hb⟩; refine ⟨_, rfl, ?_⟩; replace HO_7 := sd_ (Kd.R_below (by (with_reducible repeat (first | apply Kd.R_alloc | apply Kd.R_drewN | apply Kd.R_drew)); exact HO_7.out) hb); replace HO_9 := sd_ (Kd.R_below (by (with_reducible repeat (first | apply Kd.R_alloc | apply Kd.R_drewN | apply Kd.R_drew)); exact HO_9.out) hb); replace HB := hb_ HB e0_ hb; (try clear hb); (try clear hb2); (try clear hk); (try clear hi)))
        go_ret
        exact ⟨by first | rfl | (simp [errW_none, errW_some] <;> rfl) | (simp [*, errW_none, errW_some] <;> rfl), by repeat (first | (with_reducible first | exact HB.out | apply ba_ | apply pd_ | apply d1_) | exact HB.out)⟩
    ·rw [if_neg c9] at H
     exact absurd H (by simp)
   ·rw [if_neg c8] at H
    have c8b0 : ((t339.length : Int) == (l1.length : Int)) = false := beq_eq_false_iff_ne.mpr c8
    have c8b1 : ((t339.length : Int) != (l1.length : Int)) = true := bne_iff_ne.mpr c8
    have c8b2 : (t339.length == l1.length) = false := by first | simpa using c8 | (simp at c8 ⊢; omega)
    exact absurd ((Option.some.inj H).trans hxt.out) (by decide)
  ·rw [if_neg c7] at H
   have c7b0 : (t340 == 0) = false := beq_eq_false_iff_ne.mpr c7
   have c7b1 : (t340 != 0) = true := bne_iff_ne.mpr c7
   by_cases c46 : (t339.length : Int) = 0
   ·rw [if_pos c46] at H
    have c46b0 : ((t339.length : Int) == 0) = true := beq_iff_eq.mpr c46
    have c46b1 : ((t339.length : Int) != 0) = false := bne_eq_false_iff_eq.mpr c46
    clear c46
    replace H := ob_ H
    obtain ⟨t343, A470, H⟩ := H
    replace H : (some t343) = some r := H
    have A47 := sd_ A470
    clear A470
    obtain rfl := Option.some.inj H
    go_enter Try.func4, Try.ntmps4
    go_wp2_with (first | ((with_reducible refine gate_callee (f := 6) rfl ?_); refine goesL_ (some 14) rfl rfl Try.func6 (by kernel_rfl) rfl #[.slice A0 l0.length c0, .slice A1 l1.length c1] rfl (by (try simp only [lm_, lq_, lx_]); first | done | rfl | (simp only [ld_, lt_]; rfl)) ?_; (with_reducible refine (neumelaw24_few.calls k _ _ l0 _ _ l1 true _ ?side1 ?side2 ?side3 ?side4 A4.out).mono ?_); (case side1 => repeat (first | exact HR0.out | (with_reducible refine Kd.C_alloc ?_ _) | (with_reducible refine Kd.C_drewN ?_ _) | (with_reducible refine Kd.C_drew ?_))); (case side2 => exact HC0.out); (case side3 => repeat (first | exact HR1.out | (with_reducible refine Kd.C_alloc ?_ _) | (with_reducible refine Kd.C_drewN ?_ _) | (with_reducible refine Kd.C_drew ?_))); (case side4 => exact HC1.out); rintro e w' ⟨rfl, ⟨nd, rfl⟩⟩; refine ⟨_, rfl, ?_⟩) | ((with_reducible refine gate_callee (f := 8) rfl ?_); refine goesL_ (some 21) rfl rfl Try.func8 (by kernel_rfl) rfl #[.slice A0 l0.length c0, .slice A1 l1.length c1, .bool a2] rfl (by (try simp only [lm_, lq_, lx_]); first | done | rfl | (simp only [ld_, lt_]; rfl)) ?_; (with_reducible refine (voices_Row.calls k _ _ l0 _ _ l1 a2 t339 t340 _ ?side1 ?side2 ?side3 ?side4 A6.out).mono ?_); (case side1 => repeat (first | exact HR0.out | (with_reducible refine Kd.C_alloc ?_ _) | (with_reducible refine Kd.C_drewN ?_ _) | (with_reducible refine Kd.C_drew ?_))); (case side2 => exact HC0.out); (case side3 => repeat (first | exact HR1.out | (with_reducible refine Kd.C_alloc ?_ _) | (with_reducible refine Kd.C_drewN ?_ _) | (with_reducible refine Kd.C_drew ?_))); (case side4 => exact HC1.out); rintro e w48 ⟨v341, rfl, ho0, hb⟩; refine ⟨_, rfl, ?_⟩; have HO342 := sd_ (Kd.R_lower ho0 (bz_ (bb_ HB.out e0_))); replace HB := hb_ HB e0_ hb; (try clear hb); (try clear hb2); (try clear hk); (try clear hi); (try clear ho0); obtain ⟨Ao49, co49, eo49⟩ := Kd.R_slice HO342.out; subst eo49) | (go_at_call 7; (with_reducible refine (neumelaw24_heads.calls k  t343 _ A47.out).mono ?_); rintro e w50 ⟨rfl, hb⟩; replace HO342 := sd_ (Kd.R_below (by (with_reducible repeat (first | apply Kd.R_alloc | apply Kd.R_drewN | apply Kd.R_drew)); exact HO342.out) hb); replace HB := hb_ HB e0_ hb; (try clear hb); (try clear hb2); (try clear hk); (try clear hi)))
    go_ret
    exact ⟨by first | rfl | (simp [errW_none, errW_some] <;> rfl) | (simp [*, errW_none, errW_some] <;> rfl), by repeat (first | (with_reducible first | exact HB.out | apply ba_ | apply pd_ | apply d1_) | exact HB.out)⟩
   ·rw [if_neg c46] at H
    have c46b0 : ((t339.length : Int) == 0) = false := beq_eq_false_iff_ne.mpr c46
    have c46b1 : ((t339.length : Int) != 0) = true := bne_iff_ne.mpr c46
    have c46b2 : ¬ (t339 = []) := fun h_ => c46 (by rw [h_]; rfl)
    exact absurd ((Option.some.inj H).trans hxt.out) (by decide)
 ·replace c5 := bf_ c5
  subst c5
  have H1 : ((neumelaw24_heads.f k).bind fun t338 => (some t338)) = some r := by rw [if_neg (show ¬ (false = true) by decide)] at H; exact H
  clear H; have H := H1; clear H1
  replace H := ob_ H
  obtain ⟨t338, A510, H⟩ := H
  replace H : (some t338) = some r := H
  have A51 := sd_ A510
  clear A510
  obtain rfl := Option.some.inj H
  go_enter Try.func4, Try.ntmps4
  go_wp2_with (first | ((with_reducible refine gate_callee (f := 6) rfl ?_); refine goesL_ (some 14) rfl rfl Try.func6 (by kernel_rfl) rfl #[.slice A0 l0.length c0, .slice A1 l1.length c1] rfl (by (try simp only [lm_, lq_, lx_]); first | done | rfl | (simp only [ld_, lt_]; rfl)) ?_; (with_reducible refine (neumelaw24_few.calls k _ _ l0 _ _ l1 false _ ?side1 ?side2 ?side3 ?side4 A4.out).mono ?_); (case side1 => repeat (first | exact HR0.out | (with_reducible refine Kd.C_alloc ?_ _) | (with_reducible refine Kd.C_drewN ?_ _) | (with_reducible refine Kd.C_drew ?_))); (case side2 => exact HC0.out); (case side3 => repeat (first | exact HR1.out | (with_reducible refine Kd.C_alloc ?_ _) | (with_reducible refine Kd.C_drewN ?_ _) | (with_reducible refine Kd.C_drew ?_))); (case side4 => exact HC1.out); rintro e w' ⟨rfl, ⟨nd, rfl⟩⟩; refine ⟨_, rfl, ?_⟩) | ((with_reducible refine gate_callee (f := 7) rfl ?_); refine goesL_ (some 16) rfl rfl Try.func7 (by kernel_rfl) rfl #[] rfl (by (try simp only [lm_, lq_, lx_]); first | done | rfl | (simp only [ld_, lt_]; rfl)) ?_; (with_reducible refine (neumelaw24_heads.calls k  t338 _ A51.out).mono ?_); rintro e w52 ⟨rfl, hb⟩; refine ⟨_, rfl, ?_⟩; replace HB := hb_ HB e0_ hb; (try clear hb); (try clear hb2); (try clear hk); (try clear hi)))
  go_ret
  exact ⟨by first | rfl | (simp [errW_none, errW_some] <;> rfl) | (simp [*, errW_none, errW_some] <;> rfl), by repeat (first | (with_reducible first | exact HB.out | apply ba_ | apply pd_ | apply d1_) | exact HB.out)⟩

end Go.Proofs.Ytchmcljinkemaaa.P
