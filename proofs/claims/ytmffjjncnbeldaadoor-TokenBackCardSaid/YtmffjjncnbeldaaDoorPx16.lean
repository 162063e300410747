-- Written by a program of this session (wip/tools/xprint.py, over the kit's print): Lean checks it.
import Derived.Test.YtmffjjncnbeldaaDoorPx0
import Derived.Test.YtmffjjncnbeldaaDoorPx3
import Derived.Test.YtmffjjncnbeldaaDoorPx4
import Derived.Test.YtmffjjncnbeldaaDoorPx5
import Derived.Test.YtmffjjncnbeldaaDoorPx6
import Derived.Test.YtmffjjncnbeldaaDoorPx11
import Derived.Test.YtmffjjncnbeldaaDoorPx15
namespace Go.Proofs.YtmffjjncnbeldaaDoor.P
open Go.RowKit Go.Proofs.YtmffjjncnbeldaaDoorW.PrintWords Go.Proofs.YtmffjjncnbeldaaDoorW.PrintLast Go.Proofs.YtmffjjncnbeldaaDoorW.PrintMore
attribute [local go_sem] max2_int min2_int max_two min_two max_three min_three max_four min_four   -- for this text's walks alone
set_option linter.unusedVariables false
set_option linter.unusedSimpArgs false

/-! ### neumelaw08_TokenBack: function 5 -/
def neumelaw08_TokenBack.j0 : Nat → List (S34) → Bool → Option (Bool)
 | 0, _, _ => none
 | k + 1, x0, x12 => if x12 = true then ((neumelaw08_heads.f k).bind fun t304 => (some t304)) else ((token_Join.f k x0).bind fun t305 => ((token_Scan.f k t305).bind fun bt306 => (if bt306.2.1 = 0 then ((neumeref08_Alike.f k x0 bt306.1).bind fun t312 => (if t312 = true then ((token_Check.f k bt306.1).bind fun t313 => (if t313 = true then ((neumelaw08_heads.f k).bind fun t314 => (some t314)) else (some false))) else (some false))) else (some false))))
def neumelaw08_TokenBack.f (k : Nat) (l0 : List (S34)) : Option (Bool) := (neumelaw08_few.f k l0).bind fun t302 => (if t302 = true then ((token_Check.f k l0).bind fun t303 => (neumelaw08_TokenBack.j0 k l0 (!t303))) else (neumelaw08_TokenBack.j0 k l0 true))
theorem neumelaw08_TokenBack.mono_l : ∀ k, (∀ y0 y1, LeO (neumelaw08_TokenBack.j0 k y0 y1) (neumelaw08_TokenBack.j0 (k + 1) y0 y1))
 | 0 => fun _ _ r h => by simp [neumelaw08_TokenBack.j0] at h
 | k + 1 => by
  have ih0 := neumelaw08_TokenBack.mono_l k
  ·intro y0 y1
   unfold neumelaw08_TokenBack.j0
   repeat' first
   | (with_reducible exact ih0 _ _)
   | (with_reducible exact neumelaw08_few.mono _ _)
   | (with_reducible exact neumelaw08_heads.mono _)
   | (with_reducible exact neumeref08_Alike.mono _ _ _)
   | (with_reducible exact token_Check.mono _ _)
   | (with_reducible exact token_Join.mono _ _)
   | (with_reducible exact token_Scan.mono _ _)
   | (with_reducible exact LeO.refl _)
   | (with_reducible exact LeO.none _)
   | (with_reducible refine LeO.ite ?_ ?_)
   | (with_reducible refine LeO.bind ?_ (fun _ => ?_))
   | exact ih0 _ _
   | exact neumelaw08_few.mono _ _
   | exact neumelaw08_heads.mono _
   | exact neumeref08_Alike.mono _ _ _
   | exact token_Check.mono _ _
   | exact token_Join.mono _ _
   | exact token_Scan.mono _ _
   | exact LeO.none _
   | refine LeO.ite ?_ ?_
   | refine LeO.bind ?_ (fun _ => ?_)
theorem neumelaw08_TokenBack.mono : ∀ a0 k, LeO (neumelaw08_TokenBack.f k a0) (neumelaw08_TokenBack.f (k + 1) a0) := by
 intro a0 k
 have ih0 := neumelaw08_TokenBack.mono_l k
 unfold neumelaw08_TokenBack.f
 repeat' first
   | (with_reducible exact ih0 _ _)
   | (with_reducible exact neumelaw08_few.mono _ _)
   | (with_reducible exact neumelaw08_heads.mono _)
   | (with_reducible exact neumeref08_Alike.mono _ _ _)
   | (with_reducible exact token_Check.mono _ _)
   | (with_reducible exact token_Join.mono _ _)
   | (with_reducible exact token_Scan.mono _ _)
   | (with_reducible exact LeO.refl _)
   | (with_reducible exact LeO.none _)
   | (with_reducible refine LeO.ite ?_ ?_)
   | (with_reducible refine LeO.bind ?_ (fun _ => ?_))
   | exact ih0 _ _
   | exact neumelaw08_few.mono _ _
   | exact neumelaw08_heads.mono _
   | exact neumeref08_Alike.mono _ _ _
   | exact token_Check.mono _ _
   | exact token_Join.mono _ _
   | exact token_Scan.mono _ _
   | exact LeO.none _
   | refine LeO.ite ?_ ?_
   | refine LeO.bind ?_ (fun _ => ?_)
set_option maxHeartbeats 8000000 in
set_option maxRecDepth 100000 in
theorem neumelaw08_TokenBack.calls (k : Nat) (A0 : Option Addr) (c0 : Nat) (l0 : List (S34)) (r : Bool) (w : World) (hr0 : Kd.C k34 w A0 l0.length l0) (hc0 : l0.length ≤ c0) (hE : Aside0 (LaidE w)) (hxt : Aside0 (r = true)) (h : neumelaw08_TokenBack.f k l0 = some r) :
  Calls Tryd.prog 5 #[.slice A0 l0.length c0] w fun e w' => e = .returned (.bool r) ∧ Below w.heap.size w w' := by
 have hu26 := Tryd.underlying26
 have HR0 := sd_ hr0
 have HC0 := sd_ hc0
 clear hr0 hc0
 have HB := sd_ (Below.refl w.heap.size w)
 have H : ((neumelaw08_few.f k l0).bind fun t302 => (if t302 = true then ((token_Check.f k l0).bind fun t303 => (neumelaw08_TokenBack.j0 k l0 (!t303))) else (neumelaw08_TokenBack.j0 k l0 true))) = some r := h
 clear h
 have HC2 := sd_ H
 clear H
 go_enter Tryd.func5, Tryd.ntmps5
 go_upto_region 1 with (fail)
 go_cut [12] (fun v12 wc => ∃ (kq : Nat) (x12_1 : Bool), v12 = .bool x12_1 ∧ Aside0 (neumelaw08_TokenBack.j0 kq l0 x12_1 = some r) ∧ Aside0 (kq ≤ k) ∧ Aside0 (Below w.heap.size w wc))
 case first =>
  have H := HC2.out
  clear HC2
  replace H := ob_ H
  obtain ⟨t302, A30, H⟩ := H
  replace H : (if t302 = true then ((token_Check.f k l0).bind fun t303 => (neumelaw08_TokenBack.j0 k l0 (!t303))) else (neumelaw08_TokenBack.j0 k l0 true)) = some r := H
  have A3 := sd_ A30
  clear A30
  by_cases c4 : t302 = true
  ·subst c4
   have H1 : ((token_Check.f k l0).bind fun t303 => (neumelaw08_TokenBack.j0 k l0 (!t303))) = some r := by rw [if_pos rfl] at H; exact H
   clear H; have H := H1; clear H1
   replace H := ob_ H
   obtain ⟨t303, A50, H⟩ := H
   replace H : (neumelaw08_TokenBack.j0 k l0 (!t303)) = some r := H
   have A5 := sd_ A50
   clear A50
   have H' := sd_ H
   clear H
   go_wp2_with (first | ((with_reducible refine gate_callee (f := 12) rfl ?_); refine goesL_ (some 6) rfl rfl Tryd.func12 (by kernel_rfl) rfl #[.slice A0 l0.length c0] rfl (by (try simp only [lm_, lq_, lx_]); first | done | rfl | (simp only [ld_, lt_]; rfl)) ?_; (with_reducible refine (neumelaw08_few.calls k _ _ l0 true _ ?side1 ?side2 A3.out).mono ?_); (case side1 => repeat (first | exact (Kd.C_below HR0.out HB.out) | (with_reducible refine Kd.C_alloc ?_ _) | (with_reducible refine Kd.C_drewN ?_ _) | (with_reducible refine Kd.C_drew ?_))); (case side2 => exact HC0.out); rintro e w' ⟨rfl, ⟨nd, rfl⟩⟩; refine ⟨_, rfl, ?_⟩) | (go_at_call 13; (with_reducible refine (token_Check.calls k _ _ l0 t303 _ ?side1 ?side2 ?side3 A5.out).mono ?_); (case side1 => repeat (first | exact (Kd.C_below HR0.out (bb_ HB.out e0_)) | (with_reducible refine Kd.C_alloc ?_ _) | (with_reducible refine Kd.C_drewN ?_ _) | (with_reducible refine Kd.C_drew ?_))); (case side2 => exact HC0.out); (case side3 => first | (with_reducible exact hE) | exact sd_ (LaidE.below hE.out (bb_ HB.out e0_))); rintro e w6 ⟨rfl, hb⟩; replace HB := hb_ HB e0_ hb; (try clear hb); (try clear hb2); (try clear hk); (try clear hi)))
   go_meet
   case rel => exact ⟨_, (!t303), (by first | rfl | (simp; done) | (simp [*]; done) | (simp [bne]; done)), H', ⟨by first | omega | exact Nat.le_refl _⟩, ⟨by repeat (first | (with_reducible first | exact HB.out | apply ba_ | apply pd_ | apply d1_) | exact HB.out)⟩⟩
  ·replace c4 := bf_ c4
   subst c4
   have H1 : (neumelaw08_TokenBack.j0 k l0 true) = some r := by rw [if_neg (show ¬ (false = true) by decide)] at H; exact H
   clear H; have H := H1; clear H1
   have H' := sd_ H
   clear H
   go_wp2_with (first | ((with_reducible refine gate_callee (f := 12) rfl ?_); refine goesL_ (some 6) rfl rfl Tryd.func12 (by kernel_rfl) rfl #[.slice A0 l0.length c0] rfl (by (try simp only [lm_, lq_, lx_]); first | done | rfl | (simp only [ld_, lt_]; rfl)) ?_; (with_reducible refine (neumelaw08_few.calls k _ _ l0 false _ ?side1 ?side2 A3.out).mono ?_); (case side1 => repeat (first | exact (Kd.C_below HR0.out HB.out) | (with_reducible refine Kd.C_alloc ?_ _) | (with_reducible refine Kd.C_drewN ?_ _) | (with_reducible refine Kd.C_drew ?_))); (case side2 => exact HC0.out); rintro e w' ⟨rfl, ⟨nd, rfl⟩⟩; refine ⟨_, rfl, ?_⟩))
   go_meet
   case rel => exact ⟨_, (true), (by first | rfl | (simp; done) | (simp [*]; done) | (simp [bne]; done)), H', ⟨by first | omega | exact Nat.le_refl _⟩, ⟨by repeat (first | (with_reducible first | exact HB.out | apply ba_ | apply pd_ | apply d1_) | exact HB.out)⟩⟩
 case rest =>
  clear HC2
  try clear c1; try clear p2; try clear c4; try clear c5
  obtain ⟨kq, x12_1, rfl, HA, HJ1, HB⟩ := hcut
  cases kq with
  | zero => exact absurd HA.out (by simp [neumelaw08_TokenBack.j0])
  | succ kj1 =>
   have H := HA.out
   clear HA
   simp only [neumelaw08_TokenBack.j0] at H
   by_cases c7 : x12_1 = true
   ·subst c7
    have H1 : ((neumelaw08_heads.f kj1).bind fun t304 => (some t304)) = some r := by rw [if_pos rfl] at H; exact H
    clear H; have H := H1; clear H1
    replace H := ob_ H
    obtain ⟨t304, A80, H⟩ := H
    replace H : (some t304) = some r := H
    have A8 := sd_ A80
    clear A80
    obtain rfl := Option.some.inj H
    go_wp2_with (first | ((with_reducible refine gate_callee (f := 8) rfl ?_); refine goesL_ (some 13) rfl rfl Tryd.func8 (by kernel_rfl) rfl #[] rfl (by (try simp only [lm_, lq_, lx_]); first | done | rfl | (simp only [ld_, lt_]; rfl)) ?_; (with_reducible refine (neumelaw08_heads.calls kj1  t304 _ ?side1 A8.out).mono ?_); (case side1 => first | (with_reducible exact hE) | exact sd_ (LaidE.below hE.out (bb_ HB.out e0_))); rintro e w9 ⟨rfl, hb⟩; refine ⟨_, rfl, ?_⟩; replace HB := hb_ HB e0_ hb; (try clear hb); (try clear hb2); (try clear hk); (try clear hi)))
    go_ret
    exact ⟨by first | rfl | (simp [errW_none, errW_some] <;> rfl) | (simp [*, errW_none, errW_some] <;> rfl), by repeat (first | (with_reducible first | exact HB.out | apply ba_ | apply pd_ | apply d1_) | exact HB.out)⟩
   ·replace c7 := bf_ c7
    subst c7
    have H1 : ((token_Join.f kj1 l0).bind fun t305 => ((token_Scan.f kj1 t305).bind fun bt306 => (if bt306.2.1 = 0 then ((neumeref08_Alike.f kj1 l0 bt306.1).bind fun t312 => (if t312 = true then ((token_Check.f kj1 bt306.1).bind fun t313 => (if t313 = true then ((neumelaw08_heads.f kj1).bind fun t314 => (some t314)) else (some false))) else (some false))) else (some false)))) = some r := by rw [if_neg (show ¬ (false = true) by decide)] at H; exact H
    clear H; have H := H1; clear H1
    replace H := ob_ H
    obtain ⟨t305, A100, H⟩ := H
    replace H : ((token_Scan.f kj1 t305).bind fun bt306 => (if bt306.2.1 = 0 then ((neumeref08_Alike.f kj1 l0 bt306.1).bind fun t312 => (if t312 = true then ((token_Check.f kj1 bt306.1).bind fun t313 => (if t313 = true then ((neumelaw08_heads.f kj1).bind fun t314 => (some t314)) else (some false))) else (some false))) else (some false))) = some r := H
    have A10 := sd_ A100
    clear A100
    replace H := ob_ H
    obtain ⟨⟨t306, t309, t310⟩, A110, H⟩ := H
    replace H : (if t309 = 0 then ((neumeref08_Alike.f kj1 l0 t306).bind fun t312 => (if t312 = true then ((token_Check.f kj1 t306).bind fun t313 => (if t313 = true then ((neumelaw08_heads.f kj1).bind fun t314 => (some t314)) else (some false))) else (some false))) else (some false)) = some r := H
    have A11 := sd_ A110
    clear A110
    by_cases c12 : t309 = 0
    ·rw [if_pos c12] at H
     have c12b0 : (t309 == 0) = true := beq_iff_eq.mpr c12
     have c12b1 : (t309 != 0) = false := bne_eq_false_iff_eq.mpr c12
     clear c12
     replace H := ob_ H
     obtain ⟨t312, A130, H⟩ := H
     replace H : (if t312 = true then ((token_Check.f kj1 t306).bind fun t313 => (if t313 = true then ((neumelaw08_heads.f kj1).bind fun t314 => (some t314)) else (some false))) else (some false)) = some r := H
     have A13 := sd_ A130
     clear A130
     by_cases c14 : t312 = true
     ·subst c14
      have H1 : ((token_Check.f kj1 t306).bind fun t313 => (if t313 = true then ((neumelaw08_heads.f kj1).bind fun t314 => (some t314)) else (some false))) = some r := by rw [if_pos rfl] at H; exact H
      clear H; have H := H1; clear H1
      replace H := ob_ H
      obtain ⟨t313, A150, H⟩ := H
      replace H : (if t313 = true then ((neumelaw08_heads.f kj1).bind fun t314 => (some t314)) else (some false)) = some r := H
      have A15 := sd_ A150
      clear A150
      by_cases c16 : t313 = true
      ·subst c16
       have H1 : ((neumelaw08_heads.f kj1).bind fun t314 => (some t314)) = some r := by rw [if_pos rfl] at H; exact H
       clear H; have H := H1; clear H1
       replace H := ob_ H
       obtain ⟨t314, A170, H⟩ := H
       replace H : (some t314) = some r := H
       have A17 := sd_ A170
       clear A170
       obtain rfl := Option.some.inj H
       go_wp2_with (first | ((with_reducible refine gate_callee (f := 15) rfl ?_); refine goesL_ (some 16) rfl rfl Tryd.func15 (by kernel_rfl) rfl #[.slice A0 l0.length c0] rfl (by (try simp only [lm_, lq_, lx_]); first | done | rfl | (simp only [ld_, lt_]; rfl)) ?_; (with_reducible refine (token_Join.calls kj1 _ _ l0 t305 _ ?side1 ?side2 ?side3 A10.out).mono ?_); (case side1 => repeat (first | exact (Kd.C_below HR0.out HB.out) | (with_reducible refine Kd.C_alloc ?_ _) | (with_reducible refine Kd.C_drewN ?_ _) | (with_reducible refine Kd.C_drew ?_))); (case side2 => exact HC0.out); (case side3 => first | (with_reducible exact hE) | exact sd_ (LaidE.below hE.out (bb_ HB.out e0_))); rintro e w18 ⟨rfl, hb⟩; refine ⟨_, rfl, ?_⟩; replace HB := hb_ HB e0_ hb; (try clear hb); (try clear hb2); (try clear hk); (try clear hi)) | ((with_reducible refine gate_callee (f := 9) rfl ?_); refine goesL_ (some 17) rfl rfl Tryd.func9 (by kernel_rfl) rfl #[.string t305] rfl (by (try simp only [lm_, lq_, lx_]); first | done | rfl | (simp only [ld_, lt_]; rfl)) ?_; (with_reducible refine (token_Scan.calls kj1 t305 t306 t309 t310 _ ?side1 A11.out).mono ?_); (case side1 => first | (with_reducible exact hE) | exact sd_ (LaidE.below hE.out (bb_ HB.out e0_))); rintro e w19 ⟨v307, rfl, ho0, hb⟩; refine ⟨_, rfl, ?_⟩; have HO308 := sd_ (Kd.R_lower ho0 (bz_ (bb_ HB.out e0_))); replace HB := hb_ HB e0_ hb; (try clear hb); (try clear hb2); (try clear hk); (try clear hi); (try clear ho0)) | ((with_reducible refine gate_dst (N := 4) rfl ?_); refine box_event ?hg (N := 4) ?hd (cs := #[.int .i64 0, .int .i64 0]) (t := 26) ?hr ?_; (case hd => rfl); (case hg => rfl); (case hr => first | (go_simp; done) | (go_simp; rfl)); intro gb311 hg w20 hbox hb; have BK311 := sd_ hbox; have GW311 := gw_ HB e0_ hg; have GE311 := GW311; replace HO308 := sd_ (Kd.R_below (by (with_reducible repeat (first | apply Kd.R_alloc | apply Kd.R_drewN | apply Kd.R_drew)); exact HO308.out) hb); replace HB := hb_ HB e0_ hb; clear hb hbox hg; have hcz21_0 : w20.cell? ⟨gb311, 0, none⟩ = some (.int .i64 0) := (kc_ BK311.out 0).trans rfl; have hcz21_1 : w20.cell? ⟨gb311, 1, none⟩ = some (.int .i64 0) := (kc_ BK311.out 1).trans rfl; have hfz21_0 := kf_ BK311.out 0; have hfz21_1 := kf_ BK311.out 1; obtain ⟨Ao22, co22, eo22⟩ := Kd.R_slice HO308.out; subst eo22) | (go_at_call 17; (with_reducible refine (neumeref08_Alike.calls kj1 _ _ l0 _ _ t306 true _ ?side1 ?side2 ?side3 ?side4 A13.out).mono ?_); (case side1 => exact Kd.C_below HR0.out (bb_ HB.out (e_ GE311 e0_))); (case side2 => exact HC0.out); (case side3 => refine (Kd.R_reads' (e := 34) (base := w.heap.size) (ok := fun k_ => True) (n := t306.length) (c := co22) ?_).2.2; exact (by (with_reducible repeat (first | apply Kd.R_alloc | apply Kd.R_drewN | apply Kd.R_drew)); exact (Kd.R_mono (Kd.R_far (p := ⟨gb311, 1, none⟩) (Kd.R_far (p := ⟨gb311, 0, none⟩) (Kd.R_types HO308.out BK311.out (by decide)) (fun _ hk => hk.2) (.int .i64 t309)) (fun _ hk => hk.2) (.int .i64 t310)) (fun _ h_ => h_.1)))); (case side4 => exact (Kd.R_reads' HO308.out).2.1); rintro e w' ⟨rfl, ⟨nd, rfl⟩⟩) | (go_at_call 13; (with_reducible refine (token_Check.calls kj1 _ _ t306 true _ ?side1 ?side2 ?side3 A15.out).mono ?_); (case side1 => refine (Kd.R_reads' (e := 34) (base := w.heap.size) (ok := fun k_ => True) (n := t306.length) (c := co22) ?_).2.2; exact (by (with_reducible repeat (first | apply Kd.R_alloc | apply Kd.R_drewN | apply Kd.R_drew)); exact (Kd.R_mono (Kd.R_far (p := ⟨gb311, 1, none⟩) (Kd.R_far (p := ⟨gb311, 0, none⟩) (Kd.R_types HO308.out BK311.out (by decide)) (fun _ hk => hk.2) (.int .i64 t309)) (fun _ hk => hk.2) (.int .i64 t310)) (fun _ h_ => h_.1)))); (case side2 => exact (Kd.R_reads' HO308.out).2.1); (case side3 => first | (with_reducible exact hE) | exact sd_ (LaidE.below hE.out (bb_ HB.out (e_ GE311 e0_)))); rintro e w23 ⟨rfl, hb⟩; have n0_ := sd_ (Kd.R_below (by (with_reducible repeat (first | apply Kd.R_alloc | apply Kd.R_drewN | apply Kd.R_drew)); exact (Kd.R_mono (Kd.R_far (p := ⟨gb311, 1, none⟩) (Kd.R_far (p := ⟨gb311, 0, none⟩) (Kd.R_types HO308.out BK311.out (by decide)) (fun _ hk => hk.2) (.int .i64 t309)) (fun _ hk => hk.2) (.int .i64 t310)) (fun _ h_ => h_.1))) hb); have n1_ := sd_ (blk_below (g := gb311) (o := .cells #[.int .i64 t309, .int .i64 t310] 26 (0, 0)) (by (with_reducible repeat first | apply kn_ | apply kd_ | apply ka_); refine blk_put (cs := #[.int .i64 t309, .int .i64 0]) ?_ 1 _ rfl; (with_reducible repeat first | apply kn_ | apply kd_ | apply ka_); refine blk_put (cs := #[.int .i64 0, .int .i64 0]) ?_ 0 _ rfl; (with_reducible repeat first | apply kn_ | apply kd_ | apply ka_); exact BK311.out) hb); have n2_ := hb_ HB (e_ GE311 e0_) hb; clear HO308; clear BK311; clear HB; have HO308 := n0_; have BK311 := n1_; have HB := n2_; clear n0_ n1_ n2_; (try clear hb); (try clear hb2); (try clear hk); (try clear hi)) | (go_at_call 8; (with_reducible refine (neumelaw08_heads.calls kj1  t314 _ ?side1 A17.out).mono ?_); (case side1 => first | (with_reducible exact hE) | exact sd_ (LaidE.below hE.out (bb_ HB.out (e_ GE311 e0_)))); rintro e w24 ⟨rfl, hb⟩; replace HO308 := sd_ (Kd.R_below (by (with_reducible repeat (first | apply Kd.R_alloc | apply Kd.R_drewN | apply Kd.R_drew)); exact HO308.out) hb); replace BK311 := kb_ BK311 hb; replace HB := hb_ HB (e_ GE311 e0_) hb; (try clear hb); (try clear hb2); (try clear hk); (try clear hi)))
       go_ret
       exact ⟨by first | rfl | (simp [errW_none, errW_some] <;> rfl) | (simp [*, errW_none, errW_some] <;> rfl), by repeat (first | (with_reducible first | exact HB.out | apply ba_ | apply pd_ | apply d1_ | refine bs_ ?_ GE311.out) | exact HB.out)⟩
      ·replace c16 := bf_ c16
       subst c16
       have H1 : (some false) = some r := by rw [if_neg (show ¬ (false = true) by decide)] at H; exact H
       clear H; have H := H1; clear H1
       exact absurd ((Option.some.inj H).trans hxt.out) (by decide)
     ·replace c14 := bf_ c14
      subst c14
      have H1 : (some false) = some r := by rw [if_neg (show ¬ (false = true) by decide)] at H; exact H
      clear H; have H := H1; clear H1
      exact absurd ((Option.some.inj H).trans hxt.out) (by decide)
    ·rw [if_neg c12] at H
     have c12b0 : (t309 == 0) = false := beq_eq_false_iff_ne.mpr c12
     have c12b1 : (t309 != 0) = true := bne_iff_ne.mpr c12
     exact absurd ((Option.some.inj H).trans hxt.out) (by decide)

end Go.Proofs.YtmffjjncnbeldaaDoor.P
