-- Written by a program of this session (wip/tools/xprint.py, over the kit's print): Lean checks it.
import Derived.Test.YtmffjjncnbeldaaDoorPx0
import Derived.Test.YtmffjjncnbeldaaDoorPx3
import Derived.Test.YtmffjjncnbeldaaDoorPx4
namespace Go.Proofs.YtmffjjncnbeldaaDoor.P
open Go.RowKit Go.Proofs.YtmffjjncnbeldaaDoorW.PrintWords Go.Proofs.YtmffjjncnbeldaaDoorW.PrintLast Go.Proofs.YtmffjjncnbeldaaDoorW.PrintMore
attribute [local go_sem] max2_int min2_int max_two min_two max_three min_three max_four min_four   -- for this text's walks alone
set_option linter.unusedVariables false
set_option linter.unusedSimpArgs false

/-! ### token_alone: function 25 -/
def token_alone.f (k : Nat) (a0_0 : Int) (a0_1 : ByteArray) (a0_2 : Int) : Option (Bool) := (token_raw.f a0_0 a0_1 a0_2).bind fun t148 => (if t148.toList = ([] : List UInt8) then (some false) else (if (t148.size : Int) > 65536 then (some false) else ((token_gap.f k t148).bind fun t149 => (if t149 > 0 then (some false) else ((token_first.f k t148).bind fun bt150 => (if bt150.2.2.1 = 0 then (if bt150.1 = a0_0 then (some (bt150.2.1 == (t148.size : Int))) else (some false)) else (some false)))))))
theorem token_alone.mono : ∀ a0 a1 a2 k, LeO (token_alone.f k a0 a1 a2) (token_alone.f (k + 1) a0 a1 a2) := by
 intro a0 a1 a2 k
 unfold token_alone.f
 repeat' first
   | (with_reducible exact token_first.mono _ _)
   | (with_reducible exact token_gap.mono _ _)
   | (with_reducible exact LeO.refl _)
   | (with_reducible exact LeO.none _)
   | (with_reducible refine LeO.ite ?_ ?_)
   | (with_reducible refine LeO.bind ?_ (fun _ => ?_))
   | exact token_first.mono _ _
   | exact token_gap.mono _ _
   | exact LeO.none _
   | refine LeO.ite ?_ ?_
   | refine LeO.bind ?_ (fun _ => ?_)
set_option maxHeartbeats 8000000 in
set_option maxRecDepth 100000 in
theorem token_alone.calls (k : Nat) (a0_0 : Int) (a0_1 : ByteArray) (a0_2 : Int) (r : Bool) (w : World) (hE : Aside0 (LaidE w)) (h : token_alone.f k a0_0 a0_1 a0_2 = some r) :
  Calls Tryd.prog 25 #[.agg #[.int .i64 a0_0, .string a0_1, .int .i64 a0_2]] w fun e w' => e = .returned (.bool r) ∧ Below w.heap.size w w' := by
 have hu34 := Tryd.underlying34
 have hu26 := Tryd.underlying26
 have HB := sd_ (Below.refl w.heap.size w)
 have H : ((token_raw.f a0_0 a0_1 a0_2).bind fun t148 => (if t148.toList = ([] : List UInt8) then (some false) else (if (t148.size : Int) > 65536 then (some false) else ((token_gap.f k t148).bind fun t149 => (if t149 > 0 then (some false) else ((token_first.f k t148).bind fun bt150 => (if bt150.2.2.1 = 0 then (if bt150.1 = a0_0 then (some (bt150.2.1 == (t148.size : Int))) else (some false)) else (some false)))))))) = some r := h
 clear h
 replace H := ob_ H
 obtain ⟨t148, A20, H⟩ := H
 replace H : (if t148.toList = ([] : List UInt8) then (some false) else (if (t148.size : Int) > 65536 then (some false) else ((token_gap.f k t148).bind fun t149 => (if t149 > 0 then (some false) else ((token_first.f k t148).bind fun bt150 => (if bt150.2.2.1 = 0 then (if bt150.1 = a0_0 then (some (bt150.2.1 == (t148.size : Int))) else (some false)) else (some false))))))) = some r := H
 have A2 := sd_ A20
 clear A20
 by_cases c3 : t148.toList = ([] : List UInt8)
 ·rw [if_pos c3] at H
  have c3b0 : (t148.toList == ([] : List UInt8)) = true := beq_iff_eq.mpr c3
  have c3b1 : (t148.toList != ([] : List UInt8)) = false := bne_eq_false_iff_eq.mpr c3
  clear c3
  obtain rfl := Option.some.inj H
  go_enter Tryd.func25, Tryd.ntmps25
  go_wp2_with (first | ((with_reducible refine gate_dst (N := 1) rfl ?_); (try (refine gate_guard (by rfl) ?_; dsimp only)); refine box_event ?hg (N := 1) ?hd (cs := #[.int .i64 a0_0, .string a0_1, .int .i64 a0_2]) (t := 34) ?hr ?_; (case hd => rfl); (case hg => rfl); (case hr => first | (go_simp; done) | (go_simp; rfl)); intro gb147 hg w4 hbox hb; have BK147 := sd_ hbox; have GW147 := gw_ HB e0_ hg; have GE147 := GW147; replace HB := hb_ HB e0_ hb; clear hb hbox hg; have hcz5_0 : w4.cell? ⟨gb147, 0, none⟩ = some (.int .i64 a0_0) := (kc_ BK147.out 0).trans rfl; have hcz5_1 : w4.cell? ⟨gb147, 1, none⟩ = some (.string a0_1) := (kc_ BK147.out 1).trans rfl; have hcz5_2 : w4.cell? ⟨gb147, 2, none⟩ = some (.int .i64 a0_2) := (kc_ BK147.out 2).trans rfl; have hfz5_0 := kf_ BK147.out 0; have hfz5_1 := kf_ BK147.out 1; have hfz5_2 := kf_ BK147.out 2) | ((with_reducible refine gate_callee (f := 26) rfl ?_); refine goesL_ (some 8) rfl rfl Tryd.func26 (by kernel_rfl) rfl #[.agg #[.int .i64 a0_0, .string a0_1, .int .i64 a0_2]] rfl (by (try simp only [lm_, lq_, lx_]); first | done | rfl | (simp only [ld_, lt_]; rfl)) ?_; (with_reducible refine (token_raw.calls a0_0 a0_1 a0_2 t148 _ A2.out).mono ?_); rintro e w6 ⟨rfl, hb⟩; refine ⟨_, rfl, ?_⟩; replace BK147 := kb_ BK147 hb; replace HB := hb_ HB (e_ GE147 e0_) hb; (try clear hb); (try clear hb2); (try clear hk); (try clear hi)))
  go_ret
  exact ⟨by first | rfl | (simp [errW_none, errW_some] <;> rfl) | (simp [*, errW_none, errW_some] <;> rfl), by repeat (first | (with_reducible first | exact HB.out | apply ba_ | apply pd_ | apply d1_ | refine bs_ ?_ GE147.out) | exact HB.out)⟩
 ·rw [if_neg c3] at H
  have c3b0 : (t148.toList == ([] : List UInt8)) = false := beq_eq_false_iff_ne.mpr c3
  have c3b1 : (t148.toList != ([] : List UInt8)) = true := bne_iff_ne.mpr c3
  by_cases c7 : (t148.size : Int) > 65536
  ·rw [if_pos c7] at H
   have c7b0 : decide (65536 < (t148.size : Int)) = true := dt_ c7
   have c7b1 : decide (65536 < t148.size) = true := dt_ (by omega)
   clear c7
   obtain rfl := Option.some.inj H
   go_enter Tryd.func25, Tryd.ntmps25
   go_wp2_with (first | ((with_reducible refine gate_dst (N := 1) rfl ?_); (try (refine gate_guard (by rfl) ?_; dsimp only)); refine box_event ?hg (N := 1) ?hd (cs := #[.int .i64 a0_0, .string a0_1, .int .i64 a0_2]) (t := 34) ?hr ?_; (case hd => rfl); (case hg => rfl); (case hr => first | (go_simp; done) | (go_simp; rfl)); intro gb147 hg w8 hbox hb; have BK147 := sd_ hbox; have GW147 := gw_ HB e0_ hg; have GE147 := GW147; replace HB := hb_ HB e0_ hb; clear hb hbox hg; have hcz9_0 : w8.cell? ⟨gb147, 0, none⟩ = some (.int .i64 a0_0) := (kc_ BK147.out 0).trans rfl; have hcz9_1 : w8.cell? ⟨gb147, 1, none⟩ = some (.string a0_1) := (kc_ BK147.out 1).trans rfl; have hcz9_2 : w8.cell? ⟨gb147, 2, none⟩ = some (.int .i64 a0_2) := (kc_ BK147.out 2).trans rfl; have hfz9_0 := kf_ BK147.out 0; have hfz9_1 := kf_ BK147.out 1; have hfz9_2 := kf_ BK147.out 2) | ((with_reducible refine gate_callee (f := 26) rfl ?_); refine goesL_ (some 8) rfl rfl Tryd.func26 (by kernel_rfl) rfl #[.agg #[.int .i64 a0_0, .string a0_1, .int .i64 a0_2]] rfl (by (try simp only [lm_, lq_, lx_]); first | done | rfl | (simp only [ld_, lt_]; rfl)) ?_; (with_reducible refine (token_raw.calls a0_0 a0_1 a0_2 t148 _ A2.out).mono ?_); rintro e w10 ⟨rfl, hb⟩; refine ⟨_, rfl, ?_⟩; replace BK147 := kb_ BK147 hb; replace HB := hb_ HB (e_ GE147 e0_) hb; (try clear hb); (try clear hb2); (try clear hk); (try clear hi)))
   go_ret
   exact ⟨by first | rfl | (simp [errW_none, errW_some] <;> rfl) | (simp [*, errW_none, errW_some] <;> rfl), by repeat (first | (with_reducible first | exact HB.out | apply ba_ | apply pd_ | apply d1_ | refine bs_ ?_ GE147.out) | exact HB.out)⟩
  ·rw [if_neg c7] at H
   have c7b0 : decide (65536 < (t148.size : Int)) = false := df_ c7
   have c7b1 : decide (65536 < t148.size) = false := df_ (by omega)
   clear c7
   replace H := ob_ H
   obtain ⟨t149, A110, H⟩ := H
   replace H : (if t149 > 0 then (some false) else ((token_first.f k t148).bind fun bt150 => (if bt150.2.2.1 = 0 then (if bt150.1 = a0_0 then (some (bt150.2.1 == (t148.size : Int))) else (some false)) else (some false)))) = some r := H
   have A11 := sd_ A110
   clear A110
   by_cases c12 : t149 > 0
   ·rw [if_pos c12] at H
    have c12b0 : decide (0 < t149) = true := dt_ c12
    clear c12
    obtain rfl := Option.some.inj H
    go_enter Tryd.func25, Tryd.ntmps25
    go_wp2_with (first | ((with_reducible refine gate_dst (N := 1) rfl ?_); (try (refine gate_guard (by rfl) ?_; dsimp only)); refine box_event ?hg (N := 1) ?hd (cs := #[.int .i64 a0_0, .string a0_1, .int .i64 a0_2]) (t := 34) ?hr ?_; (case hd => rfl); (case hg => rfl); (case hr => first | (go_simp; done) | (go_simp; rfl)); intro gb147 hg w13 hbox hb; have BK147 := sd_ hbox; have GW147 := gw_ HB e0_ hg; have GE147 := GW147; replace HB := hb_ HB e0_ hb; clear hb hbox hg; have hcz14_0 : w13.cell? ⟨gb147, 0, none⟩ = some (.int .i64 a0_0) := (kc_ BK147.out 0).trans rfl; have hcz14_1 : w13.cell? ⟨gb147, 1, none⟩ = some (.string a0_1) := (kc_ BK147.out 1).trans rfl; have hcz14_2 : w13.cell? ⟨gb147, 2, none⟩ = some (.int .i64 a0_2) := (kc_ BK147.out 2).trans rfl; have hfz14_0 := kf_ BK147.out 0; have hfz14_1 := kf_ BK147.out 1; have hfz14_2 := kf_ BK147.out 2) | ((with_reducible refine gate_callee (f := 26) rfl ?_); refine goesL_ (some 8) rfl rfl Tryd.func26 (by kernel_rfl) rfl #[.agg #[.int .i64 a0_0, .string a0_1, .int .i64 a0_2]] rfl (by (try simp only [lm_, lq_, lx_]); first | done | rfl | (simp only [ld_, lt_]; rfl)) ?_; (with_reducible refine (token_raw.calls a0_0 a0_1 a0_2 t148 _ A2.out).mono ?_); rintro e w15 ⟨rfl, hb⟩; refine ⟨_, rfl, ?_⟩; replace BK147 := kb_ BK147 hb; replace HB := hb_ HB (e_ GE147 e0_) hb; (try clear hb); (try clear hb2); (try clear hk); (try clear hi)) | (go_at_call 19; (with_reducible refine (token_gap.calls k t148 t149 _ A11.out).mono ?_); rintro e w' ⟨rfl, ⟨nd, rfl⟩⟩))
    go_ret
    exact ⟨by first | rfl | (simp [errW_none, errW_some] <;> rfl) | (simp [*, errW_none, errW_some] <;> rfl), by repeat (first | (with_reducible first | exact HB.out | apply ba_ | apply pd_ | apply d1_ | refine bs_ ?_ GE147.out) | exact HB.out)⟩
   ·rw [if_neg c12] at H
    have c12b0 : decide (0 < t149) = false := df_ c12
    clear c12
    replace H := ob_ H
    obtain ⟨⟨t150, t151, t152, t153⟩, A160, H⟩ := H
    replace H : (if t152 = 0 then (if t150 = a0_0 then (some (t151 == (t148.size : Int))) else (some false)) else (some false)) = some r := H
    have A16 := sd_ A160
    clear A160
    by_cases c17 : t152 = 0
    ·rw [if_pos c17] at H
     have c17b0 : (t152 == 0) = true := beq_iff_eq.mpr c17
     have c17b1 : (t152 != 0) = false := bne_eq_false_iff_eq.mpr c17
     clear c17
     by_cases c18 : t150 = a0_0
     ·rw [if_pos c18] at H
      have c18b0 : (t150 == a0_0) = true := beq_iff_eq.mpr c18
      have c18b1 : (t150 != a0_0) = false := bne_eq_false_iff_eq.mpr c18
      clear c18
      obtain rfl := Option.some.inj H
      go_enter Tryd.func25, Tryd.ntmps25
      go_wp2_with (first | ((with_reducible refine gate_dst (N := 1) rfl ?_); (try (refine gate_guard (by rfl) ?_; dsimp only)); refine box_event ?hg (N := 1) ?hd (cs := #[.int .i64 a0_0, .string a0_1, .int .i64 a0_2]) (t := 34) ?hr ?_; (case hd => rfl); (case hg => rfl); (case hr => first | (go_simp; done) | (go_simp; rfl)); intro gb147 hg w19 hbox hb; have BK147 := sd_ hbox; have GW147 := gw_ HB e0_ hg; have GE147 := GW147; replace HB := hb_ HB e0_ hb; clear hb hbox hg; have hcz20_0 : w19.cell? ⟨gb147, 0, none⟩ = some (.int .i64 a0_0) := (kc_ BK147.out 0).trans rfl; have hcz20_1 : w19.cell? ⟨gb147, 1, none⟩ = some (.string a0_1) := (kc_ BK147.out 1).trans rfl; have hcz20_2 : w19.cell? ⟨gb147, 2, none⟩ = some (.int .i64 a0_2) := (kc_ BK147.out 2).trans rfl; have hfz20_0 := kf_ BK147.out 0; have hfz20_1 := kf_ BK147.out 1; have hfz20_2 := kf_ BK147.out 2) | ((with_reducible refine gate_callee (f := 26) rfl ?_); refine goesL_ (some 8) rfl rfl Tryd.func26 (by kernel_rfl) rfl #[.agg #[.int .i64 a0_0, .string a0_1, .int .i64 a0_2]] rfl (by (try simp only [lm_, lq_, lx_]); first | done | rfl | (simp only [ld_, lt_]; rfl)) ?_; (with_reducible refine (token_raw.calls a0_0 a0_1 a0_2 t148 _ A2.out).mono ?_); rintro e w21 ⟨rfl, hb⟩; refine ⟨_, rfl, ?_⟩; replace BK147 := kb_ BK147 hb; replace HB := hb_ HB (e_ GE147 e0_) hb; (try clear hb); (try clear hb2); (try clear hk); (try clear hi)) | (go_at_call 19; (with_reducible refine (token_gap.calls k t148 t149 _ A11.out).mono ?_); rintro e w' ⟨rfl, ⟨nd, rfl⟩⟩; (repeat (rw [drewN_self w21]; generalize hq_ : World.drewN w21 _ = w21; have n0_ : Aside0 (w21.heap[gb147]? = some (.cells #[.int .i64 a0_0, .string a0_1, .int .i64 a0_2] 34 (0, 0))) := ⟨by rw [← hq_]; exact (kk_ BK147.out)⟩; have n1_ : Aside0 (Below w.heap.size w w21) := ⟨by rw [← hq_]; exact (bb_ HB.out (e_ GE147 e0_))⟩; clear BK147 HB hq_; have BK147 := n0_; have HB := n1_; clear n0_ n1_))) | ((with_reducible refine gate_callee (f := 20) rfl ?_); refine goesL_ (some 23) rfl rfl Tryd.func20 (by kernel_rfl) rfl #[.string t148] rfl (by (try simp only [lm_, lq_, lx_]); first | done | rfl | (simp only [ld_, lt_]; rfl)) ?_; (with_reducible refine (token_first.calls k t148 t150 t151 t152 t153 _ ?side1 A16.out).mono ?_); (case side1 => first | (with_reducible exact hE) | exact sd_ (LaidE.below hE.out (bb_ HB.out (e_ GE147 e0_)))); rintro e w22 ⟨rfl, hb⟩; refine ⟨_, rfl, ?_⟩; replace BK147 := kb_ BK147 hb; replace HB := hb_ HB (e_ GE147 e0_) hb; (try clear hb); (try clear hb2); (try clear hk); (try clear hi)) | ((with_reducible refine gate_dst (N := 6) rfl ?_); (try (refine gate_guard (by rfl) ?_; dsimp only)); refine box_event ?hg (N := 6) ?hd (cs := #[.int .i64 0, .int .i64 0]) (t := 26) ?hr ?_; (case hd => rfl); (case hg => rfl); (case hr => first | (go_simp; done) | (go_simp; rfl)); intro gb154 hg w23 hbox hb; have BK154 := sd_ hbox; have GW154 := gw_ HB (e_ GE147 e0_) hg; have GE154 := GW154; have NB147_154 := nb_ BK147 hg; have NB154_147 := sy_ NB147_154; replace BK147 := kb_ BK147 hb; replace HB := hb_ HB (e_ GE147 e0_) hb; clear hb hbox hg; have hnb24 := NB154_147.out; have hnc24 := NB147_154.out; have hcz25_0 : w23.cell? ⟨gb154, 0, none⟩ = some (.int .i64 0) := (kc_ BK154.out 0).trans rfl; have hcz25_1 : w23.cell? ⟨gb154, 1, none⟩ = some (.int .i64 0) := (kc_ BK154.out 1).trans rfl; have hfz25_0 := kf_ BK154.out 0; have hfz25_1 := kf_ BK154.out 1; have hcz26_0 : w23.cell? ⟨gb147, 0, none⟩ = some (.int .i64 a0_0) := (kc_ BK147.out 0).trans rfl; have hcz26_1 : w23.cell? ⟨gb147, 1, none⟩ = some (.string a0_1) := (kc_ BK147.out 1).trans rfl; have hcz26_2 : w23.cell? ⟨gb147, 2, none⟩ = some (.int .i64 a0_2) := (kc_ BK147.out 2).trans rfl; have hfz26_0 := kf_ BK147.out 0; have hfz26_1 := kf_ BK147.out 1; have hfz26_2 := kf_ BK147.out 2))
      go_ret
      exact ⟨by first | rfl | (simp [errW_none, errW_some] <;> rfl) | (simp [*, errW_none, errW_some] <;> rfl), by repeat (first | (with_reducible first | exact HB.out | apply ba_ | apply pd_ | apply d1_ | refine bs_ ?_ GE147.out | refine bs_ ?_ GE154.out) | exact HB.out)⟩
     ·rw [if_neg c18] at H
      have c18b0 : (t150 == a0_0) = false := beq_eq_false_iff_ne.mpr c18
      have c18b1 : (t150 != a0_0) = true := bne_iff_ne.mpr c18
      obtain rfl := Option.some.inj H
      go_enter Tryd.func25, Tryd.ntmps25
      go_wp2_with (first | ((with_reducible refine gate_dst (N := 1) rfl ?_); (try (refine gate_guard (by rfl) ?_; dsimp only)); refine box_event ?hg (N := 1) ?hd (cs := #[.int .i64 a0_0, .string a0_1, .int .i64 a0_2]) (t := 34) ?hr ?_; (case hd => rfl); (case hg => rfl); (case hr => first | (go_simp; done) | (go_simp; rfl)); intro gb147 hg w27 hbox hb; have BK147 := sd_ hbox; have GW147 := gw_ HB e0_ hg; have GE147 := GW147; replace HB := hb_ HB e0_ hb; clear hb hbox hg; have hcz28_0 : w27.cell? ⟨gb147, 0, none⟩ = some (.int .i64 a0_0) := (kc_ BK147.out 0).trans rfl; have hcz28_1 : w27.cell? ⟨gb147, 1, none⟩ = some (.string a0_1) := (kc_ BK147.out 1).trans rfl; have hcz28_2 : w27.cell? ⟨gb147, 2, none⟩ = some (.int .i64 a0_2) := (kc_ BK147.out 2).trans rfl; have hfz28_0 := kf_ BK147.out 0; have hfz28_1 := kf_ BK147.out 1; have hfz28_2 := kf_ BK147.out 2) | ((with_reducible refine gate_callee (f := 26) rfl ?_); refine goesL_ (some 8) rfl rfl Tryd.func26 (by kernel_rfl) rfl #[.agg #[.int .i64 a0_0, .string a0_1, .int .i64 a0_2]] rfl (by (try simp only [lm_, lq_, lx_]); first | done | rfl | (simp only [ld_, lt_]; rfl)) ?_; (with_reducible refine (token_raw.calls a0_0 a0_1 a0_2 t148 _ A2.out).mono ?_); rintro e w29 ⟨rfl, hb⟩; refine ⟨_, rfl, ?_⟩; replace BK147 := kb_ BK147 hb; replace HB := hb_ HB (e_ GE147 e0_) hb; (try clear hb); (try clear hb2); (try clear hk); (try clear hi)) | (go_at_call 19; (with_reducible refine (token_gap.calls k t148 t149 _ A11.out).mono ?_); rintro e w' ⟨rfl, ⟨nd, rfl⟩⟩; (repeat (rw [drewN_self w29]; generalize hq_ : World.drewN w29 _ = w29; have n0_ : Aside0 (w29.heap[gb147]? = some (.cells #[.int .i64 a0_0, .string a0_1, .int .i64 a0_2] 34 (0, 0))) := ⟨by rw [← hq_]; exact (kk_ BK147.out)⟩; have n1_ : Aside0 (Below w.heap.size w w29) := ⟨by rw [← hq_]; exact (bb_ HB.out (e_ GE147 e0_))⟩; clear BK147 HB hq_; have BK147 := n0_; have HB := n1_; clear n0_ n1_))) | ((with_reducible refine gate_callee (f := 20) rfl ?_); refine goesL_ (some 23) rfl rfl Tryd.func20 (by kernel_rfl) rfl #[.string t148] rfl (by (try simp only [lm_, lq_, lx_]); first | done | rfl | (simp only [ld_, lt_]; rfl)) ?_; (with_reducible refine (token_first.calls k t148 t150 t151 t152 t153 _ ?side1 A16.out).mono ?_); (case side1 => first | (with_reducible exact hE) | exact sd_ (LaidE.below hE.out (bb_ HB.out (e_ GE147 e0_)))); rintro e w30 ⟨rfl, hb⟩; refine ⟨_, rfl, ?_⟩; replace BK147 := kb_ BK147 hb; replace HB := hb_ HB (e_ GE147 e0_) hb; (try clear hb); (try clear hb2); (try clear hk); (try clear hi)) | ((with_reducible refine gate_dst (N := 6) rfl ?_); (try (refine gate_guard (by rfl) ?_; dsimp only)); refine box_event ?hg (N := 6) ?hd (cs := #[.int .i64 0, .int .i64 0]) (t := 26) ?hr ?_; (case hd => rfl); (case hg => rfl); (case hr => first | (go_simp; done) | (go_simp; rfl)); intro gb154 hg w31 hbox hb; have BK154 := sd_ hbox; have GW154 := gw_ HB (e_ GE147 e0_) hg; have GE154 := GW154; have NB147_154 := nb_ BK147 hg; have NB154_147 := sy_ NB147_154; replace BK147 := kb_ BK147 hb; replace HB := hb_ HB (e_ GE147 e0_) hb; clear hb hbox hg; have hnb32 := NB154_147.out; have hnc32 := NB147_154.out; have hcz33_0 : w31.cell? ⟨gb154, 0, none⟩ = some (.int .i64 0) := (kc_ BK154.out 0).trans rfl; have hcz33_1 : w31.cell? ⟨gb154, 1, none⟩ = some (.int .i64 0) := (kc_ BK154.out 1).trans rfl; have hfz33_0 := kf_ BK154.out 0; have hfz33_1 := kf_ BK154.out 1; have hcz34_0 : w31.cell? ⟨gb147, 0, none⟩ = some (.int .i64 a0_0) := (kc_ BK147.out 0).trans rfl; have hcz34_1 : w31.cell? ⟨gb147, 1, none⟩ = some (.string a0_1) := (kc_ BK147.out 1).trans rfl; have hcz34_2 : w31.cell? ⟨gb147, 2, none⟩ = some (.int .i64 a0_2) := (kc_ BK147.out 2).trans rfl; have hfz34_0 := kf_ BK147.out 0; have hfz34_1 := kf_ BK147.out 1; have hfz34_2 := kf_ BK147.out 2))
      go_ret
      exact ⟨by first | rfl | (simp [errW_none, errW_some] <;> rfl) | (simp [*, errW_none, errW_some] <;> rfl), by repeat (first | (with_reducible first | exact HB.out | apply ba_ | apply pd_ | apply d1_ | refine bs_ ?_ GE147.out | refine bs_ ?_ GE154.out) | exact HB.out)⟩
    ·rw [if_neg c17] at H
     have c17b0 : (t152 == 0) = false := beq_eq_false_iff_ne.mpr c17
     have c17b1 : (t152 != 0) = true := bne_iff_ne.mpr c17
     obtain rfl := Option.some.inj H
     go_enter Tryd.func25, Tryd.ntmps25
     go_wp2_with (first | ((with_reducible refine gate_dst (N := 1) rfl ?_); (try (refine gate_guard (by rfl) ?_; dsimp only)); refine box_event ?hg (N := 1) ?hd (cs := #[.int .i64 a0_0, .string a0_1, .int .i64 a0_2]) (t := 34) ?hr ?_; (case hd => rfl); (case hg => rfl); (case hr => first | (go_simp; done) | (go_simp; rfl)); intro gb147 hg w35 hbox hb; have BK147 := sd_ hbox; have GW147 := gw_ HB e0_ hg; have GE147 := GW147; replace HB := hb_ HB e0_ hb; clear hb hbox hg; have hcz36_0 : w35.cell? ⟨gb147, 0, none⟩ = some (.int .i64 a0_0) := (kc_ BK147.out 0).trans rfl; have hcz36_1 : w35.cell? ⟨gb147, 1, none⟩ = some (.string a0_1) := (kc_ BK147.out 1).trans rfl; have hcz36_2 : w35.cell? ⟨gb147, 2, none⟩ = some (.int .i64 a0_2) := (kc_ BK147.out 2).trans rfl; have hfz36_0 := kf_ BK147.out 0; have hfz36_1 := kf_ BK147.out 1; have hfz36_2 := kf_ BK147.out 2) | ((with_reducible refine gate_callee (f := 26) rfl ?_); refine goesL_ (some 8) rfl rfl Tryd.func26 (by kernel_rfl) rfl #[.agg #[.int .i64 a0_0, .string a0_1, .int .i64 a0_2]] rfl (by (try simp only [lm_, lq_, lx_]); first | done | rfl | (simp only [ld_, lt_]; rfl)) ?_; (with_reducible refine (token_raw.calls a0_0 a0_1 a0_2 t148 _ A2.out).mono ?_); rintro e w37 ⟨rfl, hb⟩; refine ⟨_, rfl, ?_⟩; replace BK147 := kb_ BK147 hb; replace HB := hb_ HB (e_ GE147 e0_) hb; (try clear hb); (try clear hb2); (try clear hk); (try clear hi)) | (go_at_call 19; (with_reducible refine (token_gap.calls k t148 t149 _ A11.out).mono ?_); rintro e w' ⟨rfl, ⟨nd, rfl⟩⟩; (repeat (rw [drewN_self w37]; generalize hq_ : World.drewN w37 _ = w37; have n0_ : Aside0 (w37.heap[gb147]? = some (.cells #[.int .i64 a0_0, .string a0_1, .int .i64 a0_2] 34 (0, 0))) := ⟨by rw [← hq_]; exact (kk_ BK147.out)⟩; have n1_ : Aside0 (Below w.heap.size w w37) := ⟨by rw [← hq_]; exact (bb_ HB.out (e_ GE147 e0_))⟩; clear BK147 HB hq_; have BK147 := n0_; have HB := n1_; clear n0_ n1_))) | ((with_reducible refine gate_callee (f := 20) rfl ?_); refine goesL_ (some 23) rfl rfl Tryd.func20 (by kernel_rfl) rfl #[.string t148] rfl (by (try simp only [lm_, lq_, lx_]); first | done | rfl | (simp only [ld_, lt_]; rfl)) ?_; (with_reducible refine (token_first.calls k t148 t150 t151 t152 t153 _ ?side1 A16.out).mono ?_); (case side1 => first | (with_reducible exact hE) | exact sd_ (LaidE.below hE.out (bb_ HB.out (e_ GE147 e0_)))); rintro e w38 ⟨rfl, hb⟩; refine ⟨_, rfl, ?_⟩; replace BK147 := kb_ BK147 hb; replace HB := hb_ HB (e_ GE147 e0_) hb; (try clear hb); (try clear hb2); (try clear hk); (try clear hi)) | ((with_reducible refine gate_dst (N := 6) rfl ?_); (try (refine gate_guard (by rfl) ?_; dsimp only)); refine box_event ?hg (N := 6) ?hd (cs := #[.int .i64 0, .int .i64 0]) (t := 26) ?hr ?_; (case hd => rfl); (case hg => rfl); (case hr => first | (go_simp; done) | (go_simp; rfl)); intro gb154 hg w39 hbox hb; have BK154 := sd_ hbox; have GW154 := gw_ HB (e_ GE147 e0_) hg; have GE154 := GW154; have NB147_154 := nb_ BK147 hg; have NB154_147 := sy_ NB147_154; replace BK147 := kb_ BK147 hb; replace HB := hb_ HB (e_ GE147 e0_) hb; clear hb hbox hg; have hnb40 := NB154_147.out; have hnc40 := NB147_154.out; have hcz41_0 : w39.cell? ⟨gb154, 0, none⟩ = some (.int .i64 0) := (kc_ BK154.out 0).trans rfl; have hcz41_1 : w39.cell? ⟨gb154, 1, none⟩ = some (.int .i64 0) := (kc_ BK154.out 1).trans rfl; have hfz41_0 := kf_ BK154.out 0; have hfz41_1 := kf_ BK154.out 1))
     go_ret
     exact ⟨by first | rfl | (simp [errW_none, errW_some] <;> rfl) | (simp [*, errW_none, errW_some] <;> rfl), by repeat (first | (with_reducible first | exact HB.out | apply ba_ | apply pd_ | apply d1_ | refine bs_ ?_ GE147.out | refine bs_ ?_ GE154.out) | exact HB.out)⟩

/-! ### token_Check: function 13 -/
mutual
def token_Check.j0 : Nat → List (S34) → Bool → Option (Bool)
 | 0, _, _ => none
 | k + 1, x0, x28 => if x28 = true then (some false) else (token_Check.l0 k x0 0 x0 (x0.length : Int) 0)
def token_Check.l0 : Nat → List (S34) → Int → List (S34) → Int → Int → Option (Bool)
 | 0, _, _, _, _, _ => none
 | k + 1, x0, x3, x29, x30, x31 => if x31 < x30 then (if 0 ≤ x31 then (if x31 < (x29.length : Int) then (if ((rd_T34 x29 x31).f2) < x3 then (token_Check.j2 k x0 x31 x29 x30 x31 true ((rd_T34 x29 x31).f0) ((rd_T34 x29 x31).f1) ((rd_T34 x29 x31).f2)) else (if x31 < (wrap64 ((x0.length : Int) - 1)) then ((token_alone.f k ((rd_T34 x29 x31).f0) ((rd_T34 x29 x31).f1) ((rd_T34 x29 x31).f2)).bind fun t159 => (token_Check.j2 k x0 x31 x29 x30 x31 (!t159) ((rd_T34 x29 x31).f0) ((rd_T34 x29 x31).f1) ((rd_T34 x29 x31).f2))) else (token_Check.j2 k x0 x31 x29 x30 x31 false ((rd_T34 x29 x31).f0) ((rd_T34 x29 x31).f1) ((rd_T34 x29 x31).f2)))) else (none)) else (none)) else (some true)
def token_Check.j2 : Nat → List (S34) → Int → List (S34) → Int → Int → Bool → Int → ByteArray → Int → Option (Bool)
 | 0, _, _, _, _, _, _, _, _, _ => none
 | k + 1, x0, x4, x29, x30, x31, x51, x159000, x159001, x159002 => if x51 = true then (some false) else (if x4 < (wrap64 ((x0.length : Int) - 1)) then ((token_raw.f x159000 x159001 x159002).bind fun t160 => (if (t160.size : Int) > (wrap64 (9223372036854775807 - x159002)) then (some false) else ((token_raw.f x159000 x159001 x159002).bind fun t161 => (token_Check.l0 k x0 (wrap64 (x159002 + (t161.size : Int))) x29 x30 (wrap64 (x31 + 1)))))) else (token_Check.l0 k x0 x159002 x29 x30 (wrap64 (x31 + 1))))
end
def token_Check.f (k : Nat) (l0 : List (S34)) : Option (Bool) := if (l0.length : Int) = 0 then (token_Check.j0 k l0 true) else (if 0 ≤ (wrap64 ((l0.length : Int) - 1)) then (if (wrap64 ((l0.length : Int) - 1)) < (l0.length : Int) then (if ((rd_T34 l0 (wrap64 ((l0.length : Int) - 1))).f0) = 8 then (token_Check.j0 k l0 (((rd_T34 l0 (wrap64 ((l0.length : Int) - 1))).f1).toList != ([] : List UInt8))) else (token_Check.j0 k l0 true)) else (none)) else (none))
theorem token_Check.mono_l : ∀ k, (∀ y0 y1, LeO (token_Check.j0 k y0 y1) (token_Check.j0 (k + 1) y0 y1)) ∧ (∀ y0 y1 y2 y3 y4, LeO (token_Check.l0 k y0 y1 y2 y3 y4) (token_Check.l0 (k + 1) y0 y1 y2 y3 y4)) ∧ (∀ y0 y1 y2 y3 y4 y5 y6 y7 y8, LeO (token_Check.j2 k y0 y1 y2 y3 y4 y5 y6 y7 y8) (token_Check.j2 (k + 1) y0 y1 y2 y3 y4 y5 y6 y7 y8))
 | 0 => ⟨fun _ _ r h => by simp [token_Check.j0] at h, fun _ _ _ _ _ r h => by simp [token_Check.l0] at h, fun _ _ _ _ _ _ _ _ _ r h => by simp [token_Check.j2] at h⟩
 | k + 1 => by
  obtain ⟨ih0, ih1, ih2⟩ := token_Check.mono_l k
  refine ⟨?_, ?_, ?_⟩
  ·intro y0 y1
   unfold token_Check.j0
   repeat' first
   | (with_reducible exact ih0 _ _)
   | (with_reducible exact ih1 _ _ _ _ _)
   | (with_reducible exact ih2 _ _ _ _ _ _ _ _ _)
   | (with_reducible exact token_alone.mono _ _ _ _)
   | (with_reducible exact LeO.refl _)
   | (with_reducible exact LeO.none _)
   | (with_reducible refine LeO.ite ?_ ?_)
   | (with_reducible refine LeO.bind ?_ (fun _ => ?_))
   | exact ih0 _ _
   | exact ih1 _ _ _ _ _
   | exact ih2 _ _ _ _ _ _ _ _ _
   | exact token_alone.mono _ _ _ _
   | exact LeO.none _
   | refine LeO.ite ?_ ?_
   | refine LeO.bind ?_ (fun _ => ?_)
  ·intro y0 y1 y2 y3 y4
   unfold token_Check.l0
   repeat' first
   | (with_reducible exact ih0 _ _)
   | (with_reducible exact ih1 _ _ _ _ _)
   | (with_reducible exact ih2 _ _ _ _ _ _ _ _ _)
   | (with_reducible exact token_alone.mono _ _ _ _)
   | (with_reducible exact LeO.refl _)
   | (with_reducible exact LeO.none _)
   | (with_reducible refine LeO.ite ?_ ?_)
   | (with_reducible refine LeO.bind ?_ (fun _ => ?_))
   | exact ih0 _ _
   | exact ih1 _ _ _ _ _
   | exact ih2 _ _ _ _ _ _ _ _ _
   | exact token_alone.mono _ _ _ _
   | exact LeO.none _
   | refine LeO.ite ?_ ?_
   | refine LeO.bind ?_ (fun _ => ?_)
  ·intro y0 y1 y2 y3 y4 y5 y6 y7 y8
   unfold token_Check.j2
   repeat' first
   | (with_reducible exact ih0 _ _)
   | (with_reducible exact ih1 _ _ _ _ _)
   | (with_reducible exact ih2 _ _ _ _ _ _ _ _ _)
   | (with_reducible exact token_alone.mono _ _ _ _)
   | (with_reducible exact LeO.refl _)
   | (with_reducible exact LeO.none _)
   | (with_reducible refine LeO.ite ?_ ?_)
   | (with_reducible refine LeO.bind ?_ (fun _ => ?_))
   | exact ih0 _ _
   | exact ih1 _ _ _ _ _
   | exact ih2 _ _ _ _ _ _ _ _ _
   | exact token_alone.mono _ _ _ _
   | exact LeO.none _
   | refine LeO.ite ?_ ?_
   | refine LeO.bind ?_ (fun _ => ?_)
theorem token_Check.mono : ∀ a0 k, LeO (token_Check.f k a0) (token_Check.f (k + 1) a0) := by
 intro a0 k
 obtain ⟨ih0, ih1, ih2⟩ := token_Check.mono_l k
 unfold token_Check.f
 repeat' first
   | (with_reducible exact ih0 _ _)
   | (with_reducible exact ih1 _ _ _ _ _)
   | (with_reducible exact ih2 _ _ _ _ _ _ _ _ _)
   | (with_reducible exact token_alone.mono _ _ _ _)
   | (with_reducible exact LeO.refl _)
   | (with_reducible exact LeO.none _)
   | (with_reducible refine LeO.ite ?_ ?_)
   | (with_reducible refine LeO.bind ?_ (fun _ => ?_))
   | exact ih0 _ _
   | exact ih1 _ _ _ _ _
   | exact ih2 _ _ _ _ _ _ _ _ _
   | exact token_alone.mono _ _ _ _
   | exact LeO.none _
   | refine LeO.ite ?_ ?_
   | refine LeO.bind ?_ (fun _ => ?_)
set_option maxHeartbeats 8000000 in
set_option maxRecDepth 100000 in
theorem token_Check.calls (k : Nat) (A0 : Option Addr) (c0 : Nat) (l0 : List (S34)) (r : Bool) (w : World) (hr0 : Kd.C k34 w A0 l0.length l0) (hc0 : l0.length ≤ c0) (hE : Aside0 (LaidE w)) (h : token_Check.f k l0 = some r) :
  Calls Tryd.prog 13 #[.slice A0 l0.length c0] w fun e w' => e = .returned (.bool r) ∧ Below w.heap.size w w' := by
 have hu34 := Tryd.underlying34
 have HR0 := sd_ hr0
 have HC0 := sd_ hc0
 clear hr0 hc0
 have HB := sd_ (Below.refl w.heap.size w)
 have H : (if (l0.length : Int) = 0 then (token_Check.j0 k l0 true) else (if 0 ≤ (wrap64 ((l0.length : Int) - 1)) then (if (wrap64 ((l0.length : Int) - 1)) < (l0.length : Int) then (if ((rd_T34 l0 (wrap64 ((l0.length : Int) - 1))).f0) = 8 then (token_Check.j0 k l0 (((rd_T34 l0 (wrap64 ((l0.length : Int) - 1))).f1).toList != ([] : List UInt8))) else (token_Check.j0 k l0 true)) else (none)) else (none))) = some r := h
 clear h
 have HC2 := sd_ H
 clear H
 go_enter Tryd.func13, Tryd.ntmps13
 go_upto_region 1 with (fail)
 go_cut [28] (fun v28 wc => ∃ (kq : Nat) (x28_1 : Bool), v28 = .bool x28_1 ∧ Aside0 (token_Check.j0 kq l0 x28_1 = some r) ∧ Aside0 (kq ≤ k) ∧ Aside0 (Below w.heap.size w wc))
 case first =>
  have H := HC2.out
  clear HC2
  by_cases c3 : (l0.length : Int) = 0
  ·rw [if_pos c3] at H
   have c3b0 : ((l0.length : Int) == 0) = true := beq_iff_eq.mpr c3
   have c3b1 : ((l0.length : Int) != 0) = false := bne_eq_false_iff_eq.mpr c3
   clear c3
   (first | rw [c3b0] | (simp only [i64_w, i32_w]; rw [c3b0]) | skip)
   have H' := sd_ H
   clear H
   go_wp2
   go_meet
   case rel => exact ⟨_, (true), (by first | rfl | (simp; done) | (simp [*]; done) | (simp [bne]; done)), H', ⟨by first | omega | exact Nat.le_refl _⟩, ⟨by repeat (first | (with_reducible first | exact HB.out | apply ba_ | apply pd_ | apply d1_) | exact HB.out)⟩⟩
  ·rw [if_neg c3] at H
   have c3b0 : ((l0.length : Int) == 0) = false := beq_eq_false_iff_ne.mpr c3
   have c3b1 : ((l0.length : Int) != 0) = true := bne_iff_ne.mpr c3
   have c3b2 : ¬ (l0 = []) := fun h_ => c3 (by rw [h_]; rfl)
   (first | rw [c3b0] | (simp only [i64_w, i32_w]; rw [c3b0]) | skip)
   obtain ⟨ji4, hji4⟩ : ∃ j_ : Int, (wrap64 ((l0.length : Int) - 1)) = j_ := ⟨_, rfl⟩
   replace H : (if 0 ≤ (ji4) then (if (ji4) < (l0.length : Int) then (if ((rd_T34 l0 (ji4)).f0) = 8 then (token_Check.j0 k l0 (((rd_T34 l0 (ji4)).f1).toList != ([] : List UInt8))) else (token_Check.j0 k l0 true)) else (none)) else (none)) = some r := by first | (rw [hji4] at H; exact H) | (simp only [hji4] at H ⊢; exact H)
   have hji4w : (IntKind.i64.wrap ((l0.length : Int) - 1)) = ji4 := (i64_w _).trans hji4
   by_cases c5 : 0 ≤ (ji4)
   ·rw [if_pos c5] at H
    have c5b0 : decide (0 ≤ (ji4)) = true := dt_ c5
    clear c5
    by_cases c6 : (ji4) < (l0.length : Int)
    ·rw [if_pos c6] at H
     have c6b0 : decide ((ji4) < (l0.length : Int)) = true := dt_ c6
     clear c6
     by_cases c7 : ((rd_T34 l0 (ji4)).f0) = 8
     ·rw [if_pos c7] at H
      have c7b0 : (((rd_T34 l0 (ji4)).f0) == 8) = true := beq_iff_eq.mpr c7
      have c7b1 : (((rd_T34 l0 (ji4)).f0) != 8) = false := bne_eq_false_iff_eq.mpr c7
      clear c7
      have H' := sd_ H
      clear H
      have p155 : 0 ≤ ((ji4) : Int) := od_ (by first | (with_reducible assumption) | assumption)
      have q155 : (ji4) < (l0.length : Int) := od_ (by first | (with_reducible assumption) | assumption)
      obtain ⟨ad155, e155, hx155_0, hx155_1, hx155_2⟩ := at_T34 HR0.out (ji4) p155 q155
      cases e155
      replace hx155_0 := (HB.out.cell (wb_ w _ hx155_0)).trans hx155_0
      replace hx155_1 := (HB.out.cell (wb_ w _ hx155_1)).trans hx155_1
      replace hx155_2 := (HB.out.cell (wb_ w _ hx155_2)).trans hx155_2
      replace p155 := eq_true p155
      replace q155 := eq_true q155
      have p156 : 0 ≤ ((ji4) : Int) := od_ (by first | (with_reducible assumption) | assumption)
      have q156 : (ji4) < (l0.length : Int) := od_ (by first | (with_reducible assumption) | assumption)
      obtain ⟨ad156, e156, hx156_0, hx156_1, hx156_2⟩ := at_T34 HR0.out (ji4) p156 q156
      obtain rfl : ad155 = ad156 := (by injection e156)
      replace hx156_0 := (HB.out.cell (wb_ w _ hx156_0)).trans hx156_0
      replace hx156_1 := (HB.out.cell (wb_ w _ hx156_1)).trans hx156_1
      replace hx156_2 := (HB.out.cell (wb_ w _ hx156_2)).trans hx156_2
      replace p156 := eq_true p156
      replace q156 := eq_true q156
      go_wp2
      go_meet
      case rel => exact ⟨_, ((((rd_T34 l0 (ji4)).f1).toList != ([] : List UInt8))), (by first | rfl | (simp; done) | (simp [nemp_]; done) | (simp only [← hji4] <;> (first | rfl | (simp [nemp_]; done) | simp)) | (simp [*]; done)), H', ⟨by first | omega | exact Nat.le_refl _⟩, ⟨by repeat (first | (with_reducible first | exact HB.out | apply ba_ | apply pd_ | apply d1_) | exact HB.out)⟩⟩
     ·rw [if_neg c7] at H
      have c7b0 : (((rd_T34 l0 (ji4)).f0) == 8) = false := beq_eq_false_iff_ne.mpr c7
      have c7b1 : (((rd_T34 l0 (ji4)).f0) != 8) = true := bne_iff_ne.mpr c7
      have H' := sd_ H
      clear H
      have p155 : 0 ≤ ((ji4) : Int) := od_ (by first | (with_reducible assumption) | assumption)
      have q155 : (ji4) < (l0.length : Int) := od_ (by first | (with_reducible assumption) | assumption)
      obtain ⟨ad155, e155, hx155_0, hx155_1, hx155_2⟩ := at_T34 HR0.out (ji4) p155 q155
      cases e155
      replace hx155_0 := (HB.out.cell (wb_ w _ hx155_0)).trans hx155_0
      replace hx155_1 := (HB.out.cell (wb_ w _ hx155_1)).trans hx155_1
      replace hx155_2 := (HB.out.cell (wb_ w _ hx155_2)).trans hx155_2
      replace p155 := eq_true p155
      replace q155 := eq_true q155
      go_wp2
      go_meet
      case rel => exact ⟨_, (true), (by first | rfl | (simp; done) | (simp [*]; done) | (simp [bne]; done)), H', ⟨by first | omega | exact Nat.le_refl _⟩, ⟨by repeat (first | (with_reducible first | exact HB.out | apply ba_ | apply pd_ | apply d1_) | exact HB.out)⟩⟩
    ·rw [if_neg c6] at H
     exact absurd H (by simp)
   ·rw [if_neg c5] at H
    exact absurd H (by simp)
 case rest =>
  clear HC2
  try clear c1; try clear p1; try clear q1; try clear hx1; try clear p2; try clear c3; try clear c3b0; try clear c3b1; try clear c3b2; try clear c5; try clear c5b0; try clear c6; try clear c6b0; try clear p6; try clear c7; try clear c7b0; try clear c7b1; try clear hx155_0; try clear hx155_1; try clear hx155_2; try clear hx156_0; try clear hx156_1; try clear hx156_2; try clear p155; try clear p156; try clear q155; try clear q156
  obtain ⟨kq, x28_1, rfl, HA, HJ1, HB⟩ := hcut
  cases kq with
  | zero => exact absurd HA.out (by simp [token_Check.j0])
  | succ kj1 =>
   have H := HA.out
   clear HA
   simp only [token_Check.j0] at H
   by_cases c8 : x28_1 = true
   ·subst c8
    have H1 : (some false) = some r := by rw [if_pos rfl] at H; exact H
    clear H; have H := H1; clear H1
    obtain rfl := Option.some.inj H
    go_wp2
    go_ret
    exact ⟨by first | rfl | (simp [errW_none, errW_some] <;> rfl) | (simp [*, errW_none, errW_some] <;> rfl), by repeat (first | (with_reducible first | exact HB.out | apply ba_ | apply pd_ | apply d1_) | exact HB.out)⟩
   ·replace c8 := bf_ c8
    subst c8
    have H1 : (token_Check.l0 kj1 l0 0 l0 (l0.length : Int) 0) = some r := by rw [if_neg (show ¬ (false = true) by decide)] at H; exact H
    clear H; have H := H1; clear H1
    have H' := sd_ H
    clear H
    go_wp2
    go_loopg [3, 31] kj1 (fun kq v3 v31 w' => ∃ (x3_2 : Int) (x31_2 : Int), v3 = .int .i64 x3_2 ∧ v31 = .int .i64 x31_2 ∧ Aside0 (token_Check.l0 kq l0 x3_2 l0 (l0.length : Int) x31_2 = some r) ∧ Aside0 (kq ≤ kj1) ∧ Aside0 (Below w.heap.size w w'))
    case atStart => exact ⟨(0), (0), (by first | rfl | (simp; done) | (simp [*]; done) | (simp [bne]; done)), (by first | rfl | (simp; done) | (simp [*]; done) | (simp [bne]; done)), H', ⟨Nat.le_refl _⟩, ⟨by repeat (first | (with_reducible first | exact HB.out | apply ba_ | apply pd_ | apply d1_) | exact HB.out)⟩⟩
    case round =>
     clear H'
     try clear c1; try clear p1; try clear q1; try clear hx1; try clear p2; try clear c3; try clear c3b0; try clear c3b1; try clear c3b2; try clear c5; try clear c5b0; try clear c6; try clear c6b0; try clear p6; try clear c7; try clear c7b0; try clear c7b1; try clear c8; try clear hx155_0; try clear hx155_1; try clear hx155_2; try clear hx156_0; try clear hx156_1; try clear hx156_2; try clear p1; try clear p155; try clear p156; try clear p2; try clear p6; try clear q1; try clear q155; try clear q156
     obtain ⟨x3_2, x31_2, rfl, rfl, HA, HK2, HB⟩ := hrel
     cases gk with
     | zero => exact absurd HA.out (by simp [token_Check.l0])
     | succ k2 =>
      have H := HA.out
      clear HA
      simp only [token_Check.l0] at H
      by_cases c9 : x31_2 < (l0.length : Int)
      ·rw [if_pos c9] at H
       have c9b0 : decide (x31_2 < (l0.length : Int)) = true := dt_ c9
       clear c9
       by_cases c10 : 0 ≤ x31_2
       ·rw [if_pos c10] at H
        have c10b0 : decide (0 ≤ x31_2) = true := dt_ c10
        clear c10
        by_cases c11 : x31_2 < (l0.length : Int)
        ·rw [if_pos c11] at H
         have c11b0 : decide (x31_2 < (l0.length : Int)) = true := dt_ c11
         clear c11
         have HC12 := sd_ H
         clear H
         have p157 : 0 ≤ (x31_2 : Int) := od_ (by first | (with_reducible assumption) | assumption)
         have q157 : x31_2 < (l0.length : Int) := od_ (by first | (with_reducible assumption) | assumption)
         obtain ⟨ad157, e157, hx157_0, hx157_1, hx157_2⟩ := at_T34 HR0.out x31_2 p157 q157
         cases e157
         replace hx157_0 := (HB.out.cell (wb_ w _ hx157_0)).trans hx157_0
         replace hx157_1 := (HB.out.cell (wb_ w _ hx157_1)).trans hx157_1
         replace hx157_2 := (HB.out.cell (wb_ w _ hx157_2)).trans hx157_2
         replace p157 := eq_true p157
         replace q157 := eq_true q157
         go_upto_region 7 with (first | ((with_reducible refine gate_dst (N := 5) rfl ?_); (try (refine gate_guard (by rfl) ?_; dsimp only)); refine box_event ?hg (N := 5) ?hd (cs := #[.int .i64 0, .string (⟨#[]⟩ : ByteArray), .int .i64 0]) (t := 34) ?hr ?_; (case hd => rfl); (case hg => rfl); (case hr => first | (go_simp; done) | (go_simp; rfl)); intro gb158 hg w13 hbox hb; have BK158 := sd_ hbox; have GW158 := gw_ HB e0_ hg; have GE158 := GW158; replace HB := hb_ HB e0_ hb; clear hb hbox hg; have hcz14_0 : w13.cell? ⟨gb158, 0, none⟩ = some (.int .i64 0) := (kc_ BK158.out 0).trans rfl; have hcz14_1 : w13.cell? ⟨gb158, 1, none⟩ = some (.string (⟨#[]⟩ : ByteArray)) := (kc_ BK158.out 1).trans rfl; have hcz14_2 : w13.cell? ⟨gb158, 2, none⟩ = some (.int .i64 0) := (kc_ BK158.out 2).trans rfl; have hfz14_0 := kf_ BK158.out 0; have hfz14_1 := kf_ BK158.out 1; have hfz14_2 := kf_ BK158.out 2))
         (try simp only [Act.put, ls_, lz_, lc_])
         go_cut [51] (fun v51 wc => ∃ (kq : Nat) (x51_11 : Bool), v51 = .bool x51_11 ∧ Aside0 (token_Check.j2 kq l0 x31_2 l0 (l0.length : Int) x31_2 x51_11 ((rd_T34 l0 x31_2).f0) ((rd_T34 l0 x31_2).f1) ((rd_T34 l0 x31_2).f2) = some r) ∧ Aside0 (kq ≤ k2) ∧ Aside0 (wc.heap[gb158]? = some (.cells #[.int .i64 ((rd_T34 l0 x31_2).f0), .string ((rd_T34 l0 x31_2).f1), .int .i64 ((rd_T34 l0 x31_2).f2)] 34 (0, 0))) ∧ Aside0 (Below w.heap.size w wc))
         case first =>
          have H := HC12.out
          clear HC12
          by_cases c15 : ((rd_T34 l0 x31_2).f2) < x3_2
          ·rw [if_pos c15] at H
           have c15b0 : decide (((rd_T34 l0 x31_2).f2) < x3_2) = true := dt_ c15
           clear c15
           (first | rw [c15b0] | (simp only [i64_w, i32_w]; rw [c15b0]) | skip)
           have H' := sd_ H
           clear H
           have hcz16_0 : w13.cell? ⟨gb158, 0, none⟩ = some (.int .i64 0) := (kc_ BK158.out 0).trans rfl
           have hcz16_1 : w13.cell? ⟨gb158, 1, none⟩ = some (.string (⟨#[]⟩ : ByteArray)) := (kc_ BK158.out 1).trans rfl
           have hcz16_2 : w13.cell? ⟨gb158, 2, none⟩ = some (.int .i64 0) := (kc_ BK158.out 2).trans rfl
           have hfz16_0 := kf_ BK158.out 0
           have hfz16_1 := kf_ BK158.out 1
           have hfz16_2 := kf_ BK158.out 2
           go_wp2
           go_meet
           case rel => exact ⟨_, (true), (by first | rfl | (simp; done) | (simp [*]; done) | (simp [bne]; done)), H', ⟨by have := HJ1.out; have := HK2.out; first | omega | exact Nat.le_refl _⟩, ⟨by (with_reducible repeat first | apply kn_ | apply kd_ | apply ka_); refine blk_put (cs := #[.int .i64 ((rd_T34 l0 x31_2).f0), .string ((rd_T34 l0 x31_2).f1), .int .i64 0]) ?_ 2 _ rfl; (with_reducible repeat first | apply kn_ | apply kd_ | apply ka_); refine blk_put (cs := #[.int .i64 ((rd_T34 l0 x31_2).f0), .string (⟨#[]⟩ : ByteArray), .int .i64 0]) ?_ 1 _ rfl; (with_reducible repeat first | apply kn_ | apply kd_ | apply ka_); refine blk_put (cs := #[.int .i64 0, .string (⟨#[]⟩ : ByteArray), .int .i64 0]) ?_ 0 _ rfl; (with_reducible repeat first | apply kn_ | apply kd_ | apply ka_); exact BK158.out⟩, ⟨by repeat (first | (with_reducible first | exact HB.out | apply ba_ | apply pd_ | apply d1_ | refine bs_ ?_ GE158.out) | exact HB.out)⟩⟩
          ·rw [if_neg c15] at H
           have c15b0 : decide (((rd_T34 l0 x31_2).f2) < x3_2) = false := df_ c15
           clear c15
           (first | rw [c15b0] | (simp only [i64_w, i32_w]; rw [c15b0]) | skip)
           by_cases c17 : x31_2 < (wrap64 ((l0.length : Int) - 1))
           ·rw [if_pos c17] at H
            have c17b0 : decide (x31_2 < (wrap64 ((l0.length : Int) - 1))) = true := dt_ c17
            clear c17
            replace H := ob_ H
            obtain ⟨t159, A180, H⟩ := H
            replace H : (token_Check.j2 k2 l0 x31_2 l0 (l0.length : Int) x31_2 (!t159) ((rd_T34 l0 x31_2).f0) ((rd_T34 l0 x31_2).f1) ((rd_T34 l0 x31_2).f2)) = some r := H
            have A18 := sd_ A180
            clear A180
            have H' := sd_ H
            clear H
            have hcz19_0 : w13.cell? ⟨gb158, 0, none⟩ = some (.int .i64 0) := (kc_ BK158.out 0).trans rfl
            have hcz19_1 : w13.cell? ⟨gb158, 1, none⟩ = some (.string (⟨#[]⟩ : ByteArray)) := (kc_ BK158.out 1).trans rfl
            have hcz19_2 : w13.cell? ⟨gb158, 2, none⟩ = some (.int .i64 0) := (kc_ BK158.out 2).trans rfl
            have hfz19_0 := kf_ BK158.out 0
            have hfz19_1 := kf_ BK158.out 1
            have hfz19_2 := kf_ BK158.out 2
            go_wp2_with (first | (go_at_call 25; (with_reducible refine (token_alone.calls k2 ((rd_T34 l0 x31_2).f0) ((rd_T34 l0 x31_2).f1) ((rd_T34 l0 x31_2).f2) t159 _ ?side1 A18.out).mono ?_); (case side1 => first | (with_reducible exact hE) | exact sd_ (LaidE.below hE.out (bb_ HB.out (e_ GE158 e0_)))); rintro e w20 ⟨rfl, hb⟩; replace BK158 := sd_ (blk_below (g := gb158) (o := .cells #[.int .i64 ((rd_T34 l0 x31_2).f0), .string ((rd_T34 l0 x31_2).f1), .int .i64 ((rd_T34 l0 x31_2).f2)] 34 (0, 0)) (by (with_reducible repeat first | apply kn_ | apply kd_ | apply ka_); refine blk_put (cs := #[.int .i64 ((rd_T34 l0 x31_2).f0), .string ((rd_T34 l0 x31_2).f1), .int .i64 0]) ?_ 2 _ rfl; (with_reducible repeat first | apply kn_ | apply kd_ | apply ka_); refine blk_put (cs := #[.int .i64 ((rd_T34 l0 x31_2).f0), .string (⟨#[]⟩ : ByteArray), .int .i64 0]) ?_ 1 _ rfl; (with_reducible repeat first | apply kn_ | apply kd_ | apply ka_); refine blk_put (cs := #[.int .i64 0, .string (⟨#[]⟩ : ByteArray), .int .i64 0]) ?_ 0 _ rfl; (with_reducible repeat first | apply kn_ | apply kd_ | apply ka_); exact BK158.out) hb); replace HB := hb_ HB (e_ GE158 e0_) hb; (try clear hb); (try clear hb2); (try clear hk); (try clear hi)))
            go_meet
            case rel => exact ⟨_, (!t159), (by first | rfl | (simp; done) | (simp [*]; done) | (simp [bne]; done)), H', ⟨by have := HJ1.out; have := HK2.out; first | omega | exact Nat.le_refl _⟩, ⟨by (with_reducible repeat first | apply kn_ | apply kd_ | apply ka_); exact BK158.out⟩, ⟨by repeat (first | (with_reducible first | exact HB.out | apply ba_ | apply pd_ | apply d1_ | refine bs_ ?_ GE158.out) | exact HB.out)⟩⟩
           ·rw [if_neg c17] at H
            have c17b0 : decide (x31_2 < (wrap64 ((l0.length : Int) - 1))) = false := df_ c17
            clear c17
            have H' := sd_ H
            clear H
            have hcz21_0 : w13.cell? ⟨gb158, 0, none⟩ = some (.int .i64 0) := (kc_ BK158.out 0).trans rfl
            have hcz21_1 : w13.cell? ⟨gb158, 1, none⟩ = some (.string (⟨#[]⟩ : ByteArray)) := (kc_ BK158.out 1).trans rfl
            have hcz21_2 : w13.cell? ⟨gb158, 2, none⟩ = some (.int .i64 0) := (kc_ BK158.out 2).trans rfl
            have hfz21_0 := kf_ BK158.out 0
            have hfz21_1 := kf_ BK158.out 1
            have hfz21_2 := kf_ BK158.out 2
            go_wp2
            go_meet
            case rel => exact ⟨_, (false), (by first | rfl | (simp; done) | (simp [*]; done) | (simp [bne]; done)), H', ⟨by have := HJ1.out; have := HK2.out; first | omega | exact Nat.le_refl _⟩, ⟨by (with_reducible repeat first | apply kn_ | apply kd_ | apply ka_); refine blk_put (cs := #[.int .i64 ((rd_T34 l0 x31_2).f0), .string ((rd_T34 l0 x31_2).f1), .int .i64 0]) ?_ 2 _ rfl; (with_reducible repeat first | apply kn_ | apply kd_ | apply ka_); refine blk_put (cs := #[.int .i64 ((rd_T34 l0 x31_2).f0), .string (⟨#[]⟩ : ByteArray), .int .i64 0]) ?_ 1 _ rfl; (with_reducible repeat first | apply kn_ | apply kd_ | apply ka_); refine blk_put (cs := #[.int .i64 0, .string (⟨#[]⟩ : ByteArray), .int .i64 0]) ?_ 0 _ rfl; (with_reducible repeat first | apply kn_ | apply kd_ | apply ka_); exact BK158.out⟩, ⟨by repeat (first | (with_reducible first | exact HB.out | apply ba_ | apply pd_ | apply d1_ | refine bs_ ?_ GE158.out) | exact HB.out)⟩⟩
         case rest =>
          clear HC12
          try clear c1; try clear p1; try clear q1; try clear hx1; try clear p2; try clear c3; try clear c3b0; try clear c3b1; try clear c3b2; try clear c5; try clear c5b0; try clear c6; try clear c6b0; try clear p6; try clear c7; try clear c7b0; try clear c7b1; try clear c8; try clear c9; try clear c9b0; try clear c10; try clear c10b0; try clear c11; try clear c11b0; try clear c13; try clear c15; try clear c15b0; try clear p15; try clear q15; try clear hx15; try clear c17; try clear c17b0; try clear hcz14_0; try clear hcz14_1; try clear hcz14_2; try clear hcz16_0; try clear hcz16_1; try clear hcz16_2; try clear hcz19_0; try clear hcz19_1; try clear hcz19_2; try clear hcz21_0; try clear hcz21_1; try clear hcz21_2; try clear hfz14_0; try clear hfz14_1; try clear hfz14_2; try clear hfz16_0; try clear hfz16_1; try clear hfz16_2; try clear hfz19_0; try clear hfz19_1; try clear hfz19_2; try clear hfz21_0; try clear hfz21_1; try clear hfz21_2; try clear hx155_0; try clear hx155_1; try clear hx155_2; try clear hx156_0; try clear hx156_1; try clear hx156_2; try clear hx157_0; try clear hx157_1; try clear hx157_2; try clear p1; try clear p155; try clear p156; try clear p157; try clear p2; try clear p6; try clear q1; try clear q155; try clear q156; try clear q157
          obtain ⟨kq, x51_11, rfl, HA, HJ11, BK158, HB⟩ := hcut
          cases kq with
          | zero => exact absurd HA.out (by simp [token_Check.j2])
          | succ kj11 =>
           have H := HA.out
           clear HA
           simp only [token_Check.j2] at H
           by_cases c22 : x51_11 = true
           ·subst c22
            have H1 : (some false) = some r := by rw [if_pos rfl] at H; exact H
            clear H; have H := H1; clear H1
            obtain rfl := Option.some.inj H
            go_wp2
            go_ret
            exact ⟨by first | rfl | (simp [errW_none, errW_some] <;> rfl) | (simp [*, errW_none, errW_some] <;> rfl), by repeat (first | (with_reducible first | exact HB.out | apply ba_ | apply pd_ | apply d1_ | refine bs_ ?_ GE158.out) | exact HB.out)⟩
           ·replace c22 := bf_ c22
            subst c22
            have H1 : (if x31_2 < (wrap64 ((l0.length : Int) - 1)) then ((token_raw.f ((rd_T34 l0 x31_2).f0) ((rd_T34 l0 x31_2).f1) ((rd_T34 l0 x31_2).f2)).bind fun t160 => (if (t160.size : Int) > (wrap64 (9223372036854775807 - ((rd_T34 l0 x31_2).f2))) then (some false) else ((token_raw.f ((rd_T34 l0 x31_2).f0) ((rd_T34 l0 x31_2).f1) ((rd_T34 l0 x31_2).f2)).bind fun t161 => (token_Check.l0 kj11 l0 (wrap64 (((rd_T34 l0 x31_2).f2) + (t161.size : Int))) l0 (l0.length : Int) (wrap64 (x31_2 + 1)))))) else (token_Check.l0 kj11 l0 ((rd_T34 l0 x31_2).f2) l0 (l0.length : Int) (wrap64 (x31_2 + 1)))) = some r := by rw [if_neg (show ¬ (false = true) by decide)] at H; exact H
            clear H; have H := H1; clear H1
            by_cases c23 : x31_2 < (wrap64 ((l0.length : Int) - 1))
            ·rw [if_pos c23] at H
             have c23b0 : decide (x31_2 < (wrap64 ((l0.length : Int) - 1))) = true := dt_ c23
             clear c23
             replace H := ob_ H
             obtain ⟨t160, A240, H⟩ := H
             replace H : (if (t160.size : Int) > (wrap64 (9223372036854775807 - ((rd_T34 l0 x31_2).f2))) then (some false) else ((token_raw.f ((rd_T34 l0 x31_2).f0) ((rd_T34 l0 x31_2).f1) ((rd_T34 l0 x31_2).f2)).bind fun t161 => (token_Check.l0 kj11 l0 (wrap64 (((rd_T34 l0 x31_2).f2) + (t161.size : Int))) l0 (l0.length : Int) (wrap64 (x31_2 + 1))))) = some r := H
             have A24 := sd_ A240
             clear A240
             by_cases c25 : (t160.size : Int) > (wrap64 (9223372036854775807 - ((rd_T34 l0 x31_2).f2)))
             ·rw [if_pos c25] at H
              have c25b0 : decide ((wrap64 (9223372036854775807 - ((rd_T34 l0 x31_2).f2))) < (t160.size : Int)) = true := dt_ c25
              clear c25
              obtain rfl := Option.some.inj H
              have hcz26_0 : wc.cell? ⟨gb158, 0, none⟩ = some (.int .i64 ((rd_T34 l0 x31_2).f0)) := (kc_ BK158.out 0).trans rfl
              have hcz26_1 : wc.cell? ⟨gb158, 1, none⟩ = some (.string ((rd_T34 l0 x31_2).f1)) := (kc_ BK158.out 1).trans rfl
              have hcz26_2 : wc.cell? ⟨gb158, 2, none⟩ = some (.int .i64 ((rd_T34 l0 x31_2).f2)) := (kc_ BK158.out 2).trans rfl
              have hfz26_0 := kf_ BK158.out 0
              have hfz26_1 := kf_ BK158.out 1
              have hfz26_2 := kf_ BK158.out 2
              go_wp2_with (first | ((with_reducible refine gate_callee (f := 26) rfl ?_); refine goesL_ (some 60) rfl rfl Tryd.func26 (by kernel_rfl) rfl #[.agg #[.int .i64 ((rd_T34 l0 x31_2).f0), .string ((rd_T34 l0 x31_2).f1), .int .i64 ((rd_T34 l0 x31_2).f2)]] rfl (by (try simp only [lm_, lq_, lx_]); first | done | rfl | (simp only [ld_, lt_]; rfl)) ?_; (with_reducible refine (token_raw.calls ((rd_T34 l0 x31_2).f0) ((rd_T34 l0 x31_2).f1) ((rd_T34 l0 x31_2).f2) t160 _ A24.out).mono ?_); rintro e w27 ⟨rfl, hb⟩; refine ⟨_, rfl, ?_⟩; replace BK158 := kb_ BK158 hb; replace HB := hb_ HB (e_ GE158 e0_) hb; (try clear hb); (try clear hb2); (try clear hk); (try clear hi)))
              go_ret
              exact ⟨by first | rfl | (simp [errW_none, errW_some] <;> rfl) | (simp [*, errW_none, errW_some] <;> rfl), by repeat (first | (with_reducible first | exact HB.out | apply ba_ | apply pd_ | apply d1_ | refine bs_ ?_ GE158.out) | exact HB.out)⟩
             ·rw [if_neg c25] at H
              have c25b0 : decide ((wrap64 (9223372036854775807 - ((rd_T34 l0 x31_2).f2))) < (t160.size : Int)) = false := df_ c25
              clear c25
              replace H := ob_ H
              obtain ⟨t161, A280, H⟩ := H
              replace H : (token_Check.l0 kj11 l0 (wrap64 (((rd_T34 l0 x31_2).f2) + (t161.size : Int))) l0 (l0.length : Int) (wrap64 (x31_2 + 1))) = some r := H
              have A28 := sd_ A280
              clear A280
              have H' := sd_ H
              clear H
              have hcz29_0 : wc.cell? ⟨gb158, 0, none⟩ = some (.int .i64 ((rd_T34 l0 x31_2).f0)) := (kc_ BK158.out 0).trans rfl
              have hcz29_1 : wc.cell? ⟨gb158, 1, none⟩ = some (.string ((rd_T34 l0 x31_2).f1)) := (kc_ BK158.out 1).trans rfl
              have hcz29_2 : wc.cell? ⟨gb158, 2, none⟩ = some (.int .i64 ((rd_T34 l0 x31_2).f2)) := (kc_ BK158.out 2).trans rfl
              have hfz29_0 := kf_ BK158.out 0
              have hfz29_1 := kf_ BK158.out 1
              have hfz29_2 := kf_ BK158.out 2
              go_wp2_with (first | ((with_reducible refine gate_callee (f := 26) rfl ?_); refine goesL_ (some 60) rfl rfl Tryd.func26 (by kernel_rfl) rfl #[.agg #[.int .i64 ((rd_T34 l0 x31_2).f0), .string ((rd_T34 l0 x31_2).f1), .int .i64 ((rd_T34 l0 x31_2).f2)]] rfl (by (try simp only [lm_, lq_, lx_]); first | done | rfl | (simp only [ld_, lt_]; rfl)) ?_; (with_reducible refine (token_raw.calls ((rd_T34 l0 x31_2).f0) ((rd_T34 l0 x31_2).f1) ((rd_T34 l0 x31_2).f2) t160 _ A24.out).mono ?_); rintro e w30 ⟨rfl, hb⟩; refine ⟨_, rfl, ?_⟩; replace BK158 := kb_ BK158 hb; replace HB := hb_ HB (e_ GE158 e0_) hb; (try clear hb); (try clear hb2); (try clear hk); (try clear hi); have hcz31_0 : w30.cell? ⟨gb158, 0, none⟩ = some (.int .i64 ((rd_T34 l0 x31_2).f0)) := (kc_ BK158.out 0).trans rfl; have hcz31_1 : w30.cell? ⟨gb158, 1, none⟩ = some (.string ((rd_T34 l0 x31_2).f1)) := (kc_ BK158.out 1).trans rfl; have hcz31_2 : w30.cell? ⟨gb158, 2, none⟩ = some (.int .i64 ((rd_T34 l0 x31_2).f2)) := (kc_ BK158.out 2).trans rfl; have hfz31_0 := kf_ BK158.out 0; have hfz31_1 := kf_ BK158.out 1; have hfz31_2 := kf_ BK158.out 2) | ((with_reducible refine gate_callee (f := 26) rfl ?_); refine goesL_ (some 67) rfl rfl Tryd.func26 (by kernel_rfl) rfl #[.agg #[.int .i64 ((rd_T34 l0 x31_2).f0), .string ((rd_T34 l0 x31_2).f1), .int .i64 ((rd_T34 l0 x31_2).f2)]] rfl (by (try simp only [lm_, lq_, lx_]); first | done | rfl | (simp only [ld_, lt_]; rfl)) ?_; (with_reducible refine (token_raw.calls ((rd_T34 l0 x31_2).f0) ((rd_T34 l0 x31_2).f1) ((rd_T34 l0 x31_2).f2) t161 _ A28.out).mono ?_); rintro e w32 ⟨rfl, hb⟩; refine ⟨_, rfl, ?_⟩; replace BK158 := kb_ BK158 hb; replace HB := hb_ HB (e_ GE158 e0_) hb; (try clear hb); (try clear hb2); (try clear hk); (try clear hi)))
              go_roundg kj11
              case measure => have := HJ1.out; have := HK2.out; have := HJ11.out; omega
              case rel => exact ⟨(wrap64 (((rd_T34 l0 x31_2).f2) + (t161.size : Int))), (wrap64 (x31_2 + 1)), (by first | rfl | (simp; done) | (simp [*]; done) | (simp [bne]; done)), (by first | rfl | (simp; done) | (simp [*]; done) | (simp [bne]; done)), H', ⟨by have := HJ1.out; have := HK2.out; have := HJ11.out; omega⟩, ⟨by repeat (first | (with_reducible first | exact HB.out | apply ba_ | apply pd_ | apply d1_ | refine bs_ ?_ GE158.out) | exact HB.out)⟩⟩
            ·rw [if_neg c23] at H
             have c23b0 : decide (x31_2 < (wrap64 ((l0.length : Int) - 1))) = false := df_ c23
             clear c23
             have H' := sd_ H
             clear H
             have hcz33_0 : wc.cell? ⟨gb158, 0, none⟩ = some (.int .i64 ((rd_T34 l0 x31_2).f0)) := (kc_ BK158.out 0).trans rfl
             have hcz33_1 : wc.cell? ⟨gb158, 1, none⟩ = some (.string ((rd_T34 l0 x31_2).f1)) := (kc_ BK158.out 1).trans rfl
             have hcz33_2 : wc.cell? ⟨gb158, 2, none⟩ = some (.int .i64 ((rd_T34 l0 x31_2).f2)) := (kc_ BK158.out 2).trans rfl
             have hfz33_0 := kf_ BK158.out 0
             have hfz33_1 := kf_ BK158.out 1
             have hfz33_2 := kf_ BK158.out 2
             go_wp2
             go_roundg kj11
             case measure => have := HJ1.out; have := HK2.out; have := HJ11.out; omega
             case rel => exact ⟨(((rd_T34 l0 x31_2).f2)), (wrap64 (x31_2 + 1)), (by first | rfl | (simp; done) | (simp [*]; done) | (simp [bne]; done)), (by first | rfl | (simp; done) | (simp [*]; done) | (simp [bne]; done)), H', ⟨by have := HJ1.out; have := HK2.out; have := HJ11.out; omega⟩, ⟨by repeat (first | (with_reducible first | exact HB.out | apply ba_ | apply pd_ | apply d1_ | refine bs_ ?_ GE158.out) | exact HB.out)⟩⟩
        ·rw [if_neg c11] at H
         exact absurd H (by simp)
       ·rw [if_neg c10] at H
        exact absurd H (by simp)
      ·rw [if_neg c9] at H
       have c9b0 : decide (x31_2 < (l0.length : Int)) = false := df_ c9
       clear c9
       obtain rfl := Option.some.inj H
       go_wp2
       go_ret
       exact ⟨by first | rfl | (simp [errW_none, errW_some] <;> rfl) | (simp [*, errW_none, errW_some] <;> rfl), by repeat (first | (with_reducible first | exact HB.out | apply ba_ | apply pd_ | apply d1_) | exact HB.out)⟩

/-! ### strings_Builder_WriteString: function 29 -/
/-! strings.Builder in this dump, after the kit's contracts (its copyCheck refuses where a value lies elsewhere) -/
theorem sb_copy_used (b : Nat) (w : World) (h0 : w.cell? ⟨b, 0, none⟩ = some (.pointer (some ⟨b, 0, none⟩))) :
  Calls Tryd.prog 42 #[.pointer (some ⟨b, 0, none⟩)] w fun e w' => e = .returned (.tuple #[]) ∧ w' = w := by
 obtain ⟨j, hj, _⟩ := Option.map_eq_some_iff.1 Tryd.Builder_Extra_169.sizeBuilder
 go_enter Tryd.func42, Tryd.ntmps42
 go_wp2
 rw [Lib.run_neq_ptr_same w _ Tryd.underlying46 hj]
 go_wp2
 go_end0
 exact ⟨rfl, rfl⟩
theorem sb_copy_fresh (b : Nat) (w : World) (h0 : w.cell? ⟨b, 0, none⟩ = some (.pointer none)) (hsh : w.shape? b = some (49, 2)) (hfz : w.frozen? ⟨b, 0, none⟩ = false) :
  Calls Tryd.prog 42 #[.pointer (some ⟨b, 0, none⟩)] w fun e w' => e = .returned (.tuple #[]) ∧ w' = w.setCell ⟨b, 0, none⟩ (.pointer (some ⟨b, 0, none⟩)) := by
 obtain ⟨j, hj, hjs⟩ := Option.map_eq_some_iff.1 Tryd.Builder_Extra_169.sizeBuilder
 go_enter Tryd.func42, Tryd.ntmps42
 go_wp2
 rw [Lib.run_to_unsafe w ⟨b, 0, none⟩ Tryd.underlying46 Tryd.underlying65 hj (by rw [hjs]; decide) hsh (Nat.zero_lt_succ 1)]
 simp only [Result.andThen]
 rw [Oper.upon_value]
 go_wp2
 rw [run_callFunc_extern Tryd.func47 (by kernel_rfl) (by kernel_rfl) (by kernel_rfl) (e := Extern.AbiNoEscape.same) (by kernel_rfl)]
 rw [Lib.run_noEscape]
 simp only [Result.andThen]
 rw [Oper.upon_value]
 go_wp2
 rw [Lib.run_from_unsafe w ⟨b, 0, none⟩ Tryd.underlying65 Tryd.underlying46 hj hsh Tryd.Builder_Extra_169.liesBuilder]
 simp only [Result.andThen]
 rw [Oper.upon_value]
 go_wp2
 go_end0
 exact ⟨rfl, rfl⟩
theorem sb_copy (B b : Nat) (bs : List Value) (w : World) (h : Lib.IsBuilderF 49 5 B b bs w) :
  Calls Tryd.prog 42 #[.pointer (some ⟨b, 0, none⟩)] w fun e w' => e = .returned (.tuple #[]) ∧ (Lib.BuilderAtF 49 5 B b (.pointer (some ⟨b, 0, none⟩)) bs w' ∧ Below B w w' ∧ Lib.OthersKept 5 (some b) w w') := by
 rcases h with h | h
 ·refine (sb_copy_fresh b w h.cell0 h.shape h.frozen0).mono ?_
  rintro e w' ⟨rfl, rfl⟩
  exact ⟨rfl, h.used _, (Below.refl B w).setCell (p := ⟨b, 0, none⟩) h.1 _, (Lib.OthersKept.refl _ _ w).setCell ⟨b, 0, none⟩ rfl _⟩
 ·refine (sb_copy_used b w h.cell0).mono ?_
  rintro e w' ⟨rfl, rfl⟩
  exact ⟨rfl, h, Below.refl B _, Lib.OthersKept.refl _ _ _⟩
set_option maxHeartbeats 2000000 in
set_option maxRecDepth 100000 in
theorem sb_byte (B b : Nat) (bs : List Value) (c : Int) (w : World) (h : Lib.IsBuilderF 49 5 B b bs w) (hlen : bs.length + 1 ≤ 140737488355328) (hBw : B ≤ w.heap.size) :
  Calls Tryd.prog 28 #[.pointer (some ⟨b, 0, none⟩), .int .u8 c] w fun e w' => e = .returned .nilIface ∧ (Lib.BuilderAtF 49 5 B b (.pointer (some ⟨b, 0, none⟩)) (bs ++ [.int .u8 c]) w' ∧ Below B w w' ∧ Lib.OthersKept 5 (some b) w w') := by
 obtain ⟨i0, hi, hz0, hz1, hz2⟩ := info_parts Tryd.Builder_Extra_169.infoByte
 have HC := sd_ (sb_copy B b bs w h)
 go_enter Tryd.func28, Tryd.ntmps28
 go_wp2_with (go_at_call 42; refine HC.out.mono ?_)
 rintro e w1 ⟨rfl, h1, hb1, hk1⟩
 obtain ⟨hB, v, hbk, hown, hne⟩ := h1
 have c0 : w1.cell? ⟨b, 0, none⟩ = some (.pointer (some ⟨b, 0, none⟩)) := by rw [Lib.cell_of_heap hbk]; rfl
 have c1 : w1.cell? ⟨b, 1, none⟩ = some v := by rw [Lib.cell_of_heap hbk]; rfl
 go_wp2_with (at_builtin; refine wpList_append_ownF _ rfl _ _ 47 rfl B 5 i0 (.int .u8 0) 1 1 Tryd.underlying47 hi hz0 hz1 hz2 rfl (by decide) _ _ _ rfl (hown.alloc _) ⟨w1.heap.size, 0, none⟩ 1 1 [.int .u8 c] rfl rfl ?c1 ?c2 ?c3 ?c4 ?c5 ?_)
 case c1 =>
  intro j u hj
  match j, hj with
  | 0, hj => simp at hj; subst hj; simp [Addr.add]
 case c2 => intro u hu; simp at hu; subst hu; rfl
 case c3 => unfold maxLen; omega
 case c4 => omega
 case c5 => have := hb1.size; simp; omega
 intro v' w2 hown' hgrow _
 have hlt : b < w1.heap.size := by
  rcases Nat.lt_or_ge b w1.heap.size with h' | h'
  ·exact h'
  ·simp [Array.getElem?_eq_none h'] at hbk
 have hb2 : w2.heap[b]? = some (.cells #[.pointer (some ⟨b, 0, none⟩), v] 49 (0, 0)) := by
  rw [hgrow.block b (by simp; omega) (fun e => hne e.symm), Lib.alloc_old w1 _ b hlt]
  exact hbk
 have d0 : w2.cell? ⟨b, 0, none⟩ = some (.pointer (some ⟨b, 0, none⟩)) := by rw [Lib.cell_of_heap hb2]; rfl
 have d1 : w2.cell? ⟨b, 1, none⟩ = some v := by rw [Lib.cell_of_heap hb2]; rfl
 have f1 : w2.frozen? ⟨b, 1, none⟩ = false := Lib.frozen_of_heap hb2 1
 obtain ⟨g, cap, rfl⟩ : ∃ g cap, v' = .slice (some ⟨g, 0, none⟩) (bs.length + 1) cap := by
  rcases hown'.2 with ⟨_, h0⟩ | ⟨g, cap, cur, fz, hv, _⟩
  ·omega
  ·exact ⟨g, cap, hv⟩
 go_wp2
 go_ret
 refine ⟨rfl, ?_, ?_, ((hk1.alloc _).grown hgrow (Lib.ownsRowF_kind (hown.alloc _))).setCell ⟨b, 1, none⟩ rfl _⟩
 ·exact Lib.BuilderAtF.put (T := 49) (e := 5) hB hb2 (bs' := bs ++ [.int .u8 c]) (by simpa using hown') (by decide)
 ·exact ((hb1.alloc (by have := hb1.size; omega) _).grown hgrow (by have := hb1.size; simp; omega) (fun k hk => (hown.lt k hk).1)).setCell (p := ⟨b, 1, none⟩) hB _
set_option maxHeartbeats 2000000 in
set_option maxRecDepth 100000 in
theorem sb_string (B b : Nat) (bs : List Value) (s : ByteArray) (w : World) (h : Lib.IsBuilderF 49 5 B b bs w) (hlen : bs.length + s.size ≤ 140737488355328) (hBw : B ≤ w.heap.size) :
  Calls Tryd.prog 29 #[.pointer (some ⟨b, 0, none⟩), .string s] w fun e w' => e = .returned (.tuple #[.int .i64 s.size, .nilIface]) ∧ (Lib.BuilderAtF 49 5 B b (.pointer (some ⟨b, 0, none⟩)) (bs ++ Lib.strCells s) w' ∧ Below B w w' ∧ Lib.OthersKept 5 (some b) w w') := by
 obtain ⟨i0, hi, hz0, hz1, hz2⟩ := info_parts Tryd.Builder_Extra_169.infoByte
 have HC := sd_ (sb_copy B b bs w h)
 go_enter Tryd.func29, Tryd.ntmps29
 go_wp2_with (go_at_call 42; refine HC.out.mono ?_)
 rintro e w1 ⟨rfl, h1, hb1, hk1⟩
 obtain ⟨hB, v, hbk, hown, hne⟩ := h1
 have c0 : w1.cell? ⟨b, 0, none⟩ = some (.pointer (some ⟨b, 0, none⟩)) := by rw [Lib.cell_of_heap hbk]; rfl
 have c1 : w1.cell? ⟨b, 1, none⟩ = some v := by rw [Lib.cell_of_heap hbk]; rfl
 go_wp2_with (at_builtin; refine Lib.wpList_append_own_stringF _ rfl _ _ 47 9 rfl B 5 i0 Tryd.underlying47 Tryd.underlying9 hi hz0 hz1 hz2 _ _ _ rfl hown s rfl ?c3 ?c4 ?c5 ?_)
 case c3 => unfold maxLen; omega
 case c4 => omega
 case c5 => have := hb1.size; omega
 intro v' w2 hown' hgrow _
 have hlt : b < w1.heap.size := by
  rcases Nat.lt_or_ge b w1.heap.size with h' | h'
  ·exact h'
  ·simp [Array.getElem?_eq_none h'] at hbk
 have hb2 : w2.heap[b]? = some (.cells #[.pointer (some ⟨b, 0, none⟩), v] 49 (0, 0)) := by
  rw [hgrow.block b hlt (fun e => hne e.symm)]
  exact hbk
 have d0 : w2.cell? ⟨b, 0, none⟩ = some (.pointer (some ⟨b, 0, none⟩)) := by rw [Lib.cell_of_heap hb2]; rfl
 have d1 : w2.cell? ⟨b, 1, none⟩ = some v := by rw [Lib.cell_of_heap hb2]; rfl
 have f1 : w2.frozen? ⟨b, 1, none⟩ = false := Lib.frozen_of_heap hb2 1
 obtain ⟨ao, n', cap, rfl⟩ : ∃ ao n' cap, v' = .slice ao n' cap := by
  rcases hown'.2 with ⟨hv, _⟩ | ⟨g, cap, cur, fz, hv, _⟩
  ·exact ⟨_, _, _, hv⟩
  ·exact ⟨_, _, _, hv⟩
 go_wp2
 go_ret2
 refine ⟨rfl, ?_, ?_, (hk1.grown hgrow (Lib.ownsRowF_kind hown)).setCell ⟨b, 1, none⟩ rfl _⟩
 ·exact Lib.BuilderAtF.put (T := 49) (e := 5) hB hb2 (bs' := bs ++ Lib.strCells s) (by simpa [Lib.strCells_length] using hown') (by decide)
 ·exact (hb1.grown hgrow (by have := hb1.size; omega) (fun k hk => (hown.lt k hk).1)).setCell (p := ⟨b, 1, none⟩) hB _
theorem sb_below_at {T e : TypeId} {B b : Nat} {p : Value} {bs : List Value} {W W' : World} (h : Lib.BuilderAtF T e B b p bs W) (hb : Below W.heap.size W W') : Lib.BuilderAtF T e B b p bs W' := by
 have hlt := h.lt
 obtain ⟨hB, v, hv, hown, hne⟩ := h
 exact ⟨hB, v, (hb.block b hlt).trans hv, hown.kept (row := none) ⟨hb.os, hb.tape, hb.output, hb.size, fun k hk _ => hb.block k hk⟩ (Classical.em _), hne⟩
theorem sb_below {T e : TypeId} {B b : Nat} {bs : List Value} {W W' : World} (h : Lib.IsBuilderF T e B b bs W) (hb : Below W.heap.size W W') : Lib.IsBuilderF T e B b bs W' :=
 h.elim (fun x => .inl (sb_below_at x hb)) (fun x => .inr (sb_below_at x hb))

/-! ### token_Join: function 15 -/
def joinGo : List S34 → Bool → List UInt8 → Option (List UInt8)
 | [], _, acc => some acc
 | t :: r, st, acc => (token_raw.f t.f0 t.f1 t.f2).bind fun s => if acc.length + 1 + s.size ≤ 140737488355328 then joinGo r true ((if st = true then acc ++ [32] else acc) ++ s.data.toList) else none
def joinV (l : List S34) : Option ByteArray := if 1 ≤ l.length then (joinGo (l.take (l.length - 1)) false []).bind fun b => some ⟨b.toArray⟩ else none
def token_Join.f (k : Nat) (l0 : List S34) : Option ByteArray := (token_Check.f k l0).bind fun c => if c = true then joinV l0 else some ⟨#[]⟩
theorem token_Join.mono : ∀ a0 k, LeO (token_Join.f k a0) (token_Join.f (k + 1) a0) := by
 intro a0 k
 unfold token_Join.f
 exact LeO.bind (token_Check.mono _ _) (fun _ => LeO.refl _)
theorem join_take {l : List S34} {m j : Nat} (h : j < m) (hm : m ≤ l.length) : (l.take m).drop j = rd_T34 l (j : Int) :: (l.take m).drop (j + 1) := by
 have h1 : j < (l.take m).length := by rw [lt_]; omega
 rw [List.drop_eq_getElem_cons h1, List.getElem_take]
 unfold rd_T34
 rw [Int.toNat_natCast, List.getD_eq_getElem?_getD, List.getElem?_eq_getElem (by omega)]
 rfl
set_option maxHeartbeats 4000000 in
set_option maxRecDepth 100000 in
theorem token_Join.calls (k : Nat) (A0 : Option Addr) (c0 : Nat) (l0 : List (S34)) (r : ByteArray) (w : World) (hr0 : Kd.C k34 w A0 l0.length l0) (hc0 : l0.length ≤ c0) (hE : Aside0 (LaidE w)) (h : token_Join.f k l0 = some r) :
  Calls Tryd.prog 15 #[.slice A0 l0.length c0] w fun e w' => e = .returned (.string r) ∧ Below w.heap.size w w' := by
 unfold token_Join.f at h
 cases hck : token_Check.f k l0 with
 | none => rw [hck] at h; exact absurd h (by simp)
 | some c =>
 rw [hck, Option.bind_some] at h
 have hlen : l0.length ≤ 9223372036854775807 := by have := hr0.2.1; omega
 have HQ := sd_ (fun W hE hr => token_Check.calls k A0 c0 l0 c W hr hc0 hE hck)
 have HR0 := sd_ hr0
 clear hck
 cases c with
 | false =>
  rw [if_neg (by simp)] at h
  obtain rfl := Option.some.inj h
  clear hr0
  go_enter Tryd.func15, Tryd.ntmps15
  go_wp2_with (go_at_call 13; refine (HQ.out _ hE HR0.out).mono ?_; rintro e w1 ⟨rfl, hb⟩; have HB := sd_ hb; clear hb)
  go_ret
  exact ⟨rfl, HB.out⟩
 | true =>
  rw [if_pos rfl] at h
  unfold joinV at h
  by_cases h1 : 1 ≤ l0.length
  rotate_left
  ·rw [if_neg h1] at h; exact absurd h (by simp)
  rw [if_pos h1] at h
  cases hj : joinGo (l0.take (l0.length - 1)) false [] with
  | none => rw [hj] at h; exact absurd h (by simp)
  | some R =>
  rw [hj, Option.bind_some] at h
  obtain rfl := Option.some.inj h
  clear h
  obtain ⟨m, hm⟩ : ∃ m, l0.length = m + 1 := ⟨l0.length - 1, by omega⟩
  have e1 : wrap64 ((l0.length : Int) - 1) = (m : Int) := by unfold wrap64; omega
  have e2 : (m : Int) ≤ (l0.length : Int) := by omega
  have HJ := sd_ hj
  clear hj hr0 hm
  go_enter Tryd.func15, Tryd.ntmps15
  go_wp2_with (go_at_call 13; refine (HQ.out _ hE HR0.out).mono ?_; rintro e w1 ⟨rfl, hb⟩; have HB := sd_ hb; clear hb)
  have HI0 := sd_ (Lib.IsBuilderF.of (Lib.fresh_isBuilder 49 5 w1))
  have HG := sd_ (bz_ HB.out)
  go_loopw [15] (fun v15 w' => ∃ (j : Nat) (acc : List UInt8), v15 = .int .i64 j ∧ j ≤ l0.length - 1 ∧ Aside0 (joinGo ((l0.take (l0.length - 1)).drop j) (decide (0 < j)) acc = some R) ∧ Aside0 (Lib.IsBuilderF 49 5 w1.heap.size w1.heap.size (Lib.byteCells acc) w') ∧ Aside0 (Below w.heap.size w w') ∧ Aside0 (w1.heap.size < w'.heap.size)) (fun v15 _ => l0.length - (intOf v15).toNat)
  case atStart => exact ⟨0, [], rfl, Nat.zero_le _, HJ, HI0, ⟨ba_ HB.out _⟩, ⟨by rw [World.alloc, Array.size_push]; exact Nat.lt_succ_self _⟩⟩
  case round =>
   clear HI0 HB HJ
   obtain ⟨j, acc, rfl, hjm, HJ, HI, HB, HS⟩ := hrel
   by_cases c1 : j < l0.length - 1
   ·have q1 : decide ((j : Int) < ((l0.length - 1 : Nat) : Int)) = true := dt_ (by omega)
    have q2 : (j : Int) < (l0.length : Int) := by omega
    have HJ2 := HJ.out
    rw [join_take c1 (by omega)] at HJ2
    simp only [joinGo] at HJ2
    cases hraw : token_raw.f (rd_T34 l0 j).f0 (rd_T34 l0 j).f1 (rd_T34 l0 j).f2 with
    | none => rw [hraw] at HJ2; exact absurd HJ2 (by simp)
    | some s =>
    rw [hraw, Option.bind_some] at HJ2
    by_cases c2 : acc.length + 1 + s.size ≤ 140737488355328
    rotate_left
    ·rw [if_neg c2] at HJ2; exact absurd HJ2 (by simp)
    rw [if_pos c2] at HJ2
    have HR := sd_ hraw
    have HC2 := sd_ c2
    clear hraw c2
    obtain ⟨ad, e, hx0, hx1, hx2⟩ := at_T34 HR0.out (j : Int) (by omega) q2
    cases e
    replace hx0 := (HB.out.cell (wb_ w _ hx0)).trans hx0
    replace hx1 := (HB.out.cell (wb_ w _ hx1)).trans hx1
    replace hx2 := (HB.out.cell (wb_ w _ hx2)).trans hx2
    rw [Int.toNat_natCast] at hx0 hx1 hx2
    by_cases c0 : 0 < j
    ·have q0 : decide ((j : Int) > 0) = true := dt_ (by omega)
     have q4 : (0 : Int) < (j : Int) := by omega
     rw [dt_ c0, if_pos rfl] at HJ2
     have HJ3 := sd_ HJ2
     clear HJ2
     go_wp2_with (first | ((with_reducible refine gate_dst (N := 5) rfl ?_); (try (refine gate_guard (by rfl) ?_; dsimp only)); refine box_event ?hg (N := 5) ?hd (cs := #[.int .i64 0, .string (⟨#[]⟩ : ByteArray), .int .i64 0]) (t := 34) ?hr ?_; (case hd => rfl); (case hg => rfl); (case hr => first | (go_simp; done) | (go_simp; rfl)); intro gb hg w2 hbox hb; have BK := sd_ hbox; have GB := sd_ hg; have BB := sd_ hb; clear hb hbox hg; have hcz0 : w2.cell? ⟨gb, 0, none⟩ = some (.int .i64 0) := (kc_ BK.out 0).trans rfl; have hcz1 : w2.cell? ⟨gb, 1, none⟩ = some (.string (⟨#[]⟩ : ByteArray)) := (kc_ BK.out 1).trans rfl; have hcz2 : w2.cell? ⟨gb, 2, none⟩ = some (.int .i64 0) := (kc_ BK.out 2).trans rfl; have hfz0 := kf_ BK.out 0; have hfz1 := kf_ BK.out 1; have hfz2 := kf_ BK.out 2) | (go_at_call 28; refine (sb_byte w1.heap.size w1.heap.size (Lib.byteCells acc) 32 _ ?hI ?hl ?hs).mono ?_; (case hI => exact sb_below HI.out (by refine bs_ ?_ (Nat.le_of_eq GB.out.symm); refine bs_ ?_ (Nat.le_of_eq GB.out.symm); refine bs_ ?_ (Nat.le_of_eq GB.out.symm); exact BB.out)); (case hl => rw [Lib.byteCells_length]; have := HC2.out; omega); (case hs => exact Nat.le_trans (Nat.le_of_lt HS.out) (bz_ (by refine bs_ ?_ (Nat.le_of_eq GB.out.symm); refine bs_ ?_ (Nat.le_of_eq GB.out.symm); refine bs_ ?_ (Nat.le_of_eq GB.out.symm); exact BB.out))); rintro e w3 ⟨rfl, hA, hb3, hk3⟩; have BK3 := sd_ (hk3 gb (.cells #[.int .i64 (rd_T34 l0 j).f0, .string (rd_T34 l0 j).f1, .int .i64 (rd_T34 l0 j).f2] 34 (0, 0)) (by refine blk_put (cs := #[.int .i64 (rd_T34 l0 j).f0, .string (rd_T34 l0 j).f1, .int .i64 0]) ?_ 2 _ rfl; refine blk_put (cs := #[.int .i64 (rd_T34 l0 j).f0, .string (⟨#[]⟩ : ByteArray), .int .i64 0]) ?_ 1 _ rfl; refine blk_put (cs := #[.int .i64 0, .string (⟨#[]⟩ : ByteArray), .int .i64 0]) ?_ 0 _ rfl; exact BK.out) (by have := GB.out; have := HS.out; intro q; have := Option.some.inj q; omega) (by intro c fz q; have := (Obj.cells.inj q).2.1; exact absurd this (by decide))); have HI3 : Aside0 (Lib.IsBuilderF 49 5 w1.heap.size w1.heap.size (Lib.byteCells (acc ++ [32])) w3) := ⟨by rw [Lib.byteCells_append]; exact Or.inr hA⟩; have HB3 : Aside0 (Below w.heap.size w w3) := ⟨below_weaken (bt_ HB.out (by refine bs_ ?_ (Nat.le_of_eq GB.out.symm); refine bs_ ?_ (Nat.le_of_eq GB.out.symm); refine bs_ ?_ (Nat.le_of_eq GB.out.symm); exact BB.out)) HG.out hb3⟩; have HS3 : Aside0 (w1.heap.size < w3.heap.size) := ⟨nl_ (nl_ HS.out (bz_ (by refine bs_ ?_ (Nat.le_of_eq GB.out.symm); refine bs_ ?_ (Nat.le_of_eq GB.out.symm); refine bs_ ?_ (Nat.le_of_eq GB.out.symm); exact BB.out))) hb3.size⟩; clear hA hb3 hk3 hcz0 hcz1 hcz2 hfz0 hfz1 hfz2; have hcz0 := (kc_ BK3.out 0).trans rfl; have hcz1 := (kc_ BK3.out 1).trans rfl; have hcz2 := (kc_ BK3.out 2).trans rfl) | (go_at_call 26; refine (token_raw.calls (rd_T34 l0 j).f0 (rd_T34 l0 j).f1 (rd_T34 l0 j).f2 s _ HR.out).mono ?_; rintro e w4 ⟨rfl, hd⟩; have HD := sd_ hd; clear hd) | (go_at_call 29; refine (sb_string w1.heap.size w1.heap.size (Lib.byteCells (acc ++ [32])) s _ ?hI ?hl ?hs).mono ?_; (case hI => exact sb_below HI3.out HD.out); (case hl => rw [Lib.byteCells_length]; rw [List.length_append, List.length_singleton]; have := HC2.out; omega); (case hs => exact Nat.le_trans (Nat.le_of_lt HS3.out) (bz_ HD.out)); rintro e w5 ⟨rfl, hA, hb5, hk5⟩; have HI5 : Aside0 (Lib.IsBuilderF 49 5 w1.heap.size w1.heap.size (Lib.byteCells ((acc ++ [32]) ++ s.data.toList)) w5) := ⟨by rw [Lib.byteCells_append, ← Lib.strCells_eq]; exact Or.inr hA⟩; have HB5 : Aside0 (Below w.heap.size w w5) := ⟨below_weaken (bt_ HB3.out HD.out) HG.out hb5⟩; have HS5 : Aside0 (w1.heap.size < w5.heap.size) := ⟨nl_ (nl_ HS3.out (bz_ HD.out)) hb5.size⟩; clear hA hb5 hk5))
     refine ⟨⟨j + 1, acc ++ [32] ++ s.data.toList, by go_num, by omega, ⟨by rw [dt_ (Nat.succ_pos j)]; exact HJ3.out⟩, HI5, HB5, HS5⟩, ?_⟩
     simp [intOf]; omega
    ·obtain rfl : j = 0 := by omega
     rw [df_ c0, if_neg (by simp)] at HJ2
     have HJ3 := sd_ HJ2
     clear HJ2
     simp only [Nat.zero_mul, Addr.add_zero'] at hx0 hx1 hx2
     go_wp2_with (first | ((with_reducible refine gate_dst (N := 5) rfl ?_); (try (refine gate_guard (by rfl) ?_; dsimp only)); refine box_event ?hg (N := 5) ?hd (cs := #[.int .i64 0, .string (⟨#[]⟩ : ByteArray), .int .i64 0]) (t := 34) ?hr ?_; (case hd => rfl); (case hg => rfl); (case hr => first | (go_simp; done) | (go_simp; rfl)); intro gb hg w2 hbox hb; have BK := sd_ hbox; have GB := sd_ hg; have BB := sd_ hb; clear hb hbox hg; have hcz0 : w2.cell? ⟨gb, 0, none⟩ = some (.int .i64 0) := (kc_ BK.out 0).trans rfl; have hcz1 : w2.cell? ⟨gb, 1, none⟩ = some (.string (⟨#[]⟩ : ByteArray)) := (kc_ BK.out 1).trans rfl; have hcz2 : w2.cell? ⟨gb, 2, none⟩ = some (.int .i64 0) := (kc_ BK.out 2).trans rfl; have hfz0 := kf_ BK.out 0; have hfz1 := kf_ BK.out 1; have hfz2 := kf_ BK.out 2) | (go_at_call 26; refine (token_raw.calls (rd_T34 l0 0).f0 (rd_T34 l0 0).f1 (rd_T34 l0 0).f2 s _ HR.out).mono ?_; rintro e w4 ⟨rfl, hd⟩; have HD := sd_ hd; clear hd) | (go_at_call 29; refine (sb_string w1.heap.size w1.heap.size (Lib.byteCells acc) s _ ?hI ?hl ?hs).mono ?_; (case hI => exact sb_below HI.out (bt_ (by refine bs_ ?_ (Nat.le_of_eq GB.out.symm); refine bs_ ?_ (Nat.le_of_eq GB.out.symm); refine bs_ ?_ (Nat.le_of_eq GB.out.symm); exact BB.out) HD.out)); (case hl => rw [Lib.byteCells_length]; have := HC2.out; omega); (case hs => exact Nat.le_trans (Nat.le_of_lt HS.out) (bz_ (bt_ (by refine bs_ ?_ (Nat.le_of_eq GB.out.symm); refine bs_ ?_ (Nat.le_of_eq GB.out.symm); refine bs_ ?_ (Nat.le_of_eq GB.out.symm); exact BB.out) HD.out))); rintro e w5 ⟨rfl, hA, hb5, hk5⟩; have HI5 : Aside0 (Lib.IsBuilderF 49 5 w1.heap.size w1.heap.size (Lib.byteCells (acc ++ s.data.toList)) w5) := ⟨by rw [Lib.byteCells_append, ← Lib.strCells_eq]; exact Or.inr hA⟩; have HB5 : Aside0 (Below w.heap.size w w5) := ⟨below_weaken (bt_ HB.out (bt_ (by refine bs_ ?_ (Nat.le_of_eq GB.out.symm); refine bs_ ?_ (Nat.le_of_eq GB.out.symm); refine bs_ ?_ (Nat.le_of_eq GB.out.symm); exact BB.out) HD.out)) HG.out hb5⟩; have HS5 : Aside0 (w1.heap.size < w5.heap.size) := ⟨nl_ (nl_ HS.out (bz_ (bt_ (by refine bs_ ?_ (Nat.le_of_eq GB.out.symm); refine bs_ ?_ (Nat.le_of_eq GB.out.symm); refine bs_ ?_ (Nat.le_of_eq GB.out.symm); exact BB.out) HD.out))) hb5.size⟩; clear hA hb5 hk5))
     refine ⟨⟨1, acc ++ s.data.toList, by go_num, by omega, ⟨HJ3.out⟩, HI5, HB5, HS5⟩, ?_⟩
     simp [intOf]; omega
   ·obtain rfl : j = l0.length - 1 := by omega
    have HJ2 := HJ.out
    rw [List.drop_eq_nil_of_le (by rw [lt_]; omega)] at HJ2
    simp only [joinGo] at HJ2
    obtain rfl := Option.some.inj HJ2
    clear HJ2
    go_wp2_with (first | (go_at_call 30; refine (Tryd.Builder_String_any_f w1.heap.size w1.heap.size acc _ HI.out (Nat.le_of_lt HS.out)).mono ?_; rintro e w6 ⟨rfl, -, hb6⟩; have HB6 := sd_ (below_weaken HB.out HG.out hb6); clear hb6))
    go_ret
    exact ⟨rfl, HB6.out⟩

end Go.Proofs.YtmffjjncnbeldaaDoor.P
