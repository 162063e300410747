-- Written by a program of this session (wip/tools/xprint.py, over the kit's print): Lean checks it.
import Derived.Test.YtbinlfichkdhlaaDoorPx0
import Derived.Test.YtbinlfichkdhlaaDoorPx2
namespace Go.Proofs.YtbinlfichkdhlaaDoor.P
open Go.RowKit Go.Proofs.YtbinlfichkdhlaaDoorW.PrintWords Go.Proofs.YtbinlfichkdhlaaDoorW.PrintLast Go.Proofs.YtbinlfichkdhlaaDoorW.PrintMore
attribute [local go_sem] max2_int min2_int max_two min_two max_three min_three max_four min_four   -- for this text's walks alone
set_option linter.unusedVariables false
set_option linter.unusedSimpArgs false

/-! ### glyph_full: function 19 -/
/-- All glyphs' boxes, from the first on. -/
def fullT : List (Int × Int × Int × Int) := [(0, (-512), 2048, 512), (0, (-512), 1740, 512), (0, (-512), 1330, 512), (0, (-512), 1330, 512), (0, 0, 620, 1024), (0, (-540), 1540, 0), (0, 0, 1540, 540), (0, (-1400), 1120, 1500), (0, (-1000), 1000, 900), (0, (-2024), 1130, 900), (0, (-3048), 1260, 900), (0, (-4072), 1390, 900), (0, (-3000), 1080, 0), (0, (-3512), 1080, 0), (0, (-4024), 1080, 0), (0, (-4536), 1080, 0), (0, 0, 1180, 3000), (0, 0, 1180, 3512), (0, 0, 1180, 4024), (0, 0, 1180, 4536), (0, (-1430), 1020, 1430), (0, (-720), 920, 1800), (0, (-1400), 700, 1400), (0, (-520), 1030, 520), (0, (-720), 1660, 1800), (0, (-2700), 2750, 4500), (0, (-2600), 2800, 1100), (0, (-2100), 2860, 2100), (0, (-2100), 2860, 2100), (0, (-1024), 1740, 1024), (0, (-1024), 1300, 1024), (0, (-1024), 1740, 1024), (0, (-1024), 1740, 1024), (0, (-1024), 1740, 1024), (0, (-1024), 1740, 1024), (0, (-1024), 1740, 1024), (0, (-1024), 1740, 1024), (0, (-1024), 1740, 1024), (0, (-1024), 1740, 1024), (0, (-200), 400, 200), (0, (-2048), 160, 2048), (0, (-2048), 720, 2048), (0, (-2048), 1000, 2048), (0, (-600), 1500, 1200), (0, 0, 1900, 1100), (0, (-700), 1400, 1800), ((-1000), (-2048), 0, 2048)]
def glyph_full.f (a0 : Int) : Option (Int × Int × Int × Int) := if 1 ≤ a0 ∧ a0 ≤ 47 then fullT[(a0 - 1).toNat]? else none
set_option maxHeartbeats 16000000 in
set_option maxRecDepth 100000 in
theorem glyph_full.row0 (a0 : Int) (r1 r2 r3 r4 : Int) (w : World) (hr : 1 ≤ a0 ∧ a0 ≤ 4) (h : glyph_full.f a0 = some (r1, r2, r3, r4)) :
  Calls Tryd.prog 19 #[.int .i64 a0] w fun e w' => e = .returned (.agg #[.int .i64 r1, .int .i64 r2, .int .i64 r3, .int .i64 r4]) ∧ Below w.heap.size w w' := by
 have hu := Tryd.underlying30
 have HB := sd_ (Below.refl w.heap.size w)
 by_cases c1 : a0 = 1
 ·subst c1
  obtain ⟨rfl, rfl, rfl, rfl⟩ : 0 = r1 ∧ (-512) = r2 ∧ 2048 = r3 ∧ 512 = r4 := by simpa [glyph_full.f, fullT] using h
  clear h hr
  have hix : ∀ W, (Instr.index 58 (.agg #[.int .i64 2048, .int .i64 1740, .int .i64 1330, .int .i64 1330]) (.int .i64 0)).run Tryd.prog W = .ok (.int .i64 2048) W := fun W => by kernel_rfl
  go_enter Tryd.func19, Tryd.ntmps19
  go_wp2_with (first | ((with_reducible refine gate_dst (N := 2) rfl ?_); refine box_event ?hg (N := 2) ?hd (cs := #[.int .i64 0, .int .i64 0, .int .i64 0, .int .i64 0]) (t := 30) ?hr ?_; (case hd => rfl); (case hg => rfl); (case hr => first | (go_simp; done) | (go_simp; rfl)); intro gb hg w4 hbox hb; have BK := sd_ hbox; have GE := gw_ HB e0_ hg; replace HB := hb_ HB e0_ hb; clear hb hbox hg; have z0 := zc_ BK 0 rfl; have z1 := zc_ BK 1 rfl; have z2 := zc_ BK 2 rfl; have z3 := zc_ BK 3 rfl; have f0 := kf_ BK.out 0; have f1 := kf_ BK.out 1; have f2 := kf_ BK.out 2; have f3 := kf_ BK.out 3) | (go_at_call 14; refine (glyph_rowOf.calls 40 1 0 0 _ (by decide +kernel)).mono ?_; rintro e w5 ⟨rfl, hd⟩; have hb := Drawn0.below hd; clear hd; replace BK := kb_ BK hb; replace HB := hb_ HB (e_ GE e0_) hb; clear hb; have z0 := zc_ BK 0 rfl; have z1 := zc_ BK 1 rfl; have z2 := zc_ BK 2 rfl; have z3 := zc_ BK 3 rfl; have f0 := kf_ BK.out 0; have f1 := kf_ BK.out 1; have f2 := kf_ BK.out 2; have f3 := kf_ BK.out 3) | (go_at_call 26; refine (glyph_from.calls _ _ _ _ _ _ _ _ rfl).mono ?_; rintro e w5 ⟨rfl, hb⟩; replace BK := kb_ BK hb; replace HB := hb_ HB (e_ GE e0_) hb; clear hb; have z0 := zc_ BK 0 rfl; have z1 := zc_ BK 1 rfl; have z2 := zc_ BK 2 rfl; have z3 := zc_ BK 3 rfl; have f0 := kf_ BK.out 0; have f1 := kf_ BK.out 1; have f2 := kf_ BK.out 2; have f3 := kf_ BK.out 3))
  refine bodyPost_ret (results_cell_row rfl _ _ gb 30 #[.int .i64 0, .int .i64 (-512), .int .i64 2048, .int .i64 512] (0, 0) _ rfl (by refine blk_put (cs := #[.int .i64 0, .int .i64 (-512), .int .i64 2048, .int .i64 0]) ?_ 3 _ rfl; refine blk_put (cs := #[.int .i64 0, .int .i64 (-512), .int .i64 0, .int .i64 0]) ?_ 2 _ rfl; refine blk_put (cs := #[.int .i64 0, .int .i64 0, .int .i64 0, .int .i64 0]) ?_ 1 _ rfl; refine blk_put (cs := #[.int .i64 0, .int .i64 0, .int .i64 0, .int .i64 0]) ?_ 0 _ rfl; exact kk_ BK.out) Tryd.underlying30 rfl (by kernel_rfl)) rfl ?_
  exact ⟨rfl, bb_ HB.out (e_ GE e0_)⟩
 by_cases c2 : a0 = 2
 ·subst c2
  obtain ⟨rfl, rfl, rfl, rfl⟩ : 0 = r1 ∧ (-512) = r2 ∧ 1740 = r3 ∧ 512 = r4 := by simpa [glyph_full.f, fullT] using h
  clear h hr
  have hix : ∀ W, (Instr.index 58 (.agg #[.int .i64 2048, .int .i64 1740, .int .i64 1330, .int .i64 1330]) (.int .i64 1)).run Tryd.prog W = .ok (.int .i64 1740) W := fun W => by kernel_rfl
  go_enter Tryd.func19, Tryd.ntmps19
  go_wp2_with (first | ((with_reducible refine gate_dst (N := 2) rfl ?_); refine box_event ?hg (N := 2) ?hd (cs := #[.int .i64 0, .int .i64 0, .int .i64 0, .int .i64 0]) (t := 30) ?hr ?_; (case hd => rfl); (case hg => rfl); (case hr => first | (go_simp; done) | (go_simp; rfl)); intro gb hg w4 hbox hb; have BK := sd_ hbox; have GE := gw_ HB e0_ hg; replace HB := hb_ HB e0_ hb; clear hb hbox hg; have z0 := zc_ BK 0 rfl; have z1 := zc_ BK 1 rfl; have z2 := zc_ BK 2 rfl; have z3 := zc_ BK 3 rfl; have f0 := kf_ BK.out 0; have f1 := kf_ BK.out 1; have f2 := kf_ BK.out 2; have f3 := kf_ BK.out 3) | (go_at_call 14; refine (glyph_rowOf.calls 40 2 0 1 _ (by decide +kernel)).mono ?_; rintro e w5 ⟨rfl, hd⟩; have hb := Drawn0.below hd; clear hd; replace BK := kb_ BK hb; replace HB := hb_ HB (e_ GE e0_) hb; clear hb; have z0 := zc_ BK 0 rfl; have z1 := zc_ BK 1 rfl; have z2 := zc_ BK 2 rfl; have z3 := zc_ BK 3 rfl; have f0 := kf_ BK.out 0; have f1 := kf_ BK.out 1; have f2 := kf_ BK.out 2; have f3 := kf_ BK.out 3) | (go_at_call 26; refine (glyph_from.calls _ _ _ _ _ _ _ _ rfl).mono ?_; rintro e w5 ⟨rfl, hb⟩; replace BK := kb_ BK hb; replace HB := hb_ HB (e_ GE e0_) hb; clear hb; have z0 := zc_ BK 0 rfl; have z1 := zc_ BK 1 rfl; have z2 := zc_ BK 2 rfl; have z3 := zc_ BK 3 rfl; have f0 := kf_ BK.out 0; have f1 := kf_ BK.out 1; have f2 := kf_ BK.out 2; have f3 := kf_ BK.out 3))
  refine bodyPost_ret (results_cell_row rfl _ _ gb 30 #[.int .i64 0, .int .i64 (-512), .int .i64 1740, .int .i64 512] (0, 0) _ rfl (by refine blk_put (cs := #[.int .i64 0, .int .i64 (-512), .int .i64 1740, .int .i64 0]) ?_ 3 _ rfl; refine blk_put (cs := #[.int .i64 0, .int .i64 (-512), .int .i64 0, .int .i64 0]) ?_ 2 _ rfl; refine blk_put (cs := #[.int .i64 0, .int .i64 0, .int .i64 0, .int .i64 0]) ?_ 1 _ rfl; refine blk_put (cs := #[.int .i64 0, .int .i64 0, .int .i64 0, .int .i64 0]) ?_ 0 _ rfl; exact kk_ BK.out) Tryd.underlying30 rfl (by kernel_rfl)) rfl ?_
  exact ⟨rfl, bb_ HB.out (e_ GE e0_)⟩
 by_cases c3 : a0 = 3
 ·subst c3
  obtain ⟨rfl, rfl, rfl, rfl⟩ : 0 = r1 ∧ (-512) = r2 ∧ 1330 = r3 ∧ 512 = r4 := by simpa [glyph_full.f, fullT] using h
  clear h hr
  have hix : ∀ W, (Instr.index 58 (.agg #[.int .i64 2048, .int .i64 1740, .int .i64 1330, .int .i64 1330]) (.int .i64 2)).run Tryd.prog W = .ok (.int .i64 1330) W := fun W => by kernel_rfl
  go_enter Tryd.func19, Tryd.ntmps19
  go_wp2_with (first | ((with_reducible refine gate_dst (N := 2) rfl ?_); refine box_event ?hg (N := 2) ?hd (cs := #[.int .i64 0, .int .i64 0, .int .i64 0, .int .i64 0]) (t := 30) ?hr ?_; (case hd => rfl); (case hg => rfl); (case hr => first | (go_simp; done) | (go_simp; rfl)); intro gb hg w4 hbox hb; have BK := sd_ hbox; have GE := gw_ HB e0_ hg; replace HB := hb_ HB e0_ hb; clear hb hbox hg; have z0 := zc_ BK 0 rfl; have z1 := zc_ BK 1 rfl; have z2 := zc_ BK 2 rfl; have z3 := zc_ BK 3 rfl; have f0 := kf_ BK.out 0; have f1 := kf_ BK.out 1; have f2 := kf_ BK.out 2; have f3 := kf_ BK.out 3) | (go_at_call 14; refine (glyph_rowOf.calls 40 3 0 2 _ (by decide +kernel)).mono ?_; rintro e w5 ⟨rfl, hd⟩; have hb := Drawn0.below hd; clear hd; replace BK := kb_ BK hb; replace HB := hb_ HB (e_ GE e0_) hb; clear hb; have z0 := zc_ BK 0 rfl; have z1 := zc_ BK 1 rfl; have z2 := zc_ BK 2 rfl; have z3 := zc_ BK 3 rfl; have f0 := kf_ BK.out 0; have f1 := kf_ BK.out 1; have f2 := kf_ BK.out 2; have f3 := kf_ BK.out 3) | (go_at_call 26; refine (glyph_from.calls _ _ _ _ _ _ _ _ rfl).mono ?_; rintro e w5 ⟨rfl, hb⟩; replace BK := kb_ BK hb; replace HB := hb_ HB (e_ GE e0_) hb; clear hb; have z0 := zc_ BK 0 rfl; have z1 := zc_ BK 1 rfl; have z2 := zc_ BK 2 rfl; have z3 := zc_ BK 3 rfl; have f0 := kf_ BK.out 0; have f1 := kf_ BK.out 1; have f2 := kf_ BK.out 2; have f3 := kf_ BK.out 3))
  refine bodyPost_ret (results_cell_row rfl _ _ gb 30 #[.int .i64 0, .int .i64 (-512), .int .i64 1330, .int .i64 512] (0, 0) _ rfl (by refine blk_put (cs := #[.int .i64 0, .int .i64 (-512), .int .i64 1330, .int .i64 0]) ?_ 3 _ rfl; refine blk_put (cs := #[.int .i64 0, .int .i64 (-512), .int .i64 0, .int .i64 0]) ?_ 2 _ rfl; refine blk_put (cs := #[.int .i64 0, .int .i64 0, .int .i64 0, .int .i64 0]) ?_ 1 _ rfl; refine blk_put (cs := #[.int .i64 0, .int .i64 0, .int .i64 0, .int .i64 0]) ?_ 0 _ rfl; exact kk_ BK.out) Tryd.underlying30 rfl (by kernel_rfl)) rfl ?_
  exact ⟨rfl, bb_ HB.out (e_ GE e0_)⟩
 by_cases c4 : a0 = 4
 ·subst c4
  obtain ⟨rfl, rfl, rfl, rfl⟩ : 0 = r1 ∧ (-512) = r2 ∧ 1330 = r3 ∧ 512 = r4 := by simpa [glyph_full.f, fullT] using h
  clear h hr
  have hix : ∀ W, (Instr.index 58 (.agg #[.int .i64 2048, .int .i64 1740, .int .i64 1330, .int .i64 1330]) (.int .i64 3)).run Tryd.prog W = .ok (.int .i64 1330) W := fun W => by kernel_rfl
  go_enter Tryd.func19, Tryd.ntmps19
  go_wp2_with (first | ((with_reducible refine gate_dst (N := 2) rfl ?_); refine box_event ?hg (N := 2) ?hd (cs := #[.int .i64 0, .int .i64 0, .int .i64 0, .int .i64 0]) (t := 30) ?hr ?_; (case hd => rfl); (case hg => rfl); (case hr => first | (go_simp; done) | (go_simp; rfl)); intro gb hg w4 hbox hb; have BK := sd_ hbox; have GE := gw_ HB e0_ hg; replace HB := hb_ HB e0_ hb; clear hb hbox hg; have z0 := zc_ BK 0 rfl; have z1 := zc_ BK 1 rfl; have z2 := zc_ BK 2 rfl; have z3 := zc_ BK 3 rfl; have f0 := kf_ BK.out 0; have f1 := kf_ BK.out 1; have f2 := kf_ BK.out 2; have f3 := kf_ BK.out 3) | (go_at_call 14; refine (glyph_rowOf.calls 40 4 0 3 _ (by decide +kernel)).mono ?_; rintro e w5 ⟨rfl, hd⟩; have hb := Drawn0.below hd; clear hd; replace BK := kb_ BK hb; replace HB := hb_ HB (e_ GE e0_) hb; clear hb; have z0 := zc_ BK 0 rfl; have z1 := zc_ BK 1 rfl; have z2 := zc_ BK 2 rfl; have z3 := zc_ BK 3 rfl; have f0 := kf_ BK.out 0; have f1 := kf_ BK.out 1; have f2 := kf_ BK.out 2; have f3 := kf_ BK.out 3) | (go_at_call 26; refine (glyph_from.calls _ _ _ _ _ _ _ _ rfl).mono ?_; rintro e w5 ⟨rfl, hb⟩; replace BK := kb_ BK hb; replace HB := hb_ HB (e_ GE e0_) hb; clear hb; have z0 := zc_ BK 0 rfl; have z1 := zc_ BK 1 rfl; have z2 := zc_ BK 2 rfl; have z3 := zc_ BK 3 rfl; have f0 := kf_ BK.out 0; have f1 := kf_ BK.out 1; have f2 := kf_ BK.out 2; have f3 := kf_ BK.out 3))
  refine bodyPost_ret (results_cell_row rfl _ _ gb 30 #[.int .i64 0, .int .i64 (-512), .int .i64 1330, .int .i64 512] (0, 0) _ rfl (by refine blk_put (cs := #[.int .i64 0, .int .i64 (-512), .int .i64 1330, .int .i64 0]) ?_ 3 _ rfl; refine blk_put (cs := #[.int .i64 0, .int .i64 (-512), .int .i64 0, .int .i64 0]) ?_ 2 _ rfl; refine blk_put (cs := #[.int .i64 0, .int .i64 0, .int .i64 0, .int .i64 0]) ?_ 1 _ rfl; refine blk_put (cs := #[.int .i64 0, .int .i64 0, .int .i64 0, .int .i64 0]) ?_ 0 _ rfl; exact kk_ BK.out) Tryd.underlying30 rfl (by kernel_rfl)) rfl ?_
  exact ⟨rfl, bb_ HB.out (e_ GE e0_)⟩
 exact absurd hr (by omega)
set_option maxHeartbeats 16000000 in
set_option maxRecDepth 100000 in
theorem glyph_full.row1 (a0 : Int) (r1 r2 r3 r4 : Int) (w : World) (hr : 5 ≤ a0 ∧ a0 ≤ 12) (h : glyph_full.f a0 = some (r1, r2, r3, r4)) :
  Calls Tryd.prog 19 #[.int .i64 a0] w fun e w' => e = .returned (.agg #[.int .i64 r1, .int .i64 r2, .int .i64 r3, .int .i64 r4]) ∧ Below w.heap.size w w' := by
 have hu := Tryd.underlying30
 have HB := sd_ (Below.refl w.heap.size w)
 by_cases c5 : a0 = 5
 ·subst c5
  obtain ⟨rfl, rfl, rfl, rfl⟩ : 0 = r1 ∧ 0 = r2 ∧ 620 = r3 ∧ 1024 = r4 := by simpa [glyph_full.f, fullT] using h
  clear h hr
  go_enter Tryd.func19, Tryd.ntmps19
  go_wp2_with (first | ((with_reducible refine gate_dst (N := 2) rfl ?_); refine box_event ?hg (N := 2) ?hd (cs := #[.int .i64 0, .int .i64 0, .int .i64 0, .int .i64 0]) (t := 30) ?hr ?_; (case hd => rfl); (case hg => rfl); (case hr => first | (go_simp; done) | (go_simp; rfl)); intro gb hg w4 hbox hb; have BK := sd_ hbox; have GE := gw_ HB e0_ hg; replace HB := hb_ HB e0_ hb; clear hb hbox hg; have z0 := zc_ BK 0 rfl; have z1 := zc_ BK 1 rfl; have z2 := zc_ BK 2 rfl; have z3 := zc_ BK 3 rfl; have f0 := kf_ BK.out 0; have f1 := kf_ BK.out 1; have f2 := kf_ BK.out 2; have f3 := kf_ BK.out 3) | (go_at_call 14; refine (glyph_rowOf.calls 40 5 1 0 _ (by decide +kernel)).mono ?_; rintro e w5 ⟨rfl, hd⟩; have hb := Drawn0.below hd; clear hd; replace BK := kb_ BK hb; replace HB := hb_ HB (e_ GE e0_) hb; clear hb; have z0 := zc_ BK 0 rfl; have z1 := zc_ BK 1 rfl; have z2 := zc_ BK 2 rfl; have z3 := zc_ BK 3 rfl; have f0 := kf_ BK.out 0; have f1 := kf_ BK.out 1; have f2 := kf_ BK.out 2; have f3 := kf_ BK.out 3) | (go_at_call 26; refine (glyph_from.calls _ _ _ _ _ _ _ _ rfl).mono ?_; rintro e w5 ⟨rfl, hb⟩; replace BK := kb_ BK hb; replace HB := hb_ HB (e_ GE e0_) hb; clear hb; have z0 := zc_ BK 0 rfl; have z1 := zc_ BK 1 rfl; have z2 := zc_ BK 2 rfl; have z3 := zc_ BK 3 rfl; have f0 := kf_ BK.out 0; have f1 := kf_ BK.out 1; have f2 := kf_ BK.out 2; have f3 := kf_ BK.out 3) | (go_at_call 27; refine (glyph_rest.calls 0 0 0 620 1024 _ (by decide +kernel)).mono ?_; rintro e w5 ⟨rfl, hb⟩; replace BK := kb_ BK hb; replace HB := hb_ HB (e_ GE e0_) hb; clear hb; have z0 := zc_ BK 0 rfl; have z1 := zc_ BK 1 rfl; have z2 := zc_ BK 2 rfl; have z3 := zc_ BK 3 rfl; have f0 := kf_ BK.out 0; have f1 := kf_ BK.out 1; have f2 := kf_ BK.out 2; have f3 := kf_ BK.out 3))
  refine bodyPost_ret (results_cell_row rfl _ _ gb 30 #[.int .i64 0, .int .i64 0, .int .i64 620, .int .i64 1024] (0, 0) _ rfl (by refine blk_put (cs := #[.int .i64 0, .int .i64 0, .int .i64 620, .int .i64 0]) ?_ 3 _ rfl; refine blk_put (cs := #[.int .i64 0, .int .i64 0, .int .i64 0, .int .i64 0]) ?_ 2 _ rfl; refine blk_put (cs := #[.int .i64 0, .int .i64 0, .int .i64 0, .int .i64 0]) ?_ 1 _ rfl; refine blk_put (cs := #[.int .i64 0, .int .i64 0, .int .i64 0, .int .i64 0]) ?_ 0 _ rfl; exact kk_ BK.out) Tryd.underlying30 rfl (by kernel_rfl)) rfl ?_
  exact ⟨rfl, bb_ HB.out (e_ GE e0_)⟩
 by_cases c6 : a0 = 6
 ·subst c6
  obtain ⟨rfl, rfl, rfl, rfl⟩ : 0 = r1 ∧ (-540) = r2 ∧ 1540 = r3 ∧ 0 = r4 := by simpa [glyph_full.f, fullT] using h
  clear h hr
  go_enter Tryd.func19, Tryd.ntmps19
  go_wp2_with (first | ((with_reducible refine gate_dst (N := 2) rfl ?_); refine box_event ?hg (N := 2) ?hd (cs := #[.int .i64 0, .int .i64 0, .int .i64 0, .int .i64 0]) (t := 30) ?hr ?_; (case hd => rfl); (case hg => rfl); (case hr => first | (go_simp; done) | (go_simp; rfl)); intro gb hg w4 hbox hb; have BK := sd_ hbox; have GE := gw_ HB e0_ hg; replace HB := hb_ HB e0_ hb; clear hb hbox hg; have z0 := zc_ BK 0 rfl; have z1 := zc_ BK 1 rfl; have z2 := zc_ BK 2 rfl; have z3 := zc_ BK 3 rfl; have f0 := kf_ BK.out 0; have f1 := kf_ BK.out 1; have f2 := kf_ BK.out 2; have f3 := kf_ BK.out 3) | (go_at_call 14; refine (glyph_rowOf.calls 40 6 1 1 _ (by decide +kernel)).mono ?_; rintro e w5 ⟨rfl, hd⟩; have hb := Drawn0.below hd; clear hd; replace BK := kb_ BK hb; replace HB := hb_ HB (e_ GE e0_) hb; clear hb; have z0 := zc_ BK 0 rfl; have z1 := zc_ BK 1 rfl; have z2 := zc_ BK 2 rfl; have z3 := zc_ BK 3 rfl; have f0 := kf_ BK.out 0; have f1 := kf_ BK.out 1; have f2 := kf_ BK.out 2; have f3 := kf_ BK.out 3) | (go_at_call 26; refine (glyph_from.calls _ _ _ _ _ _ _ _ rfl).mono ?_; rintro e w5 ⟨rfl, hb⟩; replace BK := kb_ BK hb; replace HB := hb_ HB (e_ GE e0_) hb; clear hb; have z0 := zc_ BK 0 rfl; have z1 := zc_ BK 1 rfl; have z2 := zc_ BK 2 rfl; have z3 := zc_ BK 3 rfl; have f0 := kf_ BK.out 0; have f1 := kf_ BK.out 1; have f2 := kf_ BK.out 2; have f3 := kf_ BK.out 3) | (go_at_call 27; refine (glyph_rest.calls 1 0 (-540) 1540 0 _ (by decide +kernel)).mono ?_; rintro e w5 ⟨rfl, hb⟩; replace BK := kb_ BK hb; replace HB := hb_ HB (e_ GE e0_) hb; clear hb; have z0 := zc_ BK 0 rfl; have z1 := zc_ BK 1 rfl; have z2 := zc_ BK 2 rfl; have z3 := zc_ BK 3 rfl; have f0 := kf_ BK.out 0; have f1 := kf_ BK.out 1; have f2 := kf_ BK.out 2; have f3 := kf_ BK.out 3))
  refine bodyPost_ret (results_cell_row rfl _ _ gb 30 #[.int .i64 0, .int .i64 (-540), .int .i64 1540, .int .i64 0] (0, 0) _ rfl (by refine blk_put (cs := #[.int .i64 0, .int .i64 (-540), .int .i64 1540, .int .i64 0]) ?_ 3 _ rfl; refine blk_put (cs := #[.int .i64 0, .int .i64 (-540), .int .i64 0, .int .i64 0]) ?_ 2 _ rfl; refine blk_put (cs := #[.int .i64 0, .int .i64 0, .int .i64 0, .int .i64 0]) ?_ 1 _ rfl; refine blk_put (cs := #[.int .i64 0, .int .i64 0, .int .i64 0, .int .i64 0]) ?_ 0 _ rfl; exact kk_ BK.out) Tryd.underlying30 rfl (by kernel_rfl)) rfl ?_
  exact ⟨rfl, bb_ HB.out (e_ GE e0_)⟩
 by_cases c7 : a0 = 7
 ·subst c7
  obtain ⟨rfl, rfl, rfl, rfl⟩ : 0 = r1 ∧ 0 = r2 ∧ 1540 = r3 ∧ 540 = r4 := by simpa [glyph_full.f, fullT] using h
  clear h hr
  go_enter Tryd.func19, Tryd.ntmps19
  go_wp2_with (first | ((with_reducible refine gate_dst (N := 2) rfl ?_); refine box_event ?hg (N := 2) ?hd (cs := #[.int .i64 0, .int .i64 0, .int .i64 0, .int .i64 0]) (t := 30) ?hr ?_; (case hd => rfl); (case hg => rfl); (case hr => first | (go_simp; done) | (go_simp; rfl)); intro gb hg w4 hbox hb; have BK := sd_ hbox; have GE := gw_ HB e0_ hg; replace HB := hb_ HB e0_ hb; clear hb hbox hg; have z0 := zc_ BK 0 rfl; have z1 := zc_ BK 1 rfl; have z2 := zc_ BK 2 rfl; have z3 := zc_ BK 3 rfl; have f0 := kf_ BK.out 0; have f1 := kf_ BK.out 1; have f2 := kf_ BK.out 2; have f3 := kf_ BK.out 3) | (go_at_call 14; refine (glyph_rowOf.calls 40 7 1 2 _ (by decide +kernel)).mono ?_; rintro e w5 ⟨rfl, hd⟩; have hb := Drawn0.below hd; clear hd; replace BK := kb_ BK hb; replace HB := hb_ HB (e_ GE e0_) hb; clear hb; have z0 := zc_ BK 0 rfl; have z1 := zc_ BK 1 rfl; have z2 := zc_ BK 2 rfl; have z3 := zc_ BK 3 rfl; have f0 := kf_ BK.out 0; have f1 := kf_ BK.out 1; have f2 := kf_ BK.out 2; have f3 := kf_ BK.out 3) | (go_at_call 26; refine (glyph_from.calls _ _ _ _ _ _ _ _ rfl).mono ?_; rintro e w5 ⟨rfl, hb⟩; replace BK := kb_ BK hb; replace HB := hb_ HB (e_ GE e0_) hb; clear hb; have z0 := zc_ BK 0 rfl; have z1 := zc_ BK 1 rfl; have z2 := zc_ BK 2 rfl; have z3 := zc_ BK 3 rfl; have f0 := kf_ BK.out 0; have f1 := kf_ BK.out 1; have f2 := kf_ BK.out 2; have f3 := kf_ BK.out 3) | (go_at_call 27; refine (glyph_rest.calls 2 0 0 1540 540 _ (by decide +kernel)).mono ?_; rintro e w5 ⟨rfl, hb⟩; replace BK := kb_ BK hb; replace HB := hb_ HB (e_ GE e0_) hb; clear hb; have z0 := zc_ BK 0 rfl; have z1 := zc_ BK 1 rfl; have z2 := zc_ BK 2 rfl; have z3 := zc_ BK 3 rfl; have f0 := kf_ BK.out 0; have f1 := kf_ BK.out 1; have f2 := kf_ BK.out 2; have f3 := kf_ BK.out 3))
  refine bodyPost_ret (results_cell_row rfl _ _ gb 30 #[.int .i64 0, .int .i64 0, .int .i64 1540, .int .i64 540] (0, 0) _ rfl (by refine blk_put (cs := #[.int .i64 0, .int .i64 0, .int .i64 1540, .int .i64 0]) ?_ 3 _ rfl; refine blk_put (cs := #[.int .i64 0, .int .i64 0, .int .i64 0, .int .i64 0]) ?_ 2 _ rfl; refine blk_put (cs := #[.int .i64 0, .int .i64 0, .int .i64 0, .int .i64 0]) ?_ 1 _ rfl; refine blk_put (cs := #[.int .i64 0, .int .i64 0, .int .i64 0, .int .i64 0]) ?_ 0 _ rfl; exact kk_ BK.out) Tryd.underlying30 rfl (by kernel_rfl)) rfl ?_
  exact ⟨rfl, bb_ HB.out (e_ GE e0_)⟩
 by_cases c8 : a0 = 8
 ·subst c8
  obtain ⟨rfl, rfl, rfl, rfl⟩ : 0 = r1 ∧ (-1400) = r2 ∧ 1120 = r3 ∧ 1500 = r4 := by simpa [glyph_full.f, fullT] using h
  clear h hr
  go_enter Tryd.func19, Tryd.ntmps19
  go_wp2_with (first | ((with_reducible refine gate_dst (N := 2) rfl ?_); refine box_event ?hg (N := 2) ?hd (cs := #[.int .i64 0, .int .i64 0, .int .i64 0, .int .i64 0]) (t := 30) ?hr ?_; (case hd => rfl); (case hg => rfl); (case hr => first | (go_simp; done) | (go_simp; rfl)); intro gb hg w4 hbox hb; have BK := sd_ hbox; have GE := gw_ HB e0_ hg; replace HB := hb_ HB e0_ hb; clear hb hbox hg; have z0 := zc_ BK 0 rfl; have z1 := zc_ BK 1 rfl; have z2 := zc_ BK 2 rfl; have z3 := zc_ BK 3 rfl; have f0 := kf_ BK.out 0; have f1 := kf_ BK.out 1; have f2 := kf_ BK.out 2; have f3 := kf_ BK.out 3) | (go_at_call 14; refine (glyph_rowOf.calls 40 8 1 3 _ (by decide +kernel)).mono ?_; rintro e w5 ⟨rfl, hd⟩; have hb := Drawn0.below hd; clear hd; replace BK := kb_ BK hb; replace HB := hb_ HB (e_ GE e0_) hb; clear hb; have z0 := zc_ BK 0 rfl; have z1 := zc_ BK 1 rfl; have z2 := zc_ BK 2 rfl; have z3 := zc_ BK 3 rfl; have f0 := kf_ BK.out 0; have f1 := kf_ BK.out 1; have f2 := kf_ BK.out 2; have f3 := kf_ BK.out 3) | (go_at_call 26; refine (glyph_from.calls _ _ _ _ _ _ _ _ rfl).mono ?_; rintro e w5 ⟨rfl, hb⟩; replace BK := kb_ BK hb; replace HB := hb_ HB (e_ GE e0_) hb; clear hb; have z0 := zc_ BK 0 rfl; have z1 := zc_ BK 1 rfl; have z2 := zc_ BK 2 rfl; have z3 := zc_ BK 3 rfl; have f0 := kf_ BK.out 0; have f1 := kf_ BK.out 1; have f2 := kf_ BK.out 2; have f3 := kf_ BK.out 3) | (go_at_call 27; refine (glyph_rest.calls 3 0 (-1400) 1120 1500 _ (by decide +kernel)).mono ?_; rintro e w5 ⟨rfl, hb⟩; replace BK := kb_ BK hb; replace HB := hb_ HB (e_ GE e0_) hb; clear hb; have z0 := zc_ BK 0 rfl; have z1 := zc_ BK 1 rfl; have z2 := zc_ BK 2 rfl; have z3 := zc_ BK 3 rfl; have f0 := kf_ BK.out 0; have f1 := kf_ BK.out 1; have f2 := kf_ BK.out 2; have f3 := kf_ BK.out 3))
  refine bodyPost_ret (results_cell_row rfl _ _ gb 30 #[.int .i64 0, .int .i64 (-1400), .int .i64 1120, .int .i64 1500] (0, 0) _ rfl (by refine blk_put (cs := #[.int .i64 0, .int .i64 (-1400), .int .i64 1120, .int .i64 0]) ?_ 3 _ rfl; refine blk_put (cs := #[.int .i64 0, .int .i64 (-1400), .int .i64 0, .int .i64 0]) ?_ 2 _ rfl; refine blk_put (cs := #[.int .i64 0, .int .i64 0, .int .i64 0, .int .i64 0]) ?_ 1 _ rfl; refine blk_put (cs := #[.int .i64 0, .int .i64 0, .int .i64 0, .int .i64 0]) ?_ 0 _ rfl; exact kk_ BK.out) Tryd.underlying30 rfl (by kernel_rfl)) rfl ?_
  exact ⟨rfl, bb_ HB.out (e_ GE e0_)⟩
 by_cases c9 : a0 = 9
 ·subst c9
  obtain ⟨rfl, rfl, rfl, rfl⟩ : 0 = r1 ∧ (-1000) = r2 ∧ 1000 = r3 ∧ 900 = r4 := by simpa [glyph_full.f, fullT] using h
  clear h hr
  go_enter Tryd.func19, Tryd.ntmps19
  go_wp2_with (first | ((with_reducible refine gate_dst (N := 2) rfl ?_); refine box_event ?hg (N := 2) ?hd (cs := #[.int .i64 0, .int .i64 0, .int .i64 0, .int .i64 0]) (t := 30) ?hr ?_; (case hd => rfl); (case hg => rfl); (case hr => first | (go_simp; done) | (go_simp; rfl)); intro gb hg w4 hbox hb; have BK := sd_ hbox; have GE := gw_ HB e0_ hg; replace HB := hb_ HB e0_ hb; clear hb hbox hg; have z0 := zc_ BK 0 rfl; have z1 := zc_ BK 1 rfl; have z2 := zc_ BK 2 rfl; have z3 := zc_ BK 3 rfl; have f0 := kf_ BK.out 0; have f1 := kf_ BK.out 1; have f2 := kf_ BK.out 2; have f3 := kf_ BK.out 3) | (go_at_call 14; refine (glyph_rowOf.calls 40 9 1 4 _ (by decide +kernel)).mono ?_; rintro e w5 ⟨rfl, hd⟩; have hb := Drawn0.below hd; clear hd; replace BK := kb_ BK hb; replace HB := hb_ HB (e_ GE e0_) hb; clear hb; have z0 := zc_ BK 0 rfl; have z1 := zc_ BK 1 rfl; have z2 := zc_ BK 2 rfl; have z3 := zc_ BK 3 rfl; have f0 := kf_ BK.out 0; have f1 := kf_ BK.out 1; have f2 := kf_ BK.out 2; have f3 := kf_ BK.out 3) | (go_at_call 26; refine (glyph_from.calls _ _ _ _ _ _ _ _ rfl).mono ?_; rintro e w5 ⟨rfl, hb⟩; replace BK := kb_ BK hb; replace HB := hb_ HB (e_ GE e0_) hb; clear hb; have z0 := zc_ BK 0 rfl; have z1 := zc_ BK 1 rfl; have z2 := zc_ BK 2 rfl; have z3 := zc_ BK 3 rfl; have f0 := kf_ BK.out 0; have f1 := kf_ BK.out 1; have f2 := kf_ BK.out 2; have f3 := kf_ BK.out 3) | (go_at_call 27; refine (glyph_rest.calls 4 0 (-1000) 1000 900 _ (by decide +kernel)).mono ?_; rintro e w5 ⟨rfl, hb⟩; replace BK := kb_ BK hb; replace HB := hb_ HB (e_ GE e0_) hb; clear hb; have z0 := zc_ BK 0 rfl; have z1 := zc_ BK 1 rfl; have z2 := zc_ BK 2 rfl; have z3 := zc_ BK 3 rfl; have f0 := kf_ BK.out 0; have f1 := kf_ BK.out 1; have f2 := kf_ BK.out 2; have f3 := kf_ BK.out 3))
  refine bodyPost_ret (results_cell_row rfl _ _ gb 30 #[.int .i64 0, .int .i64 (-1000), .int .i64 1000, .int .i64 900] (0, 0) _ rfl (by refine blk_put (cs := #[.int .i64 0, .int .i64 (-1000), .int .i64 1000, .int .i64 0]) ?_ 3 _ rfl; refine blk_put (cs := #[.int .i64 0, .int .i64 (-1000), .int .i64 0, .int .i64 0]) ?_ 2 _ rfl; refine blk_put (cs := #[.int .i64 0, .int .i64 0, .int .i64 0, .int .i64 0]) ?_ 1 _ rfl; refine blk_put (cs := #[.int .i64 0, .int .i64 0, .int .i64 0, .int .i64 0]) ?_ 0 _ rfl; exact kk_ BK.out) Tryd.underlying30 rfl (by kernel_rfl)) rfl ?_
  exact ⟨rfl, bb_ HB.out (e_ GE e0_)⟩
 by_cases c10 : a0 = 10
 ·subst c10
  obtain ⟨rfl, rfl, rfl, rfl⟩ : 0 = r1 ∧ (-2024) = r2 ∧ 1130 = r3 ∧ 900 = r4 := by simpa [glyph_full.f, fullT] using h
  clear h hr
  go_enter Tryd.func19, Tryd.ntmps19
  go_wp2_with (first | ((with_reducible refine gate_dst (N := 2) rfl ?_); refine box_event ?hg (N := 2) ?hd (cs := #[.int .i64 0, .int .i64 0, .int .i64 0, .int .i64 0]) (t := 30) ?hr ?_; (case hd => rfl); (case hg => rfl); (case hr => first | (go_simp; done) | (go_simp; rfl)); intro gb hg w4 hbox hb; have BK := sd_ hbox; have GE := gw_ HB e0_ hg; replace HB := hb_ HB e0_ hb; clear hb hbox hg; have z0 := zc_ BK 0 rfl; have z1 := zc_ BK 1 rfl; have z2 := zc_ BK 2 rfl; have z3 := zc_ BK 3 rfl; have f0 := kf_ BK.out 0; have f1 := kf_ BK.out 1; have f2 := kf_ BK.out 2; have f3 := kf_ BK.out 3) | (go_at_call 14; refine (glyph_rowOf.calls 40 10 1 5 _ (by decide +kernel)).mono ?_; rintro e w5 ⟨rfl, hd⟩; have hb := Drawn0.below hd; clear hd; replace BK := kb_ BK hb; replace HB := hb_ HB (e_ GE e0_) hb; clear hb; have z0 := zc_ BK 0 rfl; have z1 := zc_ BK 1 rfl; have z2 := zc_ BK 2 rfl; have z3 := zc_ BK 3 rfl; have f0 := kf_ BK.out 0; have f1 := kf_ BK.out 1; have f2 := kf_ BK.out 2; have f3 := kf_ BK.out 3) | (go_at_call 26; refine (glyph_from.calls _ _ _ _ _ _ _ _ rfl).mono ?_; rintro e w5 ⟨rfl, hb⟩; replace BK := kb_ BK hb; replace HB := hb_ HB (e_ GE e0_) hb; clear hb; have z0 := zc_ BK 0 rfl; have z1 := zc_ BK 1 rfl; have z2 := zc_ BK 2 rfl; have z3 := zc_ BK 3 rfl; have f0 := kf_ BK.out 0; have f1 := kf_ BK.out 1; have f2 := kf_ BK.out 2; have f3 := kf_ BK.out 3) | (go_at_call 27; refine (glyph_rest.calls 5 0 (-2024) 1130 900 _ (by decide +kernel)).mono ?_; rintro e w5 ⟨rfl, hb⟩; replace BK := kb_ BK hb; replace HB := hb_ HB (e_ GE e0_) hb; clear hb; have z0 := zc_ BK 0 rfl; have z1 := zc_ BK 1 rfl; have z2 := zc_ BK 2 rfl; have z3 := zc_ BK 3 rfl; have f0 := kf_ BK.out 0; have f1 := kf_ BK.out 1; have f2 := kf_ BK.out 2; have f3 := kf_ BK.out 3))
  refine bodyPost_ret (results_cell_row rfl _ _ gb 30 #[.int .i64 0, .int .i64 (-2024), .int .i64 1130, .int .i64 900] (0, 0) _ rfl (by refine blk_put (cs := #[.int .i64 0, .int .i64 (-2024), .int .i64 1130, .int .i64 0]) ?_ 3 _ rfl; refine blk_put (cs := #[.int .i64 0, .int .i64 (-2024), .int .i64 0, .int .i64 0]) ?_ 2 _ rfl; refine blk_put (cs := #[.int .i64 0, .int .i64 0, .int .i64 0, .int .i64 0]) ?_ 1 _ rfl; refine blk_put (cs := #[.int .i64 0, .int .i64 0, .int .i64 0, .int .i64 0]) ?_ 0 _ rfl; exact kk_ BK.out) Tryd.underlying30 rfl (by kernel_rfl)) rfl ?_
  exact ⟨rfl, bb_ HB.out (e_ GE e0_)⟩
 by_cases c11 : a0 = 11
 ·subst c11
  obtain ⟨rfl, rfl, rfl, rfl⟩ : 0 = r1 ∧ (-3048) = r2 ∧ 1260 = r3 ∧ 900 = r4 := by simpa [glyph_full.f, fullT] using h
  clear h hr
  go_enter Tryd.func19, Tryd.ntmps19
  go_wp2_with (first | ((with_reducible refine gate_dst (N := 2) rfl ?_); refine box_event ?hg (N := 2) ?hd (cs := #[.int .i64 0, .int .i64 0, .int .i64 0, .int .i64 0]) (t := 30) ?hr ?_; (case hd => rfl); (case hg => rfl); (case hr => first | (go_simp; done) | (go_simp; rfl)); intro gb hg w4 hbox hb; have BK := sd_ hbox; have GE := gw_ HB e0_ hg; replace HB := hb_ HB e0_ hb; clear hb hbox hg; have z0 := zc_ BK 0 rfl; have z1 := zc_ BK 1 rfl; have z2 := zc_ BK 2 rfl; have z3 := zc_ BK 3 rfl; have f0 := kf_ BK.out 0; have f1 := kf_ BK.out 1; have f2 := kf_ BK.out 2; have f3 := kf_ BK.out 3) | (go_at_call 14; refine (glyph_rowOf.calls 40 11 1 6 _ (by decide +kernel)).mono ?_; rintro e w5 ⟨rfl, hd⟩; have hb := Drawn0.below hd; clear hd; replace BK := kb_ BK hb; replace HB := hb_ HB (e_ GE e0_) hb; clear hb; have z0 := zc_ BK 0 rfl; have z1 := zc_ BK 1 rfl; have z2 := zc_ BK 2 rfl; have z3 := zc_ BK 3 rfl; have f0 := kf_ BK.out 0; have f1 := kf_ BK.out 1; have f2 := kf_ BK.out 2; have f3 := kf_ BK.out 3) | (go_at_call 26; refine (glyph_from.calls _ _ _ _ _ _ _ _ rfl).mono ?_; rintro e w5 ⟨rfl, hb⟩; replace BK := kb_ BK hb; replace HB := hb_ HB (e_ GE e0_) hb; clear hb; have z0 := zc_ BK 0 rfl; have z1 := zc_ BK 1 rfl; have z2 := zc_ BK 2 rfl; have z3 := zc_ BK 3 rfl; have f0 := kf_ BK.out 0; have f1 := kf_ BK.out 1; have f2 := kf_ BK.out 2; have f3 := kf_ BK.out 3) | (go_at_call 27; refine (glyph_rest.calls 6 0 (-3048) 1260 900 _ (by decide +kernel)).mono ?_; rintro e w5 ⟨rfl, hb⟩; replace BK := kb_ BK hb; replace HB := hb_ HB (e_ GE e0_) hb; clear hb; have z0 := zc_ BK 0 rfl; have z1 := zc_ BK 1 rfl; have z2 := zc_ BK 2 rfl; have z3 := zc_ BK 3 rfl; have f0 := kf_ BK.out 0; have f1 := kf_ BK.out 1; have f2 := kf_ BK.out 2; have f3 := kf_ BK.out 3))
  refine bodyPost_ret (results_cell_row rfl _ _ gb 30 #[.int .i64 0, .int .i64 (-3048), .int .i64 1260, .int .i64 900] (0, 0) _ rfl (by refine blk_put (cs := #[.int .i64 0, .int .i64 (-3048), .int .i64 1260, .int .i64 0]) ?_ 3 _ rfl; refine blk_put (cs := #[.int .i64 0, .int .i64 (-3048), .int .i64 0, .int .i64 0]) ?_ 2 _ rfl; refine blk_put (cs := #[.int .i64 0, .int .i64 0, .int .i64 0, .int .i64 0]) ?_ 1 _ rfl; refine blk_put (cs := #[.int .i64 0, .int .i64 0, .int .i64 0, .int .i64 0]) ?_ 0 _ rfl; exact kk_ BK.out) Tryd.underlying30 rfl (by kernel_rfl)) rfl ?_
  exact ⟨rfl, bb_ HB.out (e_ GE e0_)⟩
 by_cases c12 : a0 = 12
 ·subst c12
  obtain ⟨rfl, rfl, rfl, rfl⟩ : 0 = r1 ∧ (-4072) = r2 ∧ 1390 = r3 ∧ 900 = r4 := by simpa [glyph_full.f, fullT] using h
  clear h hr
  go_enter Tryd.func19, Tryd.ntmps19
  go_wp2_with (first | ((with_reducible refine gate_dst (N := 2) rfl ?_); refine box_event ?hg (N := 2) ?hd (cs := #[.int .i64 0, .int .i64 0, .int .i64 0, .int .i64 0]) (t := 30) ?hr ?_; (case hd => rfl); (case hg => rfl); (case hr => first | (go_simp; done) | (go_simp; rfl)); intro gb hg w4 hbox hb; have BK := sd_ hbox; have GE := gw_ HB e0_ hg; replace HB := hb_ HB e0_ hb; clear hb hbox hg; have z0 := zc_ BK 0 rfl; have z1 := zc_ BK 1 rfl; have z2 := zc_ BK 2 rfl; have z3 := zc_ BK 3 rfl; have f0 := kf_ BK.out 0; have f1 := kf_ BK.out 1; have f2 := kf_ BK.out 2; have f3 := kf_ BK.out 3) | (go_at_call 14; refine (glyph_rowOf.calls 40 12 1 7 _ (by decide +kernel)).mono ?_; rintro e w5 ⟨rfl, hd⟩; have hb := Drawn0.below hd; clear hd; replace BK := kb_ BK hb; replace HB := hb_ HB (e_ GE e0_) hb; clear hb; have z0 := zc_ BK 0 rfl; have z1 := zc_ BK 1 rfl; have z2 := zc_ BK 2 rfl; have z3 := zc_ BK 3 rfl; have f0 := kf_ BK.out 0; have f1 := kf_ BK.out 1; have f2 := kf_ BK.out 2; have f3 := kf_ BK.out 3) | (go_at_call 26; refine (glyph_from.calls _ _ _ _ _ _ _ _ rfl).mono ?_; rintro e w5 ⟨rfl, hb⟩; replace BK := kb_ BK hb; replace HB := hb_ HB (e_ GE e0_) hb; clear hb; have z0 := zc_ BK 0 rfl; have z1 := zc_ BK 1 rfl; have z2 := zc_ BK 2 rfl; have z3 := zc_ BK 3 rfl; have f0 := kf_ BK.out 0; have f1 := kf_ BK.out 1; have f2 := kf_ BK.out 2; have f3 := kf_ BK.out 3) | (go_at_call 27; refine (glyph_rest.calls 7 0 (-4072) 1390 900 _ (by decide +kernel)).mono ?_; rintro e w5 ⟨rfl, hb⟩; replace BK := kb_ BK hb; replace HB := hb_ HB (e_ GE e0_) hb; clear hb; have z0 := zc_ BK 0 rfl; have z1 := zc_ BK 1 rfl; have z2 := zc_ BK 2 rfl; have z3 := zc_ BK 3 rfl; have f0 := kf_ BK.out 0; have f1 := kf_ BK.out 1; have f2 := kf_ BK.out 2; have f3 := kf_ BK.out 3))
  refine bodyPost_ret (results_cell_row rfl _ _ gb 30 #[.int .i64 0, .int .i64 (-4072), .int .i64 1390, .int .i64 900] (0, 0) _ rfl (by refine blk_put (cs := #[.int .i64 0, .int .i64 (-4072), .int .i64 1390, .int .i64 0]) ?_ 3 _ rfl; refine blk_put (cs := #[.int .i64 0, .int .i64 (-4072), .int .i64 0, .int .i64 0]) ?_ 2 _ rfl; refine blk_put (cs := #[.int .i64 0, .int .i64 0, .int .i64 0, .int .i64 0]) ?_ 1 _ rfl; refine blk_put (cs := #[.int .i64 0, .int .i64 0, .int .i64 0, .int .i64 0]) ?_ 0 _ rfl; exact kk_ BK.out) Tryd.underlying30 rfl (by kernel_rfl)) rfl ?_
  exact ⟨rfl, bb_ HB.out (e_ GE e0_)⟩
 exact absurd hr (by omega)
set_option maxHeartbeats 16000000 in
set_option maxRecDepth 100000 in
theorem glyph_full.row2 (a0 : Int) (r1 r2 r3 r4 : Int) (w : World) (hr : 13 ≤ a0 ∧ a0 ≤ 16) (h : glyph_full.f a0 = some (r1, r2, r3, r4)) :
  Calls Tryd.prog 19 #[.int .i64 a0] w fun e w' => e = .returned (.agg #[.int .i64 r1, .int .i64 r2, .int .i64 r3, .int .i64 r4]) ∧ Below w.heap.size w w' := by
 have hu := Tryd.underlying30
 have HB := sd_ (Below.refl w.heap.size w)
 by_cases c13 : a0 = 13
 ·subst c13
  obtain ⟨rfl, rfl, rfl, rfl⟩ : 0 = r1 ∧ (-3000) = r2 ∧ 1080 = r3 ∧ 0 = r4 := by simpa [glyph_full.f, fullT] using h
  clear h hr
  go_enter Tryd.func19, Tryd.ntmps19
  go_wp2_with (first | ((with_reducible refine gate_dst (N := 2) rfl ?_); refine box_event ?hg (N := 2) ?hd (cs := #[.int .i64 0, .int .i64 0, .int .i64 0, .int .i64 0]) (t := 30) ?hr ?_; (case hd => rfl); (case hg => rfl); (case hr => first | (go_simp; done) | (go_simp; rfl)); intro gb hg w4 hbox hb; have BK := sd_ hbox; have GE := gw_ HB e0_ hg; replace HB := hb_ HB e0_ hb; clear hb hbox hg; have z0 := zc_ BK 0 rfl; have z1 := zc_ BK 1 rfl; have z2 := zc_ BK 2 rfl; have z3 := zc_ BK 3 rfl; have f0 := kf_ BK.out 0; have f1 := kf_ BK.out 1; have f2 := kf_ BK.out 2; have f3 := kf_ BK.out 3) | (go_at_call 14; refine (glyph_rowOf.calls 40 13 2 0 _ (by decide +kernel)).mono ?_; rintro e w5 ⟨rfl, hd⟩; have hb := Drawn0.below hd; clear hd; replace BK := kb_ BK hb; replace HB := hb_ HB (e_ GE e0_) hb; clear hb; have z0 := zc_ BK 0 rfl; have z1 := zc_ BK 1 rfl; have z2 := zc_ BK 2 rfl; have z3 := zc_ BK 3 rfl; have f0 := kf_ BK.out 0; have f1 := kf_ BK.out 1; have f2 := kf_ BK.out 2; have f3 := kf_ BK.out 3) | (go_at_call 26; refine (glyph_from.calls _ _ _ _ _ _ _ _ rfl).mono ?_; rintro e w5 ⟨rfl, hb⟩; replace BK := kb_ BK hb; replace HB := hb_ HB (e_ GE e0_) hb; clear hb; have z0 := zc_ BK 0 rfl; have z1 := zc_ BK 1 rfl; have z2 := zc_ BK 2 rfl; have z3 := zc_ BK 3 rfl; have f0 := kf_ BK.out 0; have f1 := kf_ BK.out 1; have f2 := kf_ BK.out 2; have f3 := kf_ BK.out 3))
  refine bodyPost_ret (results_cell_row rfl _ _ gb 30 #[.int .i64 0, .int .i64 (-3000), .int .i64 1080, .int .i64 0] (0, 0) _ rfl (by refine blk_put (cs := #[.int .i64 0, .int .i64 (-3000), .int .i64 1080, .int .i64 0]) ?_ 3 _ rfl; refine blk_put (cs := #[.int .i64 0, .int .i64 (-3000), .int .i64 0, .int .i64 0]) ?_ 2 _ rfl; refine blk_put (cs := #[.int .i64 0, .int .i64 0, .int .i64 0, .int .i64 0]) ?_ 1 _ rfl; refine blk_put (cs := #[.int .i64 0, .int .i64 0, .int .i64 0, .int .i64 0]) ?_ 0 _ rfl; exact kk_ BK.out) Tryd.underlying30 rfl (by kernel_rfl)) rfl ?_
  exact ⟨rfl, bb_ HB.out (e_ GE e0_)⟩
 by_cases c14 : a0 = 14
 ·subst c14
  obtain ⟨rfl, rfl, rfl, rfl⟩ : 0 = r1 ∧ (-3512) = r2 ∧ 1080 = r3 ∧ 0 = r4 := by simpa [glyph_full.f, fullT] using h
  clear h hr
  go_enter Tryd.func19, Tryd.ntmps19
  go_wp2_with (first | ((with_reducible refine gate_dst (N := 2) rfl ?_); refine box_event ?hg (N := 2) ?hd (cs := #[.int .i64 0, .int .i64 0, .int .i64 0, .int .i64 0]) (t := 30) ?hr ?_; (case hd => rfl); (case hg => rfl); (case hr => first | (go_simp; done) | (go_simp; rfl)); intro gb hg w4 hbox hb; have BK := sd_ hbox; have GE := gw_ HB e0_ hg; replace HB := hb_ HB e0_ hb; clear hb hbox hg; have z0 := zc_ BK 0 rfl; have z1 := zc_ BK 1 rfl; have z2 := zc_ BK 2 rfl; have z3 := zc_ BK 3 rfl; have f0 := kf_ BK.out 0; have f1 := kf_ BK.out 1; have f2 := kf_ BK.out 2; have f3 := kf_ BK.out 3) | (go_at_call 14; refine (glyph_rowOf.calls 40 14 2 1 _ (by decide +kernel)).mono ?_; rintro e w5 ⟨rfl, hd⟩; have hb := Drawn0.below hd; clear hd; replace BK := kb_ BK hb; replace HB := hb_ HB (e_ GE e0_) hb; clear hb; have z0 := zc_ BK 0 rfl; have z1 := zc_ BK 1 rfl; have z2 := zc_ BK 2 rfl; have z3 := zc_ BK 3 rfl; have f0 := kf_ BK.out 0; have f1 := kf_ BK.out 1; have f2 := kf_ BK.out 2; have f3 := kf_ BK.out 3) | (go_at_call 26; refine (glyph_from.calls _ _ _ _ _ _ _ _ rfl).mono ?_; rintro e w5 ⟨rfl, hb⟩; replace BK := kb_ BK hb; replace HB := hb_ HB (e_ GE e0_) hb; clear hb; have z0 := zc_ BK 0 rfl; have z1 := zc_ BK 1 rfl; have z2 := zc_ BK 2 rfl; have z3 := zc_ BK 3 rfl; have f0 := kf_ BK.out 0; have f1 := kf_ BK.out 1; have f2 := kf_ BK.out 2; have f3 := kf_ BK.out 3))
  refine bodyPost_ret (results_cell_row rfl _ _ gb 30 #[.int .i64 0, .int .i64 (-3512), .int .i64 1080, .int .i64 0] (0, 0) _ rfl (by refine blk_put (cs := #[.int .i64 0, .int .i64 (-3512), .int .i64 1080, .int .i64 0]) ?_ 3 _ rfl; refine blk_put (cs := #[.int .i64 0, .int .i64 (-3512), .int .i64 0, .int .i64 0]) ?_ 2 _ rfl; refine blk_put (cs := #[.int .i64 0, .int .i64 0, .int .i64 0, .int .i64 0]) ?_ 1 _ rfl; refine blk_put (cs := #[.int .i64 0, .int .i64 0, .int .i64 0, .int .i64 0]) ?_ 0 _ rfl; exact kk_ BK.out) Tryd.underlying30 rfl (by kernel_rfl)) rfl ?_
  exact ⟨rfl, bb_ HB.out (e_ GE e0_)⟩
 by_cases c15 : a0 = 15
 ·subst c15
  obtain ⟨rfl, rfl, rfl, rfl⟩ : 0 = r1 ∧ (-4024) = r2 ∧ 1080 = r3 ∧ 0 = r4 := by simpa [glyph_full.f, fullT] using h
  clear h hr
  go_enter Tryd.func19, Tryd.ntmps19
  go_wp2_with (first | ((with_reducible refine gate_dst (N := 2) rfl ?_); refine box_event ?hg (N := 2) ?hd (cs := #[.int .i64 0, .int .i64 0, .int .i64 0, .int .i64 0]) (t := 30) ?hr ?_; (case hd => rfl); (case hg => rfl); (case hr => first | (go_simp; done) | (go_simp; rfl)); intro gb hg w4 hbox hb; have BK := sd_ hbox; have GE := gw_ HB e0_ hg; replace HB := hb_ HB e0_ hb; clear hb hbox hg; have z0 := zc_ BK 0 rfl; have z1 := zc_ BK 1 rfl; have z2 := zc_ BK 2 rfl; have z3 := zc_ BK 3 rfl; have f0 := kf_ BK.out 0; have f1 := kf_ BK.out 1; have f2 := kf_ BK.out 2; have f3 := kf_ BK.out 3) | (go_at_call 14; refine (glyph_rowOf.calls 40 15 2 2 _ (by decide +kernel)).mono ?_; rintro e w5 ⟨rfl, hd⟩; have hb := Drawn0.below hd; clear hd; replace BK := kb_ BK hb; replace HB := hb_ HB (e_ GE e0_) hb; clear hb; have z0 := zc_ BK 0 rfl; have z1 := zc_ BK 1 rfl; have z2 := zc_ BK 2 rfl; have z3 := zc_ BK 3 rfl; have f0 := kf_ BK.out 0; have f1 := kf_ BK.out 1; have f2 := kf_ BK.out 2; have f3 := kf_ BK.out 3) | (go_at_call 26; refine (glyph_from.calls _ _ _ _ _ _ _ _ rfl).mono ?_; rintro e w5 ⟨rfl, hb⟩; replace BK := kb_ BK hb; replace HB := hb_ HB (e_ GE e0_) hb; clear hb; have z0 := zc_ BK 0 rfl; have z1 := zc_ BK 1 rfl; have z2 := zc_ BK 2 rfl; have z3 := zc_ BK 3 rfl; have f0 := kf_ BK.out 0; have f1 := kf_ BK.out 1; have f2 := kf_ BK.out 2; have f3 := kf_ BK.out 3))
  refine bodyPost_ret (results_cell_row rfl _ _ gb 30 #[.int .i64 0, .int .i64 (-4024), .int .i64 1080, .int .i64 0] (0, 0) _ rfl (by refine blk_put (cs := #[.int .i64 0, .int .i64 (-4024), .int .i64 1080, .int .i64 0]) ?_ 3 _ rfl; refine blk_put (cs := #[.int .i64 0, .int .i64 (-4024), .int .i64 0, .int .i64 0]) ?_ 2 _ rfl; refine blk_put (cs := #[.int .i64 0, .int .i64 0, .int .i64 0, .int .i64 0]) ?_ 1 _ rfl; refine blk_put (cs := #[.int .i64 0, .int .i64 0, .int .i64 0, .int .i64 0]) ?_ 0 _ rfl; exact kk_ BK.out) Tryd.underlying30 rfl (by kernel_rfl)) rfl ?_
  exact ⟨rfl, bb_ HB.out (e_ GE e0_)⟩
 by_cases c16 : a0 = 16
 ·subst c16
  obtain ⟨rfl, rfl, rfl, rfl⟩ : 0 = r1 ∧ (-4536) = r2 ∧ 1080 = r3 ∧ 0 = r4 := by simpa [glyph_full.f, fullT] using h
  clear h hr
  go_enter Tryd.func19, Tryd.ntmps19
  go_wp2_with (first | ((with_reducible refine gate_dst (N := 2) rfl ?_); refine box_event ?hg (N := 2) ?hd (cs := #[.int .i64 0, .int .i64 0, .int .i64 0, .int .i64 0]) (t := 30) ?hr ?_; (case hd => rfl); (case hg => rfl); (case hr => first | (go_simp; done) | (go_simp; rfl)); intro gb hg w4 hbox hb; have BK := sd_ hbox; have GE := gw_ HB e0_ hg; replace HB := hb_ HB e0_ hb; clear hb hbox hg; have z0 := zc_ BK 0 rfl; have z1 := zc_ BK 1 rfl; have z2 := zc_ BK 2 rfl; have z3 := zc_ BK 3 rfl; have f0 := kf_ BK.out 0; have f1 := kf_ BK.out 1; have f2 := kf_ BK.out 2; have f3 := kf_ BK.out 3) | (go_at_call 14; refine (glyph_rowOf.calls 40 16 2 3 _ (by decide +kernel)).mono ?_; rintro e w5 ⟨rfl, hd⟩; have hb := Drawn0.below hd; clear hd; replace BK := kb_ BK hb; replace HB := hb_ HB (e_ GE e0_) hb; clear hb; have z0 := zc_ BK 0 rfl; have z1 := zc_ BK 1 rfl; have z2 := zc_ BK 2 rfl; have z3 := zc_ BK 3 rfl; have f0 := kf_ BK.out 0; have f1 := kf_ BK.out 1; have f2 := kf_ BK.out 2; have f3 := kf_ BK.out 3) | (go_at_call 26; refine (glyph_from.calls _ _ _ _ _ _ _ _ rfl).mono ?_; rintro e w5 ⟨rfl, hb⟩; replace BK := kb_ BK hb; replace HB := hb_ HB (e_ GE e0_) hb; clear hb; have z0 := zc_ BK 0 rfl; have z1 := zc_ BK 1 rfl; have z2 := zc_ BK 2 rfl; have z3 := zc_ BK 3 rfl; have f0 := kf_ BK.out 0; have f1 := kf_ BK.out 1; have f2 := kf_ BK.out 2; have f3 := kf_ BK.out 3))
  refine bodyPost_ret (results_cell_row rfl _ _ gb 30 #[.int .i64 0, .int .i64 (-4536), .int .i64 1080, .int .i64 0] (0, 0) _ rfl (by refine blk_put (cs := #[.int .i64 0, .int .i64 (-4536), .int .i64 1080, .int .i64 0]) ?_ 3 _ rfl; refine blk_put (cs := #[.int .i64 0, .int .i64 (-4536), .int .i64 0, .int .i64 0]) ?_ 2 _ rfl; refine blk_put (cs := #[.int .i64 0, .int .i64 0, .int .i64 0, .int .i64 0]) ?_ 1 _ rfl; refine blk_put (cs := #[.int .i64 0, .int .i64 0, .int .i64 0, .int .i64 0]) ?_ 0 _ rfl; exact kk_ BK.out) Tryd.underlying30 rfl (by kernel_rfl)) rfl ?_
  exact ⟨rfl, bb_ HB.out (e_ GE e0_)⟩
 exact absurd hr (by omega)
set_option maxHeartbeats 16000000 in
set_option maxRecDepth 100000 in
theorem glyph_full.row3 (a0 : Int) (r1 r2 r3 r4 : Int) (w : World) (hr : 17 ≤ a0 ∧ a0 ≤ 20) (h : glyph_full.f a0 = some (r1, r2, r3, r4)) :
  Calls Tryd.prog 19 #[.int .i64 a0] w fun e w' => e = .returned (.agg #[.int .i64 r1, .int .i64 r2, .int .i64 r3, .int .i64 r4]) ∧ Below w.heap.size w w' := by
 have hu := Tryd.underlying30
 have HB := sd_ (Below.refl w.heap.size w)
 by_cases c17 : a0 = 17
 ·subst c17
  obtain ⟨rfl, rfl, rfl, rfl⟩ : 0 = r1 ∧ 0 = r2 ∧ 1180 = r3 ∧ 3000 = r4 := by simpa [glyph_full.f, fullT] using h
  clear h hr
  go_enter Tryd.func19, Tryd.ntmps19
  go_wp2_with (first | ((with_reducible refine gate_dst (N := 2) rfl ?_); refine box_event ?hg (N := 2) ?hd (cs := #[.int .i64 0, .int .i64 0, .int .i64 0, .int .i64 0]) (t := 30) ?hr ?_; (case hd => rfl); (case hg => rfl); (case hr => first | (go_simp; done) | (go_simp; rfl)); intro gb hg w4 hbox hb; have BK := sd_ hbox; have GE := gw_ HB e0_ hg; replace HB := hb_ HB e0_ hb; clear hb hbox hg; have z0 := zc_ BK 0 rfl; have z1 := zc_ BK 1 rfl; have z2 := zc_ BK 2 rfl; have z3 := zc_ BK 3 rfl; have f0 := kf_ BK.out 0; have f1 := kf_ BK.out 1; have f2 := kf_ BK.out 2; have f3 := kf_ BK.out 3) | (go_at_call 14; refine (glyph_rowOf.calls 40 17 3 0 _ (by decide +kernel)).mono ?_; rintro e w5 ⟨rfl, hd⟩; have hb := Drawn0.below hd; clear hd; replace BK := kb_ BK hb; replace HB := hb_ HB (e_ GE e0_) hb; clear hb; have z0 := zc_ BK 0 rfl; have z1 := zc_ BK 1 rfl; have z2 := zc_ BK 2 rfl; have z3 := zc_ BK 3 rfl; have f0 := kf_ BK.out 0; have f1 := kf_ BK.out 1; have f2 := kf_ BK.out 2; have f3 := kf_ BK.out 3) | (go_at_call 26; refine (glyph_from.calls _ _ _ _ _ _ _ _ rfl).mono ?_; rintro e w5 ⟨rfl, hb⟩; replace BK := kb_ BK hb; replace HB := hb_ HB (e_ GE e0_) hb; clear hb; have z0 := zc_ BK 0 rfl; have z1 := zc_ BK 1 rfl; have z2 := zc_ BK 2 rfl; have z3 := zc_ BK 3 rfl; have f0 := kf_ BK.out 0; have f1 := kf_ BK.out 1; have f2 := kf_ BK.out 2; have f3 := kf_ BK.out 3))
  refine bodyPost_ret (results_cell_row rfl _ _ gb 30 #[.int .i64 0, .int .i64 0, .int .i64 1180, .int .i64 3000] (0, 0) _ rfl (by refine blk_put (cs := #[.int .i64 0, .int .i64 0, .int .i64 1180, .int .i64 0]) ?_ 3 _ rfl; refine blk_put (cs := #[.int .i64 0, .int .i64 0, .int .i64 0, .int .i64 0]) ?_ 2 _ rfl; refine blk_put (cs := #[.int .i64 0, .int .i64 0, .int .i64 0, .int .i64 0]) ?_ 1 _ rfl; refine blk_put (cs := #[.int .i64 0, .int .i64 0, .int .i64 0, .int .i64 0]) ?_ 0 _ rfl; exact kk_ BK.out) Tryd.underlying30 rfl (by kernel_rfl)) rfl ?_
  exact ⟨rfl, bb_ HB.out (e_ GE e0_)⟩
 by_cases c18 : a0 = 18
 ·subst c18
  obtain ⟨rfl, rfl, rfl, rfl⟩ : 0 = r1 ∧ 0 = r2 ∧ 1180 = r3 ∧ 3512 = r4 := by simpa [glyph_full.f, fullT] using h
  clear h hr
  go_enter Tryd.func19, Tryd.ntmps19
  go_wp2_with (first | ((with_reducible refine gate_dst (N := 2) rfl ?_); refine box_event ?hg (N := 2) ?hd (cs := #[.int .i64 0, .int .i64 0, .int .i64 0, .int .i64 0]) (t := 30) ?hr ?_; (case hd => rfl); (case hg => rfl); (case hr => first | (go_simp; done) | (go_simp; rfl)); intro gb hg w4 hbox hb; have BK := sd_ hbox; have GE := gw_ HB e0_ hg; replace HB := hb_ HB e0_ hb; clear hb hbox hg; have z0 := zc_ BK 0 rfl; have z1 := zc_ BK 1 rfl; have z2 := zc_ BK 2 rfl; have z3 := zc_ BK 3 rfl; have f0 := kf_ BK.out 0; have f1 := kf_ BK.out 1; have f2 := kf_ BK.out 2; have f3 := kf_ BK.out 3) | (go_at_call 14; refine (glyph_rowOf.calls 40 18 3 1 _ (by decide +kernel)).mono ?_; rintro e w5 ⟨rfl, hd⟩; have hb := Drawn0.below hd; clear hd; replace BK := kb_ BK hb; replace HB := hb_ HB (e_ GE e0_) hb; clear hb; have z0 := zc_ BK 0 rfl; have z1 := zc_ BK 1 rfl; have z2 := zc_ BK 2 rfl; have z3 := zc_ BK 3 rfl; have f0 := kf_ BK.out 0; have f1 := kf_ BK.out 1; have f2 := kf_ BK.out 2; have f3 := kf_ BK.out 3) | (go_at_call 26; refine (glyph_from.calls _ _ _ _ _ _ _ _ rfl).mono ?_; rintro e w5 ⟨rfl, hb⟩; replace BK := kb_ BK hb; replace HB := hb_ HB (e_ GE e0_) hb; clear hb; have z0 := zc_ BK 0 rfl; have z1 := zc_ BK 1 rfl; have z2 := zc_ BK 2 rfl; have z3 := zc_ BK 3 rfl; have f0 := kf_ BK.out 0; have f1 := kf_ BK.out 1; have f2 := kf_ BK.out 2; have f3 := kf_ BK.out 3))
  refine bodyPost_ret (results_cell_row rfl _ _ gb 30 #[.int .i64 0, .int .i64 0, .int .i64 1180, .int .i64 3512] (0, 0) _ rfl (by refine blk_put (cs := #[.int .i64 0, .int .i64 0, .int .i64 1180, .int .i64 0]) ?_ 3 _ rfl; refine blk_put (cs := #[.int .i64 0, .int .i64 0, .int .i64 0, .int .i64 0]) ?_ 2 _ rfl; refine blk_put (cs := #[.int .i64 0, .int .i64 0, .int .i64 0, .int .i64 0]) ?_ 1 _ rfl; refine blk_put (cs := #[.int .i64 0, .int .i64 0, .int .i64 0, .int .i64 0]) ?_ 0 _ rfl; exact kk_ BK.out) Tryd.underlying30 rfl (by kernel_rfl)) rfl ?_
  exact ⟨rfl, bb_ HB.out (e_ GE e0_)⟩
 by_cases c19 : a0 = 19
 ·subst c19
  obtain ⟨rfl, rfl, rfl, rfl⟩ : 0 = r1 ∧ 0 = r2 ∧ 1180 = r3 ∧ 4024 = r4 := by simpa [glyph_full.f, fullT] using h
  clear h hr
  go_enter Tryd.func19, Tryd.ntmps19
  go_wp2_with (first | ((with_reducible refine gate_dst (N := 2) rfl ?_); refine box_event ?hg (N := 2) ?hd (cs := #[.int .i64 0, .int .i64 0, .int .i64 0, .int .i64 0]) (t := 30) ?hr ?_; (case hd => rfl); (case hg => rfl); (case hr => first | (go_simp; done) | (go_simp; rfl)); intro gb hg w4 hbox hb; have BK := sd_ hbox; have GE := gw_ HB e0_ hg; replace HB := hb_ HB e0_ hb; clear hb hbox hg; have z0 := zc_ BK 0 rfl; have z1 := zc_ BK 1 rfl; have z2 := zc_ BK 2 rfl; have z3 := zc_ BK 3 rfl; have f0 := kf_ BK.out 0; have f1 := kf_ BK.out 1; have f2 := kf_ BK.out 2; have f3 := kf_ BK.out 3) | (go_at_call 14; refine (glyph_rowOf.calls 40 19 3 2 _ (by decide +kernel)).mono ?_; rintro e w5 ⟨rfl, hd⟩; have hb := Drawn0.below hd; clear hd; replace BK := kb_ BK hb; replace HB := hb_ HB (e_ GE e0_) hb; clear hb; have z0 := zc_ BK 0 rfl; have z1 := zc_ BK 1 rfl; have z2 := zc_ BK 2 rfl; have z3 := zc_ BK 3 rfl; have f0 := kf_ BK.out 0; have f1 := kf_ BK.out 1; have f2 := kf_ BK.out 2; have f3 := kf_ BK.out 3) | (go_at_call 26; refine (glyph_from.calls _ _ _ _ _ _ _ _ rfl).mono ?_; rintro e w5 ⟨rfl, hb⟩; replace BK := kb_ BK hb; replace HB := hb_ HB (e_ GE e0_) hb; clear hb; have z0 := zc_ BK 0 rfl; have z1 := zc_ BK 1 rfl; have z2 := zc_ BK 2 rfl; have z3 := zc_ BK 3 rfl; have f0 := kf_ BK.out 0; have f1 := kf_ BK.out 1; have f2 := kf_ BK.out 2; have f3 := kf_ BK.out 3))
  refine bodyPost_ret (results_cell_row rfl _ _ gb 30 #[.int .i64 0, .int .i64 0, .int .i64 1180, .int .i64 4024] (0, 0) _ rfl (by refine blk_put (cs := #[.int .i64 0, .int .i64 0, .int .i64 1180, .int .i64 0]) ?_ 3 _ rfl; refine blk_put (cs := #[.int .i64 0, .int .i64 0, .int .i64 0, .int .i64 0]) ?_ 2 _ rfl; refine blk_put (cs := #[.int .i64 0, .int .i64 0, .int .i64 0, .int .i64 0]) ?_ 1 _ rfl; refine blk_put (cs := #[.int .i64 0, .int .i64 0, .int .i64 0, .int .i64 0]) ?_ 0 _ rfl; exact kk_ BK.out) Tryd.underlying30 rfl (by kernel_rfl)) rfl ?_
  exact ⟨rfl, bb_ HB.out (e_ GE e0_)⟩
 by_cases c20 : a0 = 20
 ·subst c20
  obtain ⟨rfl, rfl, rfl, rfl⟩ : 0 = r1 ∧ 0 = r2 ∧ 1180 = r3 ∧ 4536 = r4 := by simpa [glyph_full.f, fullT] using h
  clear h hr
  go_enter Tryd.func19, Tryd.ntmps19
  go_wp2_with (first | ((with_reducible refine gate_dst (N := 2) rfl ?_); refine box_event ?hg (N := 2) ?hd (cs := #[.int .i64 0, .int .i64 0, .int .i64 0, .int .i64 0]) (t := 30) ?hr ?_; (case hd => rfl); (case hg => rfl); (case hr => first | (go_simp; done) | (go_simp; rfl)); intro gb hg w4 hbox hb; have BK := sd_ hbox; have GE := gw_ HB e0_ hg; replace HB := hb_ HB e0_ hb; clear hb hbox hg; have z0 := zc_ BK 0 rfl; have z1 := zc_ BK 1 rfl; have z2 := zc_ BK 2 rfl; have z3 := zc_ BK 3 rfl; have f0 := kf_ BK.out 0; have f1 := kf_ BK.out 1; have f2 := kf_ BK.out 2; have f3 := kf_ BK.out 3) | (go_at_call 14; refine (glyph_rowOf.calls 40 20 3 3 _ (by decide +kernel)).mono ?_; rintro e w5 ⟨rfl, hd⟩; have hb := Drawn0.below hd; clear hd; replace BK := kb_ BK hb; replace HB := hb_ HB (e_ GE e0_) hb; clear hb; have z0 := zc_ BK 0 rfl; have z1 := zc_ BK 1 rfl; have z2 := zc_ BK 2 rfl; have z3 := zc_ BK 3 rfl; have f0 := kf_ BK.out 0; have f1 := kf_ BK.out 1; have f2 := kf_ BK.out 2; have f3 := kf_ BK.out 3) | (go_at_call 26; refine (glyph_from.calls _ _ _ _ _ _ _ _ rfl).mono ?_; rintro e w5 ⟨rfl, hb⟩; replace BK := kb_ BK hb; replace HB := hb_ HB (e_ GE e0_) hb; clear hb; have z0 := zc_ BK 0 rfl; have z1 := zc_ BK 1 rfl; have z2 := zc_ BK 2 rfl; have z3 := zc_ BK 3 rfl; have f0 := kf_ BK.out 0; have f1 := kf_ BK.out 1; have f2 := kf_ BK.out 2; have f3 := kf_ BK.out 3))
  refine bodyPost_ret (results_cell_row rfl _ _ gb 30 #[.int .i64 0, .int .i64 0, .int .i64 1180, .int .i64 4536] (0, 0) _ rfl (by refine blk_put (cs := #[.int .i64 0, .int .i64 0, .int .i64 1180, .int .i64 0]) ?_ 3 _ rfl; refine blk_put (cs := #[.int .i64 0, .int .i64 0, .int .i64 0, .int .i64 0]) ?_ 2 _ rfl; refine blk_put (cs := #[.int .i64 0, .int .i64 0, .int .i64 0, .int .i64 0]) ?_ 1 _ rfl; refine blk_put (cs := #[.int .i64 0, .int .i64 0, .int .i64 0, .int .i64 0]) ?_ 0 _ rfl; exact kk_ BK.out) Tryd.underlying30 rfl (by kernel_rfl)) rfl ?_
  exact ⟨rfl, bb_ HB.out (e_ GE e0_)⟩
 exact absurd hr (by omega)
set_option maxHeartbeats 16000000 in
set_option maxRecDepth 100000 in
theorem glyph_full.row4 (a0 : Int) (r1 r2 r3 r4 : Int) (w : World) (hr : 21 ≤ a0 ∧ a0 ≤ 25) (h : glyph_full.f a0 = some (r1, r2, r3, r4)) :
  Calls Tryd.prog 19 #[.int .i64 a0] w fun e w' => e = .returned (.agg #[.int .i64 r1, .int .i64 r2, .int .i64 r3, .int .i64 r4]) ∧ Below w.heap.size w w' := by
 have hu := Tryd.underlying30
 have HB := sd_ (Below.refl w.heap.size w)
 by_cases c21 : a0 = 21
 ·subst c21
  obtain ⟨rfl, rfl, rfl, rfl⟩ : 0 = r1 ∧ (-1430) = r2 ∧ 1020 = r3 ∧ 1430 = r4 := by simpa [glyph_full.f, fullT] using h
  clear h hr
  have hix : ∀ W, (Instr.index 60 (.agg #[.int .i64 0, .int .i64 (-1430), .int .i64 1020, .int .i64 1430, .int .i64 0, .int .i64 (-720), .int .i64 920, .int .i64 1800, .int .i64 0, .int .i64 (-1400), .int .i64 700, .int .i64 1400, .int .i64 0, .int .i64 (-520), .int .i64 1030, .int .i64 520, .int .i64 0, .int .i64 (-720), .int .i64 1660, .int .i64 1800]) (.int .i64 0)).run Tryd.prog W = .ok (.agg #[.int .i64 0, .int .i64 (-1430), .int .i64 1020, .int .i64 1430]) W := fun W => by kernel_rfl
  go_enter Tryd.func19, Tryd.ntmps19
  go_wp2_with (first | ((with_reducible refine gate_dst (N := 2) rfl ?_); refine box_event ?hg (N := 2) ?hd (cs := #[.int .i64 0, .int .i64 0, .int .i64 0, .int .i64 0]) (t := 30) ?hr ?_; (case hd => rfl); (case hg => rfl); (case hr => first | (go_simp; done) | (go_simp; rfl)); intro gb hg w4 hbox hb; have BK := sd_ hbox; have GE := gw_ HB e0_ hg; replace HB := hb_ HB e0_ hb; clear hb hbox hg; have z0 := zc_ BK 0 rfl; have z1 := zc_ BK 1 rfl; have z2 := zc_ BK 2 rfl; have z3 := zc_ BK 3 rfl; have f0 := kf_ BK.out 0; have f1 := kf_ BK.out 1; have f2 := kf_ BK.out 2; have f3 := kf_ BK.out 3) | (go_at_call 14; refine (glyph_rowOf.calls 40 21 4 0 _ (by decide +kernel)).mono ?_; rintro e w5 ⟨rfl, hd⟩; have hb := Drawn0.below hd; clear hd; replace BK := kb_ BK hb; replace HB := hb_ HB (e_ GE e0_) hb; clear hb; have z0 := zc_ BK 0 rfl; have z1 := zc_ BK 1 rfl; have z2 := zc_ BK 2 rfl; have z3 := zc_ BK 3 rfl; have f0 := kf_ BK.out 0; have f1 := kf_ BK.out 1; have f2 := kf_ BK.out 2; have f3 := kf_ BK.out 3) | (go_at_call 26; refine (glyph_from.calls _ _ _ _ _ _ _ _ rfl).mono ?_; rintro e w5 ⟨rfl, hb⟩; replace BK := kb_ BK hb; replace HB := hb_ HB (e_ GE e0_) hb; clear hb; have z0 := zc_ BK 0 rfl; have z1 := zc_ BK 1 rfl; have z2 := zc_ BK 2 rfl; have z3 := zc_ BK 3 rfl; have f0 := kf_ BK.out 0; have f1 := kf_ BK.out 1; have f2 := kf_ BK.out 2; have f3 := kf_ BK.out 3))
  refine bodyPost_ret (results_cell_row rfl _ _ gb 30 #[.int .i64 0, .int .i64 (-1430), .int .i64 1020, .int .i64 1430] (0, 0) _ rfl (by refine blk_put (cs := #[.int .i64 0, .int .i64 (-1430), .int .i64 1020, .int .i64 0]) ?_ 3 _ rfl; refine blk_put (cs := #[.int .i64 0, .int .i64 (-1430), .int .i64 0, .int .i64 0]) ?_ 2 _ rfl; refine blk_put (cs := #[.int .i64 0, .int .i64 0, .int .i64 0, .int .i64 0]) ?_ 1 _ rfl; refine blk_put (cs := #[.int .i64 0, .int .i64 0, .int .i64 0, .int .i64 0]) ?_ 0 _ rfl; exact kk_ BK.out) Tryd.underlying30 rfl (by kernel_rfl)) rfl ?_
  exact ⟨rfl, bb_ HB.out (e_ GE e0_)⟩
 by_cases c22 : a0 = 22
 ·subst c22
  obtain ⟨rfl, rfl, rfl, rfl⟩ : 0 = r1 ∧ (-720) = r2 ∧ 920 = r3 ∧ 1800 = r4 := by simpa [glyph_full.f, fullT] using h
  clear h hr
  have hix : ∀ W, (Instr.index 60 (.agg #[.int .i64 0, .int .i64 (-1430), .int .i64 1020, .int .i64 1430, .int .i64 0, .int .i64 (-720), .int .i64 920, .int .i64 1800, .int .i64 0, .int .i64 (-1400), .int .i64 700, .int .i64 1400, .int .i64 0, .int .i64 (-520), .int .i64 1030, .int .i64 520, .int .i64 0, .int .i64 (-720), .int .i64 1660, .int .i64 1800]) (.int .i64 1)).run Tryd.prog W = .ok (.agg #[.int .i64 0, .int .i64 (-720), .int .i64 920, .int .i64 1800]) W := fun W => by kernel_rfl
  go_enter Tryd.func19, Tryd.ntmps19
  go_wp2_with (first | ((with_reducible refine gate_dst (N := 2) rfl ?_); refine box_event ?hg (N := 2) ?hd (cs := #[.int .i64 0, .int .i64 0, .int .i64 0, .int .i64 0]) (t := 30) ?hr ?_; (case hd => rfl); (case hg => rfl); (case hr => first | (go_simp; done) | (go_simp; rfl)); intro gb hg w4 hbox hb; have BK := sd_ hbox; have GE := gw_ HB e0_ hg; replace HB := hb_ HB e0_ hb; clear hb hbox hg; have z0 := zc_ BK 0 rfl; have z1 := zc_ BK 1 rfl; have z2 := zc_ BK 2 rfl; have z3 := zc_ BK 3 rfl; have f0 := kf_ BK.out 0; have f1 := kf_ BK.out 1; have f2 := kf_ BK.out 2; have f3 := kf_ BK.out 3) | (go_at_call 14; refine (glyph_rowOf.calls 40 22 4 1 _ (by decide +kernel)).mono ?_; rintro e w5 ⟨rfl, hd⟩; have hb := Drawn0.below hd; clear hd; replace BK := kb_ BK hb; replace HB := hb_ HB (e_ GE e0_) hb; clear hb; have z0 := zc_ BK 0 rfl; have z1 := zc_ BK 1 rfl; have z2 := zc_ BK 2 rfl; have z3 := zc_ BK 3 rfl; have f0 := kf_ BK.out 0; have f1 := kf_ BK.out 1; have f2 := kf_ BK.out 2; have f3 := kf_ BK.out 3) | (go_at_call 26; refine (glyph_from.calls _ _ _ _ _ _ _ _ rfl).mono ?_; rintro e w5 ⟨rfl, hb⟩; replace BK := kb_ BK hb; replace HB := hb_ HB (e_ GE e0_) hb; clear hb; have z0 := zc_ BK 0 rfl; have z1 := zc_ BK 1 rfl; have z2 := zc_ BK 2 rfl; have z3 := zc_ BK 3 rfl; have f0 := kf_ BK.out 0; have f1 := kf_ BK.out 1; have f2 := kf_ BK.out 2; have f3 := kf_ BK.out 3))
  refine bodyPost_ret (results_cell_row rfl _ _ gb 30 #[.int .i64 0, .int .i64 (-720), .int .i64 920, .int .i64 1800] (0, 0) _ rfl (by refine blk_put (cs := #[.int .i64 0, .int .i64 (-720), .int .i64 920, .int .i64 0]) ?_ 3 _ rfl; refine blk_put (cs := #[.int .i64 0, .int .i64 (-720), .int .i64 0, .int .i64 0]) ?_ 2 _ rfl; refine blk_put (cs := #[.int .i64 0, .int .i64 0, .int .i64 0, .int .i64 0]) ?_ 1 _ rfl; refine blk_put (cs := #[.int .i64 0, .int .i64 0, .int .i64 0, .int .i64 0]) ?_ 0 _ rfl; exact kk_ BK.out) Tryd.underlying30 rfl (by kernel_rfl)) rfl ?_
  exact ⟨rfl, bb_ HB.out (e_ GE e0_)⟩
 by_cases c23 : a0 = 23
 ·subst c23
  obtain ⟨rfl, rfl, rfl, rfl⟩ : 0 = r1 ∧ (-1400) = r2 ∧ 700 = r3 ∧ 1400 = r4 := by simpa [glyph_full.f, fullT] using h
  clear h hr
  have hix : ∀ W, (Instr.index 60 (.agg #[.int .i64 0, .int .i64 (-1430), .int .i64 1020, .int .i64 1430, .int .i64 0, .int .i64 (-720), .int .i64 920, .int .i64 1800, .int .i64 0, .int .i64 (-1400), .int .i64 700, .int .i64 1400, .int .i64 0, .int .i64 (-520), .int .i64 1030, .int .i64 520, .int .i64 0, .int .i64 (-720), .int .i64 1660, .int .i64 1800]) (.int .i64 2)).run Tryd.prog W = .ok (.agg #[.int .i64 0, .int .i64 (-1400), .int .i64 700, .int .i64 1400]) W := fun W => by kernel_rfl
  go_enter Tryd.func19, Tryd.ntmps19
  go_wp2_with (first | ((with_reducible refine gate_dst (N := 2) rfl ?_); refine box_event ?hg (N := 2) ?hd (cs := #[.int .i64 0, .int .i64 0, .int .i64 0, .int .i64 0]) (t := 30) ?hr ?_; (case hd => rfl); (case hg => rfl); (case hr => first | (go_simp; done) | (go_simp; rfl)); intro gb hg w4 hbox hb; have BK := sd_ hbox; have GE := gw_ HB e0_ hg; replace HB := hb_ HB e0_ hb; clear hb hbox hg; have z0 := zc_ BK 0 rfl; have z1 := zc_ BK 1 rfl; have z2 := zc_ BK 2 rfl; have z3 := zc_ BK 3 rfl; have f0 := kf_ BK.out 0; have f1 := kf_ BK.out 1; have f2 := kf_ BK.out 2; have f3 := kf_ BK.out 3) | (go_at_call 14; refine (glyph_rowOf.calls 40 23 4 2 _ (by decide +kernel)).mono ?_; rintro e w5 ⟨rfl, hd⟩; have hb := Drawn0.below hd; clear hd; replace BK := kb_ BK hb; replace HB := hb_ HB (e_ GE e0_) hb; clear hb; have z0 := zc_ BK 0 rfl; have z1 := zc_ BK 1 rfl; have z2 := zc_ BK 2 rfl; have z3 := zc_ BK 3 rfl; have f0 := kf_ BK.out 0; have f1 := kf_ BK.out 1; have f2 := kf_ BK.out 2; have f3 := kf_ BK.out 3) | (go_at_call 26; refine (glyph_from.calls _ _ _ _ _ _ _ _ rfl).mono ?_; rintro e w5 ⟨rfl, hb⟩; replace BK := kb_ BK hb; replace HB := hb_ HB (e_ GE e0_) hb; clear hb; have z0 := zc_ BK 0 rfl; have z1 := zc_ BK 1 rfl; have z2 := zc_ BK 2 rfl; have z3 := zc_ BK 3 rfl; have f0 := kf_ BK.out 0; have f1 := kf_ BK.out 1; have f2 := kf_ BK.out 2; have f3 := kf_ BK.out 3))
  refine bodyPost_ret (results_cell_row rfl _ _ gb 30 #[.int .i64 0, .int .i64 (-1400), .int .i64 700, .int .i64 1400] (0, 0) _ rfl (by refine blk_put (cs := #[.int .i64 0, .int .i64 (-1400), .int .i64 700, .int .i64 0]) ?_ 3 _ rfl; refine blk_put (cs := #[.int .i64 0, .int .i64 (-1400), .int .i64 0, .int .i64 0]) ?_ 2 _ rfl; refine blk_put (cs := #[.int .i64 0, .int .i64 0, .int .i64 0, .int .i64 0]) ?_ 1 _ rfl; refine blk_put (cs := #[.int .i64 0, .int .i64 0, .int .i64 0, .int .i64 0]) ?_ 0 _ rfl; exact kk_ BK.out) Tryd.underlying30 rfl (by kernel_rfl)) rfl ?_
  exact ⟨rfl, bb_ HB.out (e_ GE e0_)⟩
 by_cases c24 : a0 = 24
 ·subst c24
  obtain ⟨rfl, rfl, rfl, rfl⟩ : 0 = r1 ∧ (-520) = r2 ∧ 1030 = r3 ∧ 520 = r4 := by simpa [glyph_full.f, fullT] using h
  clear h hr
  have hix : ∀ W, (Instr.index 60 (.agg #[.int .i64 0, .int .i64 (-1430), .int .i64 1020, .int .i64 1430, .int .i64 0, .int .i64 (-720), .int .i64 920, .int .i64 1800, .int .i64 0, .int .i64 (-1400), .int .i64 700, .int .i64 1400, .int .i64 0, .int .i64 (-520), .int .i64 1030, .int .i64 520, .int .i64 0, .int .i64 (-720), .int .i64 1660, .int .i64 1800]) (.int .i64 3)).run Tryd.prog W = .ok (.agg #[.int .i64 0, .int .i64 (-520), .int .i64 1030, .int .i64 520]) W := fun W => by kernel_rfl
  go_enter Tryd.func19, Tryd.ntmps19
  go_wp2_with (first | ((with_reducible refine gate_dst (N := 2) rfl ?_); refine box_event ?hg (N := 2) ?hd (cs := #[.int .i64 0, .int .i64 0, .int .i64 0, .int .i64 0]) (t := 30) ?hr ?_; (case hd => rfl); (case hg => rfl); (case hr => first | (go_simp; done) | (go_simp; rfl)); intro gb hg w4 hbox hb; have BK := sd_ hbox; have GE := gw_ HB e0_ hg; replace HB := hb_ HB e0_ hb; clear hb hbox hg; have z0 := zc_ BK 0 rfl; have z1 := zc_ BK 1 rfl; have z2 := zc_ BK 2 rfl; have z3 := zc_ BK 3 rfl; have f0 := kf_ BK.out 0; have f1 := kf_ BK.out 1; have f2 := kf_ BK.out 2; have f3 := kf_ BK.out 3) | (go_at_call 14; refine (glyph_rowOf.calls 40 24 4 3 _ (by decide +kernel)).mono ?_; rintro e w5 ⟨rfl, hd⟩; have hb := Drawn0.below hd; clear hd; replace BK := kb_ BK hb; replace HB := hb_ HB (e_ GE e0_) hb; clear hb; have z0 := zc_ BK 0 rfl; have z1 := zc_ BK 1 rfl; have z2 := zc_ BK 2 rfl; have z3 := zc_ BK 3 rfl; have f0 := kf_ BK.out 0; have f1 := kf_ BK.out 1; have f2 := kf_ BK.out 2; have f3 := kf_ BK.out 3) | (go_at_call 26; refine (glyph_from.calls _ _ _ _ _ _ _ _ rfl).mono ?_; rintro e w5 ⟨rfl, hb⟩; replace BK := kb_ BK hb; replace HB := hb_ HB (e_ GE e0_) hb; clear hb; have z0 := zc_ BK 0 rfl; have z1 := zc_ BK 1 rfl; have z2 := zc_ BK 2 rfl; have z3 := zc_ BK 3 rfl; have f0 := kf_ BK.out 0; have f1 := kf_ BK.out 1; have f2 := kf_ BK.out 2; have f3 := kf_ BK.out 3))
  refine bodyPost_ret (results_cell_row rfl _ _ gb 30 #[.int .i64 0, .int .i64 (-520), .int .i64 1030, .int .i64 520] (0, 0) _ rfl (by refine blk_put (cs := #[.int .i64 0, .int .i64 (-520), .int .i64 1030, .int .i64 0]) ?_ 3 _ rfl; refine blk_put (cs := #[.int .i64 0, .int .i64 (-520), .int .i64 0, .int .i64 0]) ?_ 2 _ rfl; refine blk_put (cs := #[.int .i64 0, .int .i64 0, .int .i64 0, .int .i64 0]) ?_ 1 _ rfl; refine blk_put (cs := #[.int .i64 0, .int .i64 0, .int .i64 0, .int .i64 0]) ?_ 0 _ rfl; exact kk_ BK.out) Tryd.underlying30 rfl (by kernel_rfl)) rfl ?_
  exact ⟨rfl, bb_ HB.out (e_ GE e0_)⟩
 by_cases c25 : a0 = 25
 ·subst c25
  obtain ⟨rfl, rfl, rfl, rfl⟩ : 0 = r1 ∧ (-720) = r2 ∧ 1660 = r3 ∧ 1800 = r4 := by simpa [glyph_full.f, fullT] using h
  clear h hr
  have hix : ∀ W, (Instr.index 60 (.agg #[.int .i64 0, .int .i64 (-1430), .int .i64 1020, .int .i64 1430, .int .i64 0, .int .i64 (-720), .int .i64 920, .int .i64 1800, .int .i64 0, .int .i64 (-1400), .int .i64 700, .int .i64 1400, .int .i64 0, .int .i64 (-520), .int .i64 1030, .int .i64 520, .int .i64 0, .int .i64 (-720), .int .i64 1660, .int .i64 1800]) (.int .i64 4)).run Tryd.prog W = .ok (.agg #[.int .i64 0, .int .i64 (-720), .int .i64 1660, .int .i64 1800]) W := fun W => by kernel_rfl
  go_enter Tryd.func19, Tryd.ntmps19
  go_wp2_with (first | ((with_reducible refine gate_dst (N := 2) rfl ?_); refine box_event ?hg (N := 2) ?hd (cs := #[.int .i64 0, .int .i64 0, .int .i64 0, .int .i64 0]) (t := 30) ?hr ?_; (case hd => rfl); (case hg => rfl); (case hr => first | (go_simp; done) | (go_simp; rfl)); intro gb hg w4 hbox hb; have BK := sd_ hbox; have GE := gw_ HB e0_ hg; replace HB := hb_ HB e0_ hb; clear hb hbox hg; have z0 := zc_ BK 0 rfl; have z1 := zc_ BK 1 rfl; have z2 := zc_ BK 2 rfl; have z3 := zc_ BK 3 rfl; have f0 := kf_ BK.out 0; have f1 := kf_ BK.out 1; have f2 := kf_ BK.out 2; have f3 := kf_ BK.out 3) | (go_at_call 14; refine (glyph_rowOf.calls 40 25 4 4 _ (by decide +kernel)).mono ?_; rintro e w5 ⟨rfl, hd⟩; have hb := Drawn0.below hd; clear hd; replace BK := kb_ BK hb; replace HB := hb_ HB (e_ GE e0_) hb; clear hb; have z0 := zc_ BK 0 rfl; have z1 := zc_ BK 1 rfl; have z2 := zc_ BK 2 rfl; have z3 := zc_ BK 3 rfl; have f0 := kf_ BK.out 0; have f1 := kf_ BK.out 1; have f2 := kf_ BK.out 2; have f3 := kf_ BK.out 3) | (go_at_call 26; refine (glyph_from.calls _ _ _ _ _ _ _ _ rfl).mono ?_; rintro e w5 ⟨rfl, hb⟩; replace BK := kb_ BK hb; replace HB := hb_ HB (e_ GE e0_) hb; clear hb; have z0 := zc_ BK 0 rfl; have z1 := zc_ BK 1 rfl; have z2 := zc_ BK 2 rfl; have z3 := zc_ BK 3 rfl; have f0 := kf_ BK.out 0; have f1 := kf_ BK.out 1; have f2 := kf_ BK.out 2; have f3 := kf_ BK.out 3))
  refine bodyPost_ret (results_cell_row rfl _ _ gb 30 #[.int .i64 0, .int .i64 (-720), .int .i64 1660, .int .i64 1800] (0, 0) _ rfl (by refine blk_put (cs := #[.int .i64 0, .int .i64 (-720), .int .i64 1660, .int .i64 0]) ?_ 3 _ rfl; refine blk_put (cs := #[.int .i64 0, .int .i64 (-720), .int .i64 0, .int .i64 0]) ?_ 2 _ rfl; refine blk_put (cs := #[.int .i64 0, .int .i64 0, .int .i64 0, .int .i64 0]) ?_ 1 _ rfl; refine blk_put (cs := #[.int .i64 0, .int .i64 0, .int .i64 0, .int .i64 0]) ?_ 0 _ rfl; exact kk_ BK.out) Tryd.underlying30 rfl (by kernel_rfl)) rfl ?_
  exact ⟨rfl, bb_ HB.out (e_ GE e0_)⟩
 exact absurd hr (by omega)
set_option maxHeartbeats 16000000 in
set_option maxRecDepth 100000 in
theorem glyph_full.row5 (a0 : Int) (r1 r2 r3 r4 : Int) (w : World) (hr : 26 ≤ a0 ∧ a0 ≤ 29) (h : glyph_full.f a0 = some (r1, r2, r3, r4)) :
  Calls Tryd.prog 19 #[.int .i64 a0] w fun e w' => e = .returned (.agg #[.int .i64 r1, .int .i64 r2, .int .i64 r3, .int .i64 r4]) ∧ Below w.heap.size w w' := by
 have hu := Tryd.underlying30
 have HB := sd_ (Below.refl w.heap.size w)
 by_cases c26 : a0 = 26
 ·subst c26
  obtain ⟨rfl, rfl, rfl, rfl⟩ : 0 = r1 ∧ (-2700) = r2 ∧ 2750 = r3 ∧ 4500 = r4 := by simpa [glyph_full.f, fullT] using h
  clear h hr
  have hix : ∀ W, (Instr.index 61 (.agg #[.int .i64 0, .int .i64 (-2700), .int .i64 2750, .int .i64 4500, .int .i64 0, .int .i64 (-2600), .int .i64 2800, .int .i64 1100, .int .i64 0, .int .i64 (-2100), .int .i64 2860, .int .i64 2100, .int .i64 0, .int .i64 (-2100), .int .i64 2860, .int .i64 2100]) (.int .i64 0)).run Tryd.prog W = .ok (.agg #[.int .i64 0, .int .i64 (-2700), .int .i64 2750, .int .i64 4500]) W := fun W => by kernel_rfl
  go_enter Tryd.func19, Tryd.ntmps19
  go_wp2_with (first | ((with_reducible refine gate_dst (N := 2) rfl ?_); refine box_event ?hg (N := 2) ?hd (cs := #[.int .i64 0, .int .i64 0, .int .i64 0, .int .i64 0]) (t := 30) ?hr ?_; (case hd => rfl); (case hg => rfl); (case hr => first | (go_simp; done) | (go_simp; rfl)); intro gb hg w4 hbox hb; have BK := sd_ hbox; have GE := gw_ HB e0_ hg; replace HB := hb_ HB e0_ hb; clear hb hbox hg; have z0 := zc_ BK 0 rfl; have z1 := zc_ BK 1 rfl; have z2 := zc_ BK 2 rfl; have z3 := zc_ BK 3 rfl; have f0 := kf_ BK.out 0; have f1 := kf_ BK.out 1; have f2 := kf_ BK.out 2; have f3 := kf_ BK.out 3) | (go_at_call 14; refine (glyph_rowOf.calls 40 26 5 0 _ (by decide +kernel)).mono ?_; rintro e w5 ⟨rfl, hd⟩; have hb := Drawn0.below hd; clear hd; replace BK := kb_ BK hb; replace HB := hb_ HB (e_ GE e0_) hb; clear hb; have z0 := zc_ BK 0 rfl; have z1 := zc_ BK 1 rfl; have z2 := zc_ BK 2 rfl; have z3 := zc_ BK 3 rfl; have f0 := kf_ BK.out 0; have f1 := kf_ BK.out 1; have f2 := kf_ BK.out 2; have f3 := kf_ BK.out 3) | (go_at_call 26; refine (glyph_from.calls _ _ _ _ _ _ _ _ rfl).mono ?_; rintro e w5 ⟨rfl, hb⟩; replace BK := kb_ BK hb; replace HB := hb_ HB (e_ GE e0_) hb; clear hb; have z0 := zc_ BK 0 rfl; have z1 := zc_ BK 1 rfl; have z2 := zc_ BK 2 rfl; have z3 := zc_ BK 3 rfl; have f0 := kf_ BK.out 0; have f1 := kf_ BK.out 1; have f2 := kf_ BK.out 2; have f3 := kf_ BK.out 3))
  refine bodyPost_ret (results_cell_row rfl _ _ gb 30 #[.int .i64 0, .int .i64 (-2700), .int .i64 2750, .int .i64 4500] (0, 0) _ rfl (by refine blk_put (cs := #[.int .i64 0, .int .i64 (-2700), .int .i64 2750, .int .i64 0]) ?_ 3 _ rfl; refine blk_put (cs := #[.int .i64 0, .int .i64 (-2700), .int .i64 0, .int .i64 0]) ?_ 2 _ rfl; refine blk_put (cs := #[.int .i64 0, .int .i64 0, .int .i64 0, .int .i64 0]) ?_ 1 _ rfl; refine blk_put (cs := #[.int .i64 0, .int .i64 0, .int .i64 0, .int .i64 0]) ?_ 0 _ rfl; exact kk_ BK.out) Tryd.underlying30 rfl (by kernel_rfl)) rfl ?_
  exact ⟨rfl, bb_ HB.out (e_ GE e0_)⟩
 by_cases c27 : a0 = 27
 ·subst c27
  obtain ⟨rfl, rfl, rfl, rfl⟩ : 0 = r1 ∧ (-2600) = r2 ∧ 2800 = r3 ∧ 1100 = r4 := by simpa [glyph_full.f, fullT] using h
  clear h hr
  have hix : ∀ W, (Instr.index 61 (.agg #[.int .i64 0, .int .i64 (-2700), .int .i64 2750, .int .i64 4500, .int .i64 0, .int .i64 (-2600), .int .i64 2800, .int .i64 1100, .int .i64 0, .int .i64 (-2100), .int .i64 2860, .int .i64 2100, .int .i64 0, .int .i64 (-2100), .int .i64 2860, .int .i64 2100]) (.int .i64 1)).run Tryd.prog W = .ok (.agg #[.int .i64 0, .int .i64 (-2600), .int .i64 2800, .int .i64 1100]) W := fun W => by kernel_rfl
  go_enter Tryd.func19, Tryd.ntmps19
  go_wp2_with (first | ((with_reducible refine gate_dst (N := 2) rfl ?_); refine box_event ?hg (N := 2) ?hd (cs := #[.int .i64 0, .int .i64 0, .int .i64 0, .int .i64 0]) (t := 30) ?hr ?_; (case hd => rfl); (case hg => rfl); (case hr => first | (go_simp; done) | (go_simp; rfl)); intro gb hg w4 hbox hb; have BK := sd_ hbox; have GE := gw_ HB e0_ hg; replace HB := hb_ HB e0_ hb; clear hb hbox hg; have z0 := zc_ BK 0 rfl; have z1 := zc_ BK 1 rfl; have z2 := zc_ BK 2 rfl; have z3 := zc_ BK 3 rfl; have f0 := kf_ BK.out 0; have f1 := kf_ BK.out 1; have f2 := kf_ BK.out 2; have f3 := kf_ BK.out 3) | (go_at_call 14; refine (glyph_rowOf.calls 40 27 5 1 _ (by decide +kernel)).mono ?_; rintro e w5 ⟨rfl, hd⟩; have hb := Drawn0.below hd; clear hd; replace BK := kb_ BK hb; replace HB := hb_ HB (e_ GE e0_) hb; clear hb; have z0 := zc_ BK 0 rfl; have z1 := zc_ BK 1 rfl; have z2 := zc_ BK 2 rfl; have z3 := zc_ BK 3 rfl; have f0 := kf_ BK.out 0; have f1 := kf_ BK.out 1; have f2 := kf_ BK.out 2; have f3 := kf_ BK.out 3) | (go_at_call 26; refine (glyph_from.calls _ _ _ _ _ _ _ _ rfl).mono ?_; rintro e w5 ⟨rfl, hb⟩; replace BK := kb_ BK hb; replace HB := hb_ HB (e_ GE e0_) hb; clear hb; have z0 := zc_ BK 0 rfl; have z1 := zc_ BK 1 rfl; have z2 := zc_ BK 2 rfl; have z3 := zc_ BK 3 rfl; have f0 := kf_ BK.out 0; have f1 := kf_ BK.out 1; have f2 := kf_ BK.out 2; have f3 := kf_ BK.out 3))
  refine bodyPost_ret (results_cell_row rfl _ _ gb 30 #[.int .i64 0, .int .i64 (-2600), .int .i64 2800, .int .i64 1100] (0, 0) _ rfl (by refine blk_put (cs := #[.int .i64 0, .int .i64 (-2600), .int .i64 2800, .int .i64 0]) ?_ 3 _ rfl; refine blk_put (cs := #[.int .i64 0, .int .i64 (-2600), .int .i64 0, .int .i64 0]) ?_ 2 _ rfl; refine blk_put (cs := #[.int .i64 0, .int .i64 0, .int .i64 0, .int .i64 0]) ?_ 1 _ rfl; refine blk_put (cs := #[.int .i64 0, .int .i64 0, .int .i64 0, .int .i64 0]) ?_ 0 _ rfl; exact kk_ BK.out) Tryd.underlying30 rfl (by kernel_rfl)) rfl ?_
  exact ⟨rfl, bb_ HB.out (e_ GE e0_)⟩
 by_cases c28 : a0 = 28
 ·subst c28
  obtain ⟨rfl, rfl, rfl, rfl⟩ : 0 = r1 ∧ (-2100) = r2 ∧ 2860 = r3 ∧ 2100 = r4 := by simpa [glyph_full.f, fullT] using h
  clear h hr
  have hix : ∀ W, (Instr.index 61 (.agg #[.int .i64 0, .int .i64 (-2700), .int .i64 2750, .int .i64 4500, .int .i64 0, .int .i64 (-2600), .int .i64 2800, .int .i64 1100, .int .i64 0, .int .i64 (-2100), .int .i64 2860, .int .i64 2100, .int .i64 0, .int .i64 (-2100), .int .i64 2860, .int .i64 2100]) (.int .i64 2)).run Tryd.prog W = .ok (.agg #[.int .i64 0, .int .i64 (-2100), .int .i64 2860, .int .i64 2100]) W := fun W => by kernel_rfl
  go_enter Tryd.func19, Tryd.ntmps19
  go_wp2_with (first | ((with_reducible refine gate_dst (N := 2) rfl ?_); refine box_event ?hg (N := 2) ?hd (cs := #[.int .i64 0, .int .i64 0, .int .i64 0, .int .i64 0]) (t := 30) ?hr ?_; (case hd => rfl); (case hg => rfl); (case hr => first | (go_simp; done) | (go_simp; rfl)); intro gb hg w4 hbox hb; have BK := sd_ hbox; have GE := gw_ HB e0_ hg; replace HB := hb_ HB e0_ hb; clear hb hbox hg; have z0 := zc_ BK 0 rfl; have z1 := zc_ BK 1 rfl; have z2 := zc_ BK 2 rfl; have z3 := zc_ BK 3 rfl; have f0 := kf_ BK.out 0; have f1 := kf_ BK.out 1; have f2 := kf_ BK.out 2; have f3 := kf_ BK.out 3) | (go_at_call 14; refine (glyph_rowOf.calls 40 28 5 2 _ (by decide +kernel)).mono ?_; rintro e w5 ⟨rfl, hd⟩; have hb := Drawn0.below hd; clear hd; replace BK := kb_ BK hb; replace HB := hb_ HB (e_ GE e0_) hb; clear hb; have z0 := zc_ BK 0 rfl; have z1 := zc_ BK 1 rfl; have z2 := zc_ BK 2 rfl; have z3 := zc_ BK 3 rfl; have f0 := kf_ BK.out 0; have f1 := kf_ BK.out 1; have f2 := kf_ BK.out 2; have f3 := kf_ BK.out 3) | (go_at_call 26; refine (glyph_from.calls _ _ _ _ _ _ _ _ rfl).mono ?_; rintro e w5 ⟨rfl, hb⟩; replace BK := kb_ BK hb; replace HB := hb_ HB (e_ GE e0_) hb; clear hb; have z0 := zc_ BK 0 rfl; have z1 := zc_ BK 1 rfl; have z2 := zc_ BK 2 rfl; have z3 := zc_ BK 3 rfl; have f0 := kf_ BK.out 0; have f1 := kf_ BK.out 1; have f2 := kf_ BK.out 2; have f3 := kf_ BK.out 3))
  refine bodyPost_ret (results_cell_row rfl _ _ gb 30 #[.int .i64 0, .int .i64 (-2100), .int .i64 2860, .int .i64 2100] (0, 0) _ rfl (by refine blk_put (cs := #[.int .i64 0, .int .i64 (-2100), .int .i64 2860, .int .i64 0]) ?_ 3 _ rfl; refine blk_put (cs := #[.int .i64 0, .int .i64 (-2100), .int .i64 0, .int .i64 0]) ?_ 2 _ rfl; refine blk_put (cs := #[.int .i64 0, .int .i64 0, .int .i64 0, .int .i64 0]) ?_ 1 _ rfl; refine blk_put (cs := #[.int .i64 0, .int .i64 0, .int .i64 0, .int .i64 0]) ?_ 0 _ rfl; exact kk_ BK.out) Tryd.underlying30 rfl (by kernel_rfl)) rfl ?_
  exact ⟨rfl, bb_ HB.out (e_ GE e0_)⟩
 by_cases c29 : a0 = 29
 ·subst c29
  obtain ⟨rfl, rfl, rfl, rfl⟩ : 0 = r1 ∧ (-2100) = r2 ∧ 2860 = r3 ∧ 2100 = r4 := by simpa [glyph_full.f, fullT] using h
  clear h hr
  have hix : ∀ W, (Instr.index 61 (.agg #[.int .i64 0, .int .i64 (-2700), .int .i64 2750, .int .i64 4500, .int .i64 0, .int .i64 (-2600), .int .i64 2800, .int .i64 1100, .int .i64 0, .int .i64 (-2100), .int .i64 2860, .int .i64 2100, .int .i64 0, .int .i64 (-2100), .int .i64 2860, .int .i64 2100]) (.int .i64 3)).run Tryd.prog W = .ok (.agg #[.int .i64 0, .int .i64 (-2100), .int .i64 2860, .int .i64 2100]) W := fun W => by kernel_rfl
  go_enter Tryd.func19, Tryd.ntmps19
  go_wp2_with (first | ((with_reducible refine gate_dst (N := 2) rfl ?_); refine box_event ?hg (N := 2) ?hd (cs := #[.int .i64 0, .int .i64 0, .int .i64 0, .int .i64 0]) (t := 30) ?hr ?_; (case hd => rfl); (case hg => rfl); (case hr => first | (go_simp; done) | (go_simp; rfl)); intro gb hg w4 hbox hb; have BK := sd_ hbox; have GE := gw_ HB e0_ hg; replace HB := hb_ HB e0_ hb; clear hb hbox hg; have z0 := zc_ BK 0 rfl; have z1 := zc_ BK 1 rfl; have z2 := zc_ BK 2 rfl; have z3 := zc_ BK 3 rfl; have f0 := kf_ BK.out 0; have f1 := kf_ BK.out 1; have f2 := kf_ BK.out 2; have f3 := kf_ BK.out 3) | (go_at_call 14; refine (glyph_rowOf.calls 40 29 5 3 _ (by decide +kernel)).mono ?_; rintro e w5 ⟨rfl, hd⟩; have hb := Drawn0.below hd; clear hd; replace BK := kb_ BK hb; replace HB := hb_ HB (e_ GE e0_) hb; clear hb; have z0 := zc_ BK 0 rfl; have z1 := zc_ BK 1 rfl; have z2 := zc_ BK 2 rfl; have z3 := zc_ BK 3 rfl; have f0 := kf_ BK.out 0; have f1 := kf_ BK.out 1; have f2 := kf_ BK.out 2; have f3 := kf_ BK.out 3) | (go_at_call 26; refine (glyph_from.calls _ _ _ _ _ _ _ _ rfl).mono ?_; rintro e w5 ⟨rfl, hb⟩; replace BK := kb_ BK hb; replace HB := hb_ HB (e_ GE e0_) hb; clear hb; have z0 := zc_ BK 0 rfl; have z1 := zc_ BK 1 rfl; have z2 := zc_ BK 2 rfl; have z3 := zc_ BK 3 rfl; have f0 := kf_ BK.out 0; have f1 := kf_ BK.out 1; have f2 := kf_ BK.out 2; have f3 := kf_ BK.out 3))
  refine bodyPost_ret (results_cell_row rfl _ _ gb 30 #[.int .i64 0, .int .i64 (-2100), .int .i64 2860, .int .i64 2100] (0, 0) _ rfl (by refine blk_put (cs := #[.int .i64 0, .int .i64 (-2100), .int .i64 2860, .int .i64 0]) ?_ 3 _ rfl; refine blk_put (cs := #[.int .i64 0, .int .i64 (-2100), .int .i64 0, .int .i64 0]) ?_ 2 _ rfl; refine blk_put (cs := #[.int .i64 0, .int .i64 0, .int .i64 0, .int .i64 0]) ?_ 1 _ rfl; refine blk_put (cs := #[.int .i64 0, .int .i64 0, .int .i64 0, .int .i64 0]) ?_ 0 _ rfl; exact kk_ BK.out) Tryd.underlying30 rfl (by kernel_rfl)) rfl ?_
  exact ⟨rfl, bb_ HB.out (e_ GE e0_)⟩
 exact absurd hr (by omega)
set_option maxHeartbeats 16000000 in
set_option maxRecDepth 100000 in
theorem glyph_full.row6 (a0 : Int) (r1 r2 r3 r4 : Int) (w : World) (hr : 30 ≤ a0 ∧ a0 ≤ 39) (h : glyph_full.f a0 = some (r1, r2, r3, r4)) :
  Calls Tryd.prog 19 #[.int .i64 a0] w fun e w' => e = .returned (.agg #[.int .i64 r1, .int .i64 r2, .int .i64 r3, .int .i64 r4]) ∧ Below w.heap.size w w' := by
 have hu := Tryd.underlying30
 have HB := sd_ (Below.refl w.heap.size w)
 by_cases c30 : a0 = 30
 ·subst c30
  obtain ⟨rfl, rfl, rfl, rfl⟩ : 0 = r1 ∧ (-1024) = r2 ∧ 1740 = r3 ∧ 1024 = r4 := by simpa [glyph_full.f, fullT] using h
  clear h hr
  go_enter Tryd.func19, Tryd.ntmps19
  go_wp2_with (first | ((with_reducible refine gate_dst (N := 2) rfl ?_); refine box_event ?hg (N := 2) ?hd (cs := #[.int .i64 0, .int .i64 0, .int .i64 0, .int .i64 0]) (t := 30) ?hr ?_; (case hd => rfl); (case hg => rfl); (case hr => first | (go_simp; done) | (go_simp; rfl)); intro gb hg w4 hbox hb; have BK := sd_ hbox; have GE := gw_ HB e0_ hg; replace HB := hb_ HB e0_ hb; clear hb hbox hg; have z0 := zc_ BK 0 rfl; have z1 := zc_ BK 1 rfl; have z2 := zc_ BK 2 rfl; have z3 := zc_ BK 3 rfl; have f0 := kf_ BK.out 0; have f1 := kf_ BK.out 1; have f2 := kf_ BK.out 2; have f3 := kf_ BK.out 3) | (go_at_call 14; refine (glyph_rowOf.calls 40 30 6 0 _ (by decide +kernel)).mono ?_; rintro e w5 ⟨rfl, hd⟩; have hb := Drawn0.below hd; clear hd; replace BK := kb_ BK hb; replace HB := hb_ HB (e_ GE e0_) hb; clear hb; have z0 := zc_ BK 0 rfl; have z1 := zc_ BK 1 rfl; have z2 := zc_ BK 2 rfl; have z3 := zc_ BK 3 rfl; have f0 := kf_ BK.out 0; have f1 := kf_ BK.out 1; have f2 := kf_ BK.out 2; have f3 := kf_ BK.out 3) | (go_at_call 26; refine (glyph_from.calls _ _ _ _ _ _ _ _ rfl).mono ?_; rintro e w5 ⟨rfl, hb⟩; replace BK := kb_ BK hb; replace HB := hb_ HB (e_ GE e0_) hb; clear hb; have z0 := zc_ BK 0 rfl; have z1 := zc_ BK 1 rfl; have z2 := zc_ BK 2 rfl; have z3 := zc_ BK 3 rfl; have f0 := kf_ BK.out 0; have f1 := kf_ BK.out 1; have f2 := kf_ BK.out 2; have f3 := kf_ BK.out 3))
  refine bodyPost_ret (results_cell_row rfl _ _ gb 30 #[.int .i64 0, .int .i64 (-1024), .int .i64 1740, .int .i64 1024] (0, 0) _ rfl (by refine blk_put (cs := #[.int .i64 0, .int .i64 (-1024), .int .i64 1740, .int .i64 0]) ?_ 3 _ rfl; refine blk_put (cs := #[.int .i64 0, .int .i64 (-1024), .int .i64 0, .int .i64 0]) ?_ 2 _ rfl; refine blk_put (cs := #[.int .i64 0, .int .i64 0, .int .i64 0, .int .i64 0]) ?_ 1 _ rfl; refine blk_put (cs := #[.int .i64 0, .int .i64 0, .int .i64 0, .int .i64 0]) ?_ 0 _ rfl; exact kk_ BK.out) Tryd.underlying30 rfl (by kernel_rfl)) rfl ?_
  exact ⟨rfl, bb_ HB.out (e_ GE e0_)⟩
 by_cases c31 : a0 = 31
 ·subst c31
  obtain ⟨rfl, rfl, rfl, rfl⟩ : 0 = r1 ∧ (-1024) = r2 ∧ 1300 = r3 ∧ 1024 = r4 := by simpa [glyph_full.f, fullT] using h
  clear h hr
  go_enter Tryd.func19, Tryd.ntmps19
  go_wp2_with (first | ((with_reducible refine gate_dst (N := 2) rfl ?_); refine box_event ?hg (N := 2) ?hd (cs := #[.int .i64 0, .int .i64 0, .int .i64 0, .int .i64 0]) (t := 30) ?hr ?_; (case hd => rfl); (case hg => rfl); (case hr => first | (go_simp; done) | (go_simp; rfl)); intro gb hg w4 hbox hb; have BK := sd_ hbox; have GE := gw_ HB e0_ hg; replace HB := hb_ HB e0_ hb; clear hb hbox hg; have z0 := zc_ BK 0 rfl; have z1 := zc_ BK 1 rfl; have z2 := zc_ BK 2 rfl; have z3 := zc_ BK 3 rfl; have f0 := kf_ BK.out 0; have f1 := kf_ BK.out 1; have f2 := kf_ BK.out 2; have f3 := kf_ BK.out 3) | (go_at_call 14; refine (glyph_rowOf.calls 40 31 6 1 _ (by decide +kernel)).mono ?_; rintro e w5 ⟨rfl, hd⟩; have hb := Drawn0.below hd; clear hd; replace BK := kb_ BK hb; replace HB := hb_ HB (e_ GE e0_) hb; clear hb; have z0 := zc_ BK 0 rfl; have z1 := zc_ BK 1 rfl; have z2 := zc_ BK 2 rfl; have z3 := zc_ BK 3 rfl; have f0 := kf_ BK.out 0; have f1 := kf_ BK.out 1; have f2 := kf_ BK.out 2; have f3 := kf_ BK.out 3) | (go_at_call 26; refine (glyph_from.calls _ _ _ _ _ _ _ _ rfl).mono ?_; rintro e w5 ⟨rfl, hb⟩; replace BK := kb_ BK hb; replace HB := hb_ HB (e_ GE e0_) hb; clear hb; have z0 := zc_ BK 0 rfl; have z1 := zc_ BK 1 rfl; have z2 := zc_ BK 2 rfl; have z3 := zc_ BK 3 rfl; have f0 := kf_ BK.out 0; have f1 := kf_ BK.out 1; have f2 := kf_ BK.out 2; have f3 := kf_ BK.out 3))
  refine bodyPost_ret (results_cell_row rfl _ _ gb 30 #[.int .i64 0, .int .i64 (-1024), .int .i64 1300, .int .i64 1024] (0, 0) _ rfl (by refine blk_put (cs := #[.int .i64 0, .int .i64 (-1024), .int .i64 1300, .int .i64 0]) ?_ 3 _ rfl; refine blk_put (cs := #[.int .i64 0, .int .i64 (-1024), .int .i64 0, .int .i64 0]) ?_ 2 _ rfl; refine blk_put (cs := #[.int .i64 0, .int .i64 0, .int .i64 0, .int .i64 0]) ?_ 1 _ rfl; refine blk_put (cs := #[.int .i64 0, .int .i64 0, .int .i64 0, .int .i64 0]) ?_ 0 _ rfl; exact kk_ BK.out) Tryd.underlying30 rfl (by kernel_rfl)) rfl ?_
  exact ⟨rfl, bb_ HB.out (e_ GE e0_)⟩
 by_cases c32 : a0 = 32
 ·subst c32
  obtain ⟨rfl, rfl, rfl, rfl⟩ : 0 = r1 ∧ (-1024) = r2 ∧ 1740 = r3 ∧ 1024 = r4 := by simpa [glyph_full.f, fullT] using h
  clear h hr
  go_enter Tryd.func19, Tryd.ntmps19
  go_wp2_with (first | ((with_reducible refine gate_dst (N := 2) rfl ?_); refine box_event ?hg (N := 2) ?hd (cs := #[.int .i64 0, .int .i64 0, .int .i64 0, .int .i64 0]) (t := 30) ?hr ?_; (case hd => rfl); (case hg => rfl); (case hr => first | (go_simp; done) | (go_simp; rfl)); intro gb hg w4 hbox hb; have BK := sd_ hbox; have GE := gw_ HB e0_ hg; replace HB := hb_ HB e0_ hb; clear hb hbox hg; have z0 := zc_ BK 0 rfl; have z1 := zc_ BK 1 rfl; have z2 := zc_ BK 2 rfl; have z3 := zc_ BK 3 rfl; have f0 := kf_ BK.out 0; have f1 := kf_ BK.out 1; have f2 := kf_ BK.out 2; have f3 := kf_ BK.out 3) | (go_at_call 14; refine (glyph_rowOf.calls 40 32 6 2 _ (by decide +kernel)).mono ?_; rintro e w5 ⟨rfl, hd⟩; have hb := Drawn0.below hd; clear hd; replace BK := kb_ BK hb; replace HB := hb_ HB (e_ GE e0_) hb; clear hb; have z0 := zc_ BK 0 rfl; have z1 := zc_ BK 1 rfl; have z2 := zc_ BK 2 rfl; have z3 := zc_ BK 3 rfl; have f0 := kf_ BK.out 0; have f1 := kf_ BK.out 1; have f2 := kf_ BK.out 2; have f3 := kf_ BK.out 3) | (go_at_call 26; refine (glyph_from.calls _ _ _ _ _ _ _ _ rfl).mono ?_; rintro e w5 ⟨rfl, hb⟩; replace BK := kb_ BK hb; replace HB := hb_ HB (e_ GE e0_) hb; clear hb; have z0 := zc_ BK 0 rfl; have z1 := zc_ BK 1 rfl; have z2 := zc_ BK 2 rfl; have z3 := zc_ BK 3 rfl; have f0 := kf_ BK.out 0; have f1 := kf_ BK.out 1; have f2 := kf_ BK.out 2; have f3 := kf_ BK.out 3))
  refine bodyPost_ret (results_cell_row rfl _ _ gb 30 #[.int .i64 0, .int .i64 (-1024), .int .i64 1740, .int .i64 1024] (0, 0) _ rfl (by refine blk_put (cs := #[.int .i64 0, .int .i64 (-1024), .int .i64 1740, .int .i64 0]) ?_ 3 _ rfl; refine blk_put (cs := #[.int .i64 0, .int .i64 (-1024), .int .i64 0, .int .i64 0]) ?_ 2 _ rfl; refine blk_put (cs := #[.int .i64 0, .int .i64 0, .int .i64 0, .int .i64 0]) ?_ 1 _ rfl; refine blk_put (cs := #[.int .i64 0, .int .i64 0, .int .i64 0, .int .i64 0]) ?_ 0 _ rfl; exact kk_ BK.out) Tryd.underlying30 rfl (by kernel_rfl)) rfl ?_
  exact ⟨rfl, bb_ HB.out (e_ GE e0_)⟩
 by_cases c33 : a0 = 33
 ·subst c33
  obtain ⟨rfl, rfl, rfl, rfl⟩ : 0 = r1 ∧ (-1024) = r2 ∧ 1740 = r3 ∧ 1024 = r4 := by simpa [glyph_full.f, fullT] using h
  clear h hr
  go_enter Tryd.func19, Tryd.ntmps19
  go_wp2_with (first | ((with_reducible refine gate_dst (N := 2) rfl ?_); refine box_event ?hg (N := 2) ?hd (cs := #[.int .i64 0, .int .i64 0, .int .i64 0, .int .i64 0]) (t := 30) ?hr ?_; (case hd => rfl); (case hg => rfl); (case hr => first | (go_simp; done) | (go_simp; rfl)); intro gb hg w4 hbox hb; have BK := sd_ hbox; have GE := gw_ HB e0_ hg; replace HB := hb_ HB e0_ hb; clear hb hbox hg; have z0 := zc_ BK 0 rfl; have z1 := zc_ BK 1 rfl; have z2 := zc_ BK 2 rfl; have z3 := zc_ BK 3 rfl; have f0 := kf_ BK.out 0; have f1 := kf_ BK.out 1; have f2 := kf_ BK.out 2; have f3 := kf_ BK.out 3) | (go_at_call 14; refine (glyph_rowOf.calls 40 33 6 3 _ (by decide +kernel)).mono ?_; rintro e w5 ⟨rfl, hd⟩; have hb := Drawn0.below hd; clear hd; replace BK := kb_ BK hb; replace HB := hb_ HB (e_ GE e0_) hb; clear hb; have z0 := zc_ BK 0 rfl; have z1 := zc_ BK 1 rfl; have z2 := zc_ BK 2 rfl; have z3 := zc_ BK 3 rfl; have f0 := kf_ BK.out 0; have f1 := kf_ BK.out 1; have f2 := kf_ BK.out 2; have f3 := kf_ BK.out 3) | (go_at_call 26; refine (glyph_from.calls _ _ _ _ _ _ _ _ rfl).mono ?_; rintro e w5 ⟨rfl, hb⟩; replace BK := kb_ BK hb; replace HB := hb_ HB (e_ GE e0_) hb; clear hb; have z0 := zc_ BK 0 rfl; have z1 := zc_ BK 1 rfl; have z2 := zc_ BK 2 rfl; have z3 := zc_ BK 3 rfl; have f0 := kf_ BK.out 0; have f1 := kf_ BK.out 1; have f2 := kf_ BK.out 2; have f3 := kf_ BK.out 3))
  refine bodyPost_ret (results_cell_row rfl _ _ gb 30 #[.int .i64 0, .int .i64 (-1024), .int .i64 1740, .int .i64 1024] (0, 0) _ rfl (by refine blk_put (cs := #[.int .i64 0, .int .i64 (-1024), .int .i64 1740, .int .i64 0]) ?_ 3 _ rfl; refine blk_put (cs := #[.int .i64 0, .int .i64 (-1024), .int .i64 0, .int .i64 0]) ?_ 2 _ rfl; refine blk_put (cs := #[.int .i64 0, .int .i64 0, .int .i64 0, .int .i64 0]) ?_ 1 _ rfl; refine blk_put (cs := #[.int .i64 0, .int .i64 0, .int .i64 0, .int .i64 0]) ?_ 0 _ rfl; exact kk_ BK.out) Tryd.underlying30 rfl (by kernel_rfl)) rfl ?_
  exact ⟨rfl, bb_ HB.out (e_ GE e0_)⟩
 by_cases c34 : a0 = 34
 ·subst c34
  obtain ⟨rfl, rfl, rfl, rfl⟩ : 0 = r1 ∧ (-1024) = r2 ∧ 1740 = r3 ∧ 1024 = r4 := by simpa [glyph_full.f, fullT] using h
  clear h hr
  go_enter Tryd.func19, Tryd.ntmps19
  go_wp2_with (first | ((with_reducible refine gate_dst (N := 2) rfl ?_); refine box_event ?hg (N := 2) ?hd (cs := #[.int .i64 0, .int .i64 0, .int .i64 0, .int .i64 0]) (t := 30) ?hr ?_; (case hd => rfl); (case hg => rfl); (case hr => first | (go_simp; done) | (go_simp; rfl)); intro gb hg w4 hbox hb; have BK := sd_ hbox; have GE := gw_ HB e0_ hg; replace HB := hb_ HB e0_ hb; clear hb hbox hg; have z0 := zc_ BK 0 rfl; have z1 := zc_ BK 1 rfl; have z2 := zc_ BK 2 rfl; have z3 := zc_ BK 3 rfl; have f0 := kf_ BK.out 0; have f1 := kf_ BK.out 1; have f2 := kf_ BK.out 2; have f3 := kf_ BK.out 3) | (go_at_call 14; refine (glyph_rowOf.calls 40 34 6 4 _ (by decide +kernel)).mono ?_; rintro e w5 ⟨rfl, hd⟩; have hb := Drawn0.below hd; clear hd; replace BK := kb_ BK hb; replace HB := hb_ HB (e_ GE e0_) hb; clear hb; have z0 := zc_ BK 0 rfl; have z1 := zc_ BK 1 rfl; have z2 := zc_ BK 2 rfl; have z3 := zc_ BK 3 rfl; have f0 := kf_ BK.out 0; have f1 := kf_ BK.out 1; have f2 := kf_ BK.out 2; have f3 := kf_ BK.out 3) | (go_at_call 26; refine (glyph_from.calls _ _ _ _ _ _ _ _ rfl).mono ?_; rintro e w5 ⟨rfl, hb⟩; replace BK := kb_ BK hb; replace HB := hb_ HB (e_ GE e0_) hb; clear hb; have z0 := zc_ BK 0 rfl; have z1 := zc_ BK 1 rfl; have z2 := zc_ BK 2 rfl; have z3 := zc_ BK 3 rfl; have f0 := kf_ BK.out 0; have f1 := kf_ BK.out 1; have f2 := kf_ BK.out 2; have f3 := kf_ BK.out 3))
  refine bodyPost_ret (results_cell_row rfl _ _ gb 30 #[.int .i64 0, .int .i64 (-1024), .int .i64 1740, .int .i64 1024] (0, 0) _ rfl (by refine blk_put (cs := #[.int .i64 0, .int .i64 (-1024), .int .i64 1740, .int .i64 0]) ?_ 3 _ rfl; refine blk_put (cs := #[.int .i64 0, .int .i64 (-1024), .int .i64 0, .int .i64 0]) ?_ 2 _ rfl; refine blk_put (cs := #[.int .i64 0, .int .i64 0, .int .i64 0, .int .i64 0]) ?_ 1 _ rfl; refine blk_put (cs := #[.int .i64 0, .int .i64 0, .int .i64 0, .int .i64 0]) ?_ 0 _ rfl; exact kk_ BK.out) Tryd.underlying30 rfl (by kernel_rfl)) rfl ?_
  exact ⟨rfl, bb_ HB.out (e_ GE e0_)⟩
 by_cases c35 : a0 = 35
 ·subst c35
  obtain ⟨rfl, rfl, rfl, rfl⟩ : 0 = r1 ∧ (-1024) = r2 ∧ 1740 = r3 ∧ 1024 = r4 := by simpa [glyph_full.f, fullT] using h
  clear h hr
  go_enter Tryd.func19, Tryd.ntmps19
  go_wp2_with (first | ((with_reducible refine gate_dst (N := 2) rfl ?_); refine box_event ?hg (N := 2) ?hd (cs := #[.int .i64 0, .int .i64 0, .int .i64 0, .int .i64 0]) (t := 30) ?hr ?_; (case hd => rfl); (case hg => rfl); (case hr => first | (go_simp; done) | (go_simp; rfl)); intro gb hg w4 hbox hb; have BK := sd_ hbox; have GE := gw_ HB e0_ hg; replace HB := hb_ HB e0_ hb; clear hb hbox hg; have z0 := zc_ BK 0 rfl; have z1 := zc_ BK 1 rfl; have z2 := zc_ BK 2 rfl; have z3 := zc_ BK 3 rfl; have f0 := kf_ BK.out 0; have f1 := kf_ BK.out 1; have f2 := kf_ BK.out 2; have f3 := kf_ BK.out 3) | (go_at_call 14; refine (glyph_rowOf.calls 40 35 6 5 _ (by decide +kernel)).mono ?_; rintro e w5 ⟨rfl, hd⟩; have hb := Drawn0.below hd; clear hd; replace BK := kb_ BK hb; replace HB := hb_ HB (e_ GE e0_) hb; clear hb; have z0 := zc_ BK 0 rfl; have z1 := zc_ BK 1 rfl; have z2 := zc_ BK 2 rfl; have z3 := zc_ BK 3 rfl; have f0 := kf_ BK.out 0; have f1 := kf_ BK.out 1; have f2 := kf_ BK.out 2; have f3 := kf_ BK.out 3) | (go_at_call 26; refine (glyph_from.calls _ _ _ _ _ _ _ _ rfl).mono ?_; rintro e w5 ⟨rfl, hb⟩; replace BK := kb_ BK hb; replace HB := hb_ HB (e_ GE e0_) hb; clear hb; have z0 := zc_ BK 0 rfl; have z1 := zc_ BK 1 rfl; have z2 := zc_ BK 2 rfl; have z3 := zc_ BK 3 rfl; have f0 := kf_ BK.out 0; have f1 := kf_ BK.out 1; have f2 := kf_ BK.out 2; have f3 := kf_ BK.out 3))
  refine bodyPost_ret (results_cell_row rfl _ _ gb 30 #[.int .i64 0, .int .i64 (-1024), .int .i64 1740, .int .i64 1024] (0, 0) _ rfl (by refine blk_put (cs := #[.int .i64 0, .int .i64 (-1024), .int .i64 1740, .int .i64 0]) ?_ 3 _ rfl; refine blk_put (cs := #[.int .i64 0, .int .i64 (-1024), .int .i64 0, .int .i64 0]) ?_ 2 _ rfl; refine blk_put (cs := #[.int .i64 0, .int .i64 0, .int .i64 0, .int .i64 0]) ?_ 1 _ rfl; refine blk_put (cs := #[.int .i64 0, .int .i64 0, .int .i64 0, .int .i64 0]) ?_ 0 _ rfl; exact kk_ BK.out) Tryd.underlying30 rfl (by kernel_rfl)) rfl ?_
  exact ⟨rfl, bb_ HB.out (e_ GE e0_)⟩
 by_cases c36 : a0 = 36
 ·subst c36
  obtain ⟨rfl, rfl, rfl, rfl⟩ : 0 = r1 ∧ (-1024) = r2 ∧ 1740 = r3 ∧ 1024 = r4 := by simpa [glyph_full.f, fullT] using h
  clear h hr
  go_enter Tryd.func19, Tryd.ntmps19
  go_wp2_with (first | ((with_reducible refine gate_dst (N := 2) rfl ?_); refine box_event ?hg (N := 2) ?hd (cs := #[.int .i64 0, .int .i64 0, .int .i64 0, .int .i64 0]) (t := 30) ?hr ?_; (case hd => rfl); (case hg => rfl); (case hr => first | (go_simp; done) | (go_simp; rfl)); intro gb hg w4 hbox hb; have BK := sd_ hbox; have GE := gw_ HB e0_ hg; replace HB := hb_ HB e0_ hb; clear hb hbox hg; have z0 := zc_ BK 0 rfl; have z1 := zc_ BK 1 rfl; have z2 := zc_ BK 2 rfl; have z3 := zc_ BK 3 rfl; have f0 := kf_ BK.out 0; have f1 := kf_ BK.out 1; have f2 := kf_ BK.out 2; have f3 := kf_ BK.out 3) | (go_at_call 14; refine (glyph_rowOf.calls 40 36 6 6 _ (by decide +kernel)).mono ?_; rintro e w5 ⟨rfl, hd⟩; have hb := Drawn0.below hd; clear hd; replace BK := kb_ BK hb; replace HB := hb_ HB (e_ GE e0_) hb; clear hb; have z0 := zc_ BK 0 rfl; have z1 := zc_ BK 1 rfl; have z2 := zc_ BK 2 rfl; have z3 := zc_ BK 3 rfl; have f0 := kf_ BK.out 0; have f1 := kf_ BK.out 1; have f2 := kf_ BK.out 2; have f3 := kf_ BK.out 3) | (go_at_call 26; refine (glyph_from.calls _ _ _ _ _ _ _ _ rfl).mono ?_; rintro e w5 ⟨rfl, hb⟩; replace BK := kb_ BK hb; replace HB := hb_ HB (e_ GE e0_) hb; clear hb; have z0 := zc_ BK 0 rfl; have z1 := zc_ BK 1 rfl; have z2 := zc_ BK 2 rfl; have z3 := zc_ BK 3 rfl; have f0 := kf_ BK.out 0; have f1 := kf_ BK.out 1; have f2 := kf_ BK.out 2; have f3 := kf_ BK.out 3))
  refine bodyPost_ret (results_cell_row rfl _ _ gb 30 #[.int .i64 0, .int .i64 (-1024), .int .i64 1740, .int .i64 1024] (0, 0) _ rfl (by refine blk_put (cs := #[.int .i64 0, .int .i64 (-1024), .int .i64 1740, .int .i64 0]) ?_ 3 _ rfl; refine blk_put (cs := #[.int .i64 0, .int .i64 (-1024), .int .i64 0, .int .i64 0]) ?_ 2 _ rfl; refine blk_put (cs := #[.int .i64 0, .int .i64 0, .int .i64 0, .int .i64 0]) ?_ 1 _ rfl; refine blk_put (cs := #[.int .i64 0, .int .i64 0, .int .i64 0, .int .i64 0]) ?_ 0 _ rfl; exact kk_ BK.out) Tryd.underlying30 rfl (by kernel_rfl)) rfl ?_
  exact ⟨rfl, bb_ HB.out (e_ GE e0_)⟩
 by_cases c37 : a0 = 37
 ·subst c37
  obtain ⟨rfl, rfl, rfl, rfl⟩ : 0 = r1 ∧ (-1024) = r2 ∧ 1740 = r3 ∧ 1024 = r4 := by simpa [glyph_full.f, fullT] using h
  clear h hr
  go_enter Tryd.func19, Tryd.ntmps19
  go_wp2_with (first | ((with_reducible refine gate_dst (N := 2) rfl ?_); refine box_event ?hg (N := 2) ?hd (cs := #[.int .i64 0, .int .i64 0, .int .i64 0, .int .i64 0]) (t := 30) ?hr ?_; (case hd => rfl); (case hg => rfl); (case hr => first | (go_simp; done) | (go_simp; rfl)); intro gb hg w4 hbox hb; have BK := sd_ hbox; have GE := gw_ HB e0_ hg; replace HB := hb_ HB e0_ hb; clear hb hbox hg; have z0 := zc_ BK 0 rfl; have z1 := zc_ BK 1 rfl; have z2 := zc_ BK 2 rfl; have z3 := zc_ BK 3 rfl; have f0 := kf_ BK.out 0; have f1 := kf_ BK.out 1; have f2 := kf_ BK.out 2; have f3 := kf_ BK.out 3) | (go_at_call 14; refine (glyph_rowOf.calls 40 37 6 7 _ (by decide +kernel)).mono ?_; rintro e w5 ⟨rfl, hd⟩; have hb := Drawn0.below hd; clear hd; replace BK := kb_ BK hb; replace HB := hb_ HB (e_ GE e0_) hb; clear hb; have z0 := zc_ BK 0 rfl; have z1 := zc_ BK 1 rfl; have z2 := zc_ BK 2 rfl; have z3 := zc_ BK 3 rfl; have f0 := kf_ BK.out 0; have f1 := kf_ BK.out 1; have f2 := kf_ BK.out 2; have f3 := kf_ BK.out 3) | (go_at_call 26; refine (glyph_from.calls _ _ _ _ _ _ _ _ rfl).mono ?_; rintro e w5 ⟨rfl, hb⟩; replace BK := kb_ BK hb; replace HB := hb_ HB (e_ GE e0_) hb; clear hb; have z0 := zc_ BK 0 rfl; have z1 := zc_ BK 1 rfl; have z2 := zc_ BK 2 rfl; have z3 := zc_ BK 3 rfl; have f0 := kf_ BK.out 0; have f1 := kf_ BK.out 1; have f2 := kf_ BK.out 2; have f3 := kf_ BK.out 3))
  refine bodyPost_ret (results_cell_row rfl _ _ gb 30 #[.int .i64 0, .int .i64 (-1024), .int .i64 1740, .int .i64 1024] (0, 0) _ rfl (by refine blk_put (cs := #[.int .i64 0, .int .i64 (-1024), .int .i64 1740, .int .i64 0]) ?_ 3 _ rfl; refine blk_put (cs := #[.int .i64 0, .int .i64 (-1024), .int .i64 0, .int .i64 0]) ?_ 2 _ rfl; refine blk_put (cs := #[.int .i64 0, .int .i64 0, .int .i64 0, .int .i64 0]) ?_ 1 _ rfl; refine blk_put (cs := #[.int .i64 0, .int .i64 0, .int .i64 0, .int .i64 0]) ?_ 0 _ rfl; exact kk_ BK.out) Tryd.underlying30 rfl (by kernel_rfl)) rfl ?_
  exact ⟨rfl, bb_ HB.out (e_ GE e0_)⟩
 by_cases c38 : a0 = 38
 ·subst c38
  obtain ⟨rfl, rfl, rfl, rfl⟩ : 0 = r1 ∧ (-1024) = r2 ∧ 1740 = r3 ∧ 1024 = r4 := by simpa [glyph_full.f, fullT] using h
  clear h hr
  go_enter Tryd.func19, Tryd.ntmps19
  go_wp2_with (first | ((with_reducible refine gate_dst (N := 2) rfl ?_); refine box_event ?hg (N := 2) ?hd (cs := #[.int .i64 0, .int .i64 0, .int .i64 0, .int .i64 0]) (t := 30) ?hr ?_; (case hd => rfl); (case hg => rfl); (case hr => first | (go_simp; done) | (go_simp; rfl)); intro gb hg w4 hbox hb; have BK := sd_ hbox; have GE := gw_ HB e0_ hg; replace HB := hb_ HB e0_ hb; clear hb hbox hg; have z0 := zc_ BK 0 rfl; have z1 := zc_ BK 1 rfl; have z2 := zc_ BK 2 rfl; have z3 := zc_ BK 3 rfl; have f0 := kf_ BK.out 0; have f1 := kf_ BK.out 1; have f2 := kf_ BK.out 2; have f3 := kf_ BK.out 3) | (go_at_call 14; refine (glyph_rowOf.calls 40 38 6 8 _ (by decide +kernel)).mono ?_; rintro e w5 ⟨rfl, hd⟩; have hb := Drawn0.below hd; clear hd; replace BK := kb_ BK hb; replace HB := hb_ HB (e_ GE e0_) hb; clear hb; have z0 := zc_ BK 0 rfl; have z1 := zc_ BK 1 rfl; have z2 := zc_ BK 2 rfl; have z3 := zc_ BK 3 rfl; have f0 := kf_ BK.out 0; have f1 := kf_ BK.out 1; have f2 := kf_ BK.out 2; have f3 := kf_ BK.out 3) | (go_at_call 26; refine (glyph_from.calls _ _ _ _ _ _ _ _ rfl).mono ?_; rintro e w5 ⟨rfl, hb⟩; replace BK := kb_ BK hb; replace HB := hb_ HB (e_ GE e0_) hb; clear hb; have z0 := zc_ BK 0 rfl; have z1 := zc_ BK 1 rfl; have z2 := zc_ BK 2 rfl; have z3 := zc_ BK 3 rfl; have f0 := kf_ BK.out 0; have f1 := kf_ BK.out 1; have f2 := kf_ BK.out 2; have f3 := kf_ BK.out 3))
  refine bodyPost_ret (results_cell_row rfl _ _ gb 30 #[.int .i64 0, .int .i64 (-1024), .int .i64 1740, .int .i64 1024] (0, 0) _ rfl (by refine blk_put (cs := #[.int .i64 0, .int .i64 (-1024), .int .i64 1740, .int .i64 0]) ?_ 3 _ rfl; refine blk_put (cs := #[.int .i64 0, .int .i64 (-1024), .int .i64 0, .int .i64 0]) ?_ 2 _ rfl; refine blk_put (cs := #[.int .i64 0, .int .i64 0, .int .i64 0, .int .i64 0]) ?_ 1 _ rfl; refine blk_put (cs := #[.int .i64 0, .int .i64 0, .int .i64 0, .int .i64 0]) ?_ 0 _ rfl; exact kk_ BK.out) Tryd.underlying30 rfl (by kernel_rfl)) rfl ?_
  exact ⟨rfl, bb_ HB.out (e_ GE e0_)⟩
 by_cases c39 : a0 = 39
 ·subst c39
  obtain ⟨rfl, rfl, rfl, rfl⟩ : 0 = r1 ∧ (-1024) = r2 ∧ 1740 = r3 ∧ 1024 = r4 := by simpa [glyph_full.f, fullT] using h
  clear h hr
  go_enter Tryd.func19, Tryd.ntmps19
  go_wp2_with (first | ((with_reducible refine gate_dst (N := 2) rfl ?_); refine box_event ?hg (N := 2) ?hd (cs := #[.int .i64 0, .int .i64 0, .int .i64 0, .int .i64 0]) (t := 30) ?hr ?_; (case hd => rfl); (case hg => rfl); (case hr => first | (go_simp; done) | (go_simp; rfl)); intro gb hg w4 hbox hb; have BK := sd_ hbox; have GE := gw_ HB e0_ hg; replace HB := hb_ HB e0_ hb; clear hb hbox hg; have z0 := zc_ BK 0 rfl; have z1 := zc_ BK 1 rfl; have z2 := zc_ BK 2 rfl; have z3 := zc_ BK 3 rfl; have f0 := kf_ BK.out 0; have f1 := kf_ BK.out 1; have f2 := kf_ BK.out 2; have f3 := kf_ BK.out 3) | (go_at_call 14; refine (glyph_rowOf.calls 40 39 6 9 _ (by decide +kernel)).mono ?_; rintro e w5 ⟨rfl, hd⟩; have hb := Drawn0.below hd; clear hd; replace BK := kb_ BK hb; replace HB := hb_ HB (e_ GE e0_) hb; clear hb; have z0 := zc_ BK 0 rfl; have z1 := zc_ BK 1 rfl; have z2 := zc_ BK 2 rfl; have z3 := zc_ BK 3 rfl; have f0 := kf_ BK.out 0; have f1 := kf_ BK.out 1; have f2 := kf_ BK.out 2; have f3 := kf_ BK.out 3) | (go_at_call 26; refine (glyph_from.calls _ _ _ _ _ _ _ _ rfl).mono ?_; rintro e w5 ⟨rfl, hb⟩; replace BK := kb_ BK hb; replace HB := hb_ HB (e_ GE e0_) hb; clear hb; have z0 := zc_ BK 0 rfl; have z1 := zc_ BK 1 rfl; have z2 := zc_ BK 2 rfl; have z3 := zc_ BK 3 rfl; have f0 := kf_ BK.out 0; have f1 := kf_ BK.out 1; have f2 := kf_ BK.out 2; have f3 := kf_ BK.out 3))
  refine bodyPost_ret (results_cell_row rfl _ _ gb 30 #[.int .i64 0, .int .i64 (-1024), .int .i64 1740, .int .i64 1024] (0, 0) _ rfl (by refine blk_put (cs := #[.int .i64 0, .int .i64 (-1024), .int .i64 1740, .int .i64 0]) ?_ 3 _ rfl; refine blk_put (cs := #[.int .i64 0, .int .i64 (-1024), .int .i64 0, .int .i64 0]) ?_ 2 _ rfl; refine blk_put (cs := #[.int .i64 0, .int .i64 0, .int .i64 0, .int .i64 0]) ?_ 1 _ rfl; refine blk_put (cs := #[.int .i64 0, .int .i64 0, .int .i64 0, .int .i64 0]) ?_ 0 _ rfl; exact kk_ BK.out) Tryd.underlying30 rfl (by kernel_rfl)) rfl ?_
  exact ⟨rfl, bb_ HB.out (e_ GE e0_)⟩
 exact absurd hr (by omega)
set_option maxHeartbeats 16000000 in
set_option maxRecDepth 100000 in
theorem glyph_full.row7 (a0 : Int) (r1 r2 r3 r4 : Int) (w : World) (hr : 40 ≤ a0 ∧ a0 ≤ 47) (h : glyph_full.f a0 = some (r1, r2, r3, r4)) :
  Calls Tryd.prog 19 #[.int .i64 a0] w fun e w' => e = .returned (.agg #[.int .i64 r1, .int .i64 r2, .int .i64 r3, .int .i64 r4]) ∧ Below w.heap.size w w' := by
 have hu := Tryd.underlying30
 have HB := sd_ (Below.refl w.heap.size w)
 by_cases c40 : a0 = 40
 ·subst c40
  obtain ⟨rfl, rfl, rfl, rfl⟩ : 0 = r1 ∧ (-200) = r2 ∧ 400 = r3 ∧ 200 = r4 := by simpa [glyph_full.f, fullT] using h
  clear h hr
  go_enter Tryd.func19, Tryd.ntmps19
  go_wp2_with (first | ((with_reducible refine gate_dst (N := 2) rfl ?_); refine box_event ?hg (N := 2) ?hd (cs := #[.int .i64 0, .int .i64 0, .int .i64 0, .int .i64 0]) (t := 30) ?hr ?_; (case hd => rfl); (case hg => rfl); (case hr => first | (go_simp; done) | (go_simp; rfl)); intro gb hg w4 hbox hb; have BK := sd_ hbox; have GE := gw_ HB e0_ hg; replace HB := hb_ HB e0_ hb; clear hb hbox hg; have z0 := zc_ BK 0 rfl; have z1 := zc_ BK 1 rfl; have z2 := zc_ BK 2 rfl; have z3 := zc_ BK 3 rfl; have f0 := kf_ BK.out 0; have f1 := kf_ BK.out 1; have f2 := kf_ BK.out 2; have f3 := kf_ BK.out 3) | (go_at_call 14; refine (glyph_rowOf.calls 40 40 7 0 _ (by decide +kernel)).mono ?_; rintro e w5 ⟨rfl, hd⟩; have hb := Drawn0.below hd; clear hd; replace BK := kb_ BK hb; replace HB := hb_ HB (e_ GE e0_) hb; clear hb; have z0 := zc_ BK 0 rfl; have z1 := zc_ BK 1 rfl; have z2 := zc_ BK 2 rfl; have z3 := zc_ BK 3 rfl; have f0 := kf_ BK.out 0; have f1 := kf_ BK.out 1; have f2 := kf_ BK.out 2; have f3 := kf_ BK.out 3) | (go_at_call 26; refine (glyph_from.calls _ _ _ _ _ _ _ _ rfl).mono ?_; rintro e w5 ⟨rfl, hb⟩; replace BK := kb_ BK hb; replace HB := hb_ HB (e_ GE e0_) hb; clear hb; have z0 := zc_ BK 0 rfl; have z1 := zc_ BK 1 rfl; have z2 := zc_ BK 2 rfl; have z3 := zc_ BK 3 rfl; have f0 := kf_ BK.out 0; have f1 := kf_ BK.out 1; have f2 := kf_ BK.out 2; have f3 := kf_ BK.out 3) | (go_at_call 28; refine (glyph_other.calls 0 0 (-200) 400 200 _ (by decide +kernel)).mono ?_; rintro e w5 ⟨rfl, hb⟩; replace BK := kb_ BK hb; replace HB := hb_ HB (e_ GE e0_) hb; clear hb; have z0 := zc_ BK 0 rfl; have z1 := zc_ BK 1 rfl; have z2 := zc_ BK 2 rfl; have z3 := zc_ BK 3 rfl; have f0 := kf_ BK.out 0; have f1 := kf_ BK.out 1; have f2 := kf_ BK.out 2; have f3 := kf_ BK.out 3))
  refine bodyPost_ret (results_cell_row rfl _ _ gb 30 #[.int .i64 0, .int .i64 (-200), .int .i64 400, .int .i64 200] (0, 0) _ rfl (by refine blk_put (cs := #[.int .i64 0, .int .i64 (-200), .int .i64 400, .int .i64 0]) ?_ 3 _ rfl; refine blk_put (cs := #[.int .i64 0, .int .i64 (-200), .int .i64 0, .int .i64 0]) ?_ 2 _ rfl; refine blk_put (cs := #[.int .i64 0, .int .i64 0, .int .i64 0, .int .i64 0]) ?_ 1 _ rfl; refine blk_put (cs := #[.int .i64 0, .int .i64 0, .int .i64 0, .int .i64 0]) ?_ 0 _ rfl; exact kk_ BK.out) Tryd.underlying30 rfl (by kernel_rfl)) rfl ?_
  exact ⟨rfl, bb_ HB.out (e_ GE e0_)⟩
 by_cases c41 : a0 = 41
 ·subst c41
  obtain ⟨rfl, rfl, rfl, rfl⟩ : 0 = r1 ∧ (-2048) = r2 ∧ 160 = r3 ∧ 2048 = r4 := by simpa [glyph_full.f, fullT] using h
  clear h hr
  go_enter Tryd.func19, Tryd.ntmps19
  go_wp2_with (first | ((with_reducible refine gate_dst (N := 2) rfl ?_); refine box_event ?hg (N := 2) ?hd (cs := #[.int .i64 0, .int .i64 0, .int .i64 0, .int .i64 0]) (t := 30) ?hr ?_; (case hd => rfl); (case hg => rfl); (case hr => first | (go_simp; done) | (go_simp; rfl)); intro gb hg w4 hbox hb; have BK := sd_ hbox; have GE := gw_ HB e0_ hg; replace HB := hb_ HB e0_ hb; clear hb hbox hg; have z0 := zc_ BK 0 rfl; have z1 := zc_ BK 1 rfl; have z2 := zc_ BK 2 rfl; have z3 := zc_ BK 3 rfl; have f0 := kf_ BK.out 0; have f1 := kf_ BK.out 1; have f2 := kf_ BK.out 2; have f3 := kf_ BK.out 3) | (go_at_call 14; refine (glyph_rowOf.calls 40 41 7 1 _ (by decide +kernel)).mono ?_; rintro e w5 ⟨rfl, hd⟩; have hb := Drawn0.below hd; clear hd; replace BK := kb_ BK hb; replace HB := hb_ HB (e_ GE e0_) hb; clear hb; have z0 := zc_ BK 0 rfl; have z1 := zc_ BK 1 rfl; have z2 := zc_ BK 2 rfl; have z3 := zc_ BK 3 rfl; have f0 := kf_ BK.out 0; have f1 := kf_ BK.out 1; have f2 := kf_ BK.out 2; have f3 := kf_ BK.out 3) | (go_at_call 26; refine (glyph_from.calls _ _ _ _ _ _ _ _ rfl).mono ?_; rintro e w5 ⟨rfl, hb⟩; replace BK := kb_ BK hb; replace HB := hb_ HB (e_ GE e0_) hb; clear hb; have z0 := zc_ BK 0 rfl; have z1 := zc_ BK 1 rfl; have z2 := zc_ BK 2 rfl; have z3 := zc_ BK 3 rfl; have f0 := kf_ BK.out 0; have f1 := kf_ BK.out 1; have f2 := kf_ BK.out 2; have f3 := kf_ BK.out 3) | (go_at_call 28; refine (glyph_other.calls 1 0 (-2048) 160 2048 _ (by decide +kernel)).mono ?_; rintro e w5 ⟨rfl, hb⟩; replace BK := kb_ BK hb; replace HB := hb_ HB (e_ GE e0_) hb; clear hb; have z0 := zc_ BK 0 rfl; have z1 := zc_ BK 1 rfl; have z2 := zc_ BK 2 rfl; have z3 := zc_ BK 3 rfl; have f0 := kf_ BK.out 0; have f1 := kf_ BK.out 1; have f2 := kf_ BK.out 2; have f3 := kf_ BK.out 3))
  refine bodyPost_ret (results_cell_row rfl _ _ gb 30 #[.int .i64 0, .int .i64 (-2048), .int .i64 160, .int .i64 2048] (0, 0) _ rfl (by refine blk_put (cs := #[.int .i64 0, .int .i64 (-2048), .int .i64 160, .int .i64 0]) ?_ 3 _ rfl; refine blk_put (cs := #[.int .i64 0, .int .i64 (-2048), .int .i64 0, .int .i64 0]) ?_ 2 _ rfl; refine blk_put (cs := #[.int .i64 0, .int .i64 0, .int .i64 0, .int .i64 0]) ?_ 1 _ rfl; refine blk_put (cs := #[.int .i64 0, .int .i64 0, .int .i64 0, .int .i64 0]) ?_ 0 _ rfl; exact kk_ BK.out) Tryd.underlying30 rfl (by kernel_rfl)) rfl ?_
  exact ⟨rfl, bb_ HB.out (e_ GE e0_)⟩
 by_cases c42 : a0 = 42
 ·subst c42
  obtain ⟨rfl, rfl, rfl, rfl⟩ : 0 = r1 ∧ (-2048) = r2 ∧ 720 = r3 ∧ 2048 = r4 := by simpa [glyph_full.f, fullT] using h
  clear h hr
  go_enter Tryd.func19, Tryd.ntmps19
  go_wp2_with (first | ((with_reducible refine gate_dst (N := 2) rfl ?_); refine box_event ?hg (N := 2) ?hd (cs := #[.int .i64 0, .int .i64 0, .int .i64 0, .int .i64 0]) (t := 30) ?hr ?_; (case hd => rfl); (case hg => rfl); (case hr => first | (go_simp; done) | (go_simp; rfl)); intro gb hg w4 hbox hb; have BK := sd_ hbox; have GE := gw_ HB e0_ hg; replace HB := hb_ HB e0_ hb; clear hb hbox hg; have z0 := zc_ BK 0 rfl; have z1 := zc_ BK 1 rfl; have z2 := zc_ BK 2 rfl; have z3 := zc_ BK 3 rfl; have f0 := kf_ BK.out 0; have f1 := kf_ BK.out 1; have f2 := kf_ BK.out 2; have f3 := kf_ BK.out 3) | (go_at_call 14; refine (glyph_rowOf.calls 40 42 7 2 _ (by decide +kernel)).mono ?_; rintro e w5 ⟨rfl, hd⟩; have hb := Drawn0.below hd; clear hd; replace BK := kb_ BK hb; replace HB := hb_ HB (e_ GE e0_) hb; clear hb; have z0 := zc_ BK 0 rfl; have z1 := zc_ BK 1 rfl; have z2 := zc_ BK 2 rfl; have z3 := zc_ BK 3 rfl; have f0 := kf_ BK.out 0; have f1 := kf_ BK.out 1; have f2 := kf_ BK.out 2; have f3 := kf_ BK.out 3) | (go_at_call 26; refine (glyph_from.calls _ _ _ _ _ _ _ _ rfl).mono ?_; rintro e w5 ⟨rfl, hb⟩; replace BK := kb_ BK hb; replace HB := hb_ HB (e_ GE e0_) hb; clear hb; have z0 := zc_ BK 0 rfl; have z1 := zc_ BK 1 rfl; have z2 := zc_ BK 2 rfl; have z3 := zc_ BK 3 rfl; have f0 := kf_ BK.out 0; have f1 := kf_ BK.out 1; have f2 := kf_ BK.out 2; have f3 := kf_ BK.out 3) | (go_at_call 28; refine (glyph_other.calls 2 0 (-2048) 720 2048 _ (by decide +kernel)).mono ?_; rintro e w5 ⟨rfl, hb⟩; replace BK := kb_ BK hb; replace HB := hb_ HB (e_ GE e0_) hb; clear hb; have z0 := zc_ BK 0 rfl; have z1 := zc_ BK 1 rfl; have z2 := zc_ BK 2 rfl; have z3 := zc_ BK 3 rfl; have f0 := kf_ BK.out 0; have f1 := kf_ BK.out 1; have f2 := kf_ BK.out 2; have f3 := kf_ BK.out 3))
  refine bodyPost_ret (results_cell_row rfl _ _ gb 30 #[.int .i64 0, .int .i64 (-2048), .int .i64 720, .int .i64 2048] (0, 0) _ rfl (by refine blk_put (cs := #[.int .i64 0, .int .i64 (-2048), .int .i64 720, .int .i64 0]) ?_ 3 _ rfl; refine blk_put (cs := #[.int .i64 0, .int .i64 (-2048), .int .i64 0, .int .i64 0]) ?_ 2 _ rfl; refine blk_put (cs := #[.int .i64 0, .int .i64 0, .int .i64 0, .int .i64 0]) ?_ 1 _ rfl; refine blk_put (cs := #[.int .i64 0, .int .i64 0, .int .i64 0, .int .i64 0]) ?_ 0 _ rfl; exact kk_ BK.out) Tryd.underlying30 rfl (by kernel_rfl)) rfl ?_
  exact ⟨rfl, bb_ HB.out (e_ GE e0_)⟩
 by_cases c43 : a0 = 43
 ·subst c43
  obtain ⟨rfl, rfl, rfl, rfl⟩ : 0 = r1 ∧ (-2048) = r2 ∧ 1000 = r3 ∧ 2048 = r4 := by simpa [glyph_full.f, fullT] using h
  clear h hr
  go_enter Tryd.func19, Tryd.ntmps19
  go_wp2_with (first | ((with_reducible refine gate_dst (N := 2) rfl ?_); refine box_event ?hg (N := 2) ?hd (cs := #[.int .i64 0, .int .i64 0, .int .i64 0, .int .i64 0]) (t := 30) ?hr ?_; (case hd => rfl); (case hg => rfl); (case hr => first | (go_simp; done) | (go_simp; rfl)); intro gb hg w4 hbox hb; have BK := sd_ hbox; have GE := gw_ HB e0_ hg; replace HB := hb_ HB e0_ hb; clear hb hbox hg; have z0 := zc_ BK 0 rfl; have z1 := zc_ BK 1 rfl; have z2 := zc_ BK 2 rfl; have z3 := zc_ BK 3 rfl; have f0 := kf_ BK.out 0; have f1 := kf_ BK.out 1; have f2 := kf_ BK.out 2; have f3 := kf_ BK.out 3) | (go_at_call 14; refine (glyph_rowOf.calls 40 43 7 3 _ (by decide +kernel)).mono ?_; rintro e w5 ⟨rfl, hd⟩; have hb := Drawn0.below hd; clear hd; replace BK := kb_ BK hb; replace HB := hb_ HB (e_ GE e0_) hb; clear hb; have z0 := zc_ BK 0 rfl; have z1 := zc_ BK 1 rfl; have z2 := zc_ BK 2 rfl; have z3 := zc_ BK 3 rfl; have f0 := kf_ BK.out 0; have f1 := kf_ BK.out 1; have f2 := kf_ BK.out 2; have f3 := kf_ BK.out 3) | (go_at_call 26; refine (glyph_from.calls _ _ _ _ _ _ _ _ rfl).mono ?_; rintro e w5 ⟨rfl, hb⟩; replace BK := kb_ BK hb; replace HB := hb_ HB (e_ GE e0_) hb; clear hb; have z0 := zc_ BK 0 rfl; have z1 := zc_ BK 1 rfl; have z2 := zc_ BK 2 rfl; have z3 := zc_ BK 3 rfl; have f0 := kf_ BK.out 0; have f1 := kf_ BK.out 1; have f2 := kf_ BK.out 2; have f3 := kf_ BK.out 3) | (go_at_call 28; refine (glyph_other.calls 3 0 (-2048) 1000 2048 _ (by decide +kernel)).mono ?_; rintro e w5 ⟨rfl, hb⟩; replace BK := kb_ BK hb; replace HB := hb_ HB (e_ GE e0_) hb; clear hb; have z0 := zc_ BK 0 rfl; have z1 := zc_ BK 1 rfl; have z2 := zc_ BK 2 rfl; have z3 := zc_ BK 3 rfl; have f0 := kf_ BK.out 0; have f1 := kf_ BK.out 1; have f2 := kf_ BK.out 2; have f3 := kf_ BK.out 3))
  refine bodyPost_ret (results_cell_row rfl _ _ gb 30 #[.int .i64 0, .int .i64 (-2048), .int .i64 1000, .int .i64 2048] (0, 0) _ rfl (by refine blk_put (cs := #[.int .i64 0, .int .i64 (-2048), .int .i64 1000, .int .i64 0]) ?_ 3 _ rfl; refine blk_put (cs := #[.int .i64 0, .int .i64 (-2048), .int .i64 0, .int .i64 0]) ?_ 2 _ rfl; refine blk_put (cs := #[.int .i64 0, .int .i64 0, .int .i64 0, .int .i64 0]) ?_ 1 _ rfl; refine blk_put (cs := #[.int .i64 0, .int .i64 0, .int .i64 0, .int .i64 0]) ?_ 0 _ rfl; exact kk_ BK.out) Tryd.underlying30 rfl (by kernel_rfl)) rfl ?_
  exact ⟨rfl, bb_ HB.out (e_ GE e0_)⟩
 by_cases c44 : a0 = 44
 ·subst c44
  obtain ⟨rfl, rfl, rfl, rfl⟩ : 0 = r1 ∧ (-600) = r2 ∧ 1500 = r3 ∧ 1200 = r4 := by simpa [glyph_full.f, fullT] using h
  clear h hr
  go_enter Tryd.func19, Tryd.ntmps19
  go_wp2_with (first | ((with_reducible refine gate_dst (N := 2) rfl ?_); refine box_event ?hg (N := 2) ?hd (cs := #[.int .i64 0, .int .i64 0, .int .i64 0, .int .i64 0]) (t := 30) ?hr ?_; (case hd => rfl); (case hg => rfl); (case hr => first | (go_simp; done) | (go_simp; rfl)); intro gb hg w4 hbox hb; have BK := sd_ hbox; have GE := gw_ HB e0_ hg; replace HB := hb_ HB e0_ hb; clear hb hbox hg; have z0 := zc_ BK 0 rfl; have z1 := zc_ BK 1 rfl; have z2 := zc_ BK 2 rfl; have z3 := zc_ BK 3 rfl; have f0 := kf_ BK.out 0; have f1 := kf_ BK.out 1; have f2 := kf_ BK.out 2; have f3 := kf_ BK.out 3) | (go_at_call 14; refine (glyph_rowOf.calls 40 44 7 4 _ (by decide +kernel)).mono ?_; rintro e w5 ⟨rfl, hd⟩; have hb := Drawn0.below hd; clear hd; replace BK := kb_ BK hb; replace HB := hb_ HB (e_ GE e0_) hb; clear hb; have z0 := zc_ BK 0 rfl; have z1 := zc_ BK 1 rfl; have z2 := zc_ BK 2 rfl; have z3 := zc_ BK 3 rfl; have f0 := kf_ BK.out 0; have f1 := kf_ BK.out 1; have f2 := kf_ BK.out 2; have f3 := kf_ BK.out 3) | (go_at_call 26; refine (glyph_from.calls _ _ _ _ _ _ _ _ rfl).mono ?_; rintro e w5 ⟨rfl, hb⟩; replace BK := kb_ BK hb; replace HB := hb_ HB (e_ GE e0_) hb; clear hb; have z0 := zc_ BK 0 rfl; have z1 := zc_ BK 1 rfl; have z2 := zc_ BK 2 rfl; have z3 := zc_ BK 3 rfl; have f0 := kf_ BK.out 0; have f1 := kf_ BK.out 1; have f2 := kf_ BK.out 2; have f3 := kf_ BK.out 3) | (go_at_call 28; refine (glyph_other.calls 4 0 (-600) 1500 1200 _ (by decide +kernel)).mono ?_; rintro e w5 ⟨rfl, hb⟩; replace BK := kb_ BK hb; replace HB := hb_ HB (e_ GE e0_) hb; clear hb; have z0 := zc_ BK 0 rfl; have z1 := zc_ BK 1 rfl; have z2 := zc_ BK 2 rfl; have z3 := zc_ BK 3 rfl; have f0 := kf_ BK.out 0; have f1 := kf_ BK.out 1; have f2 := kf_ BK.out 2; have f3 := kf_ BK.out 3))
  refine bodyPost_ret (results_cell_row rfl _ _ gb 30 #[.int .i64 0, .int .i64 (-600), .int .i64 1500, .int .i64 1200] (0, 0) _ rfl (by refine blk_put (cs := #[.int .i64 0, .int .i64 (-600), .int .i64 1500, .int .i64 0]) ?_ 3 _ rfl; refine blk_put (cs := #[.int .i64 0, .int .i64 (-600), .int .i64 0, .int .i64 0]) ?_ 2 _ rfl; refine blk_put (cs := #[.int .i64 0, .int .i64 0, .int .i64 0, .int .i64 0]) ?_ 1 _ rfl; refine blk_put (cs := #[.int .i64 0, .int .i64 0, .int .i64 0, .int .i64 0]) ?_ 0 _ rfl; exact kk_ BK.out) Tryd.underlying30 rfl (by kernel_rfl)) rfl ?_
  exact ⟨rfl, bb_ HB.out (e_ GE e0_)⟩
 by_cases c45 : a0 = 45
 ·subst c45
  obtain ⟨rfl, rfl, rfl, rfl⟩ : 0 = r1 ∧ 0 = r2 ∧ 1900 = r3 ∧ 1100 = r4 := by simpa [glyph_full.f, fullT] using h
  clear h hr
  go_enter Tryd.func19, Tryd.ntmps19
  go_wp2_with (first | ((with_reducible refine gate_dst (N := 2) rfl ?_); refine box_event ?hg (N := 2) ?hd (cs := #[.int .i64 0, .int .i64 0, .int .i64 0, .int .i64 0]) (t := 30) ?hr ?_; (case hd => rfl); (case hg => rfl); (case hr => first | (go_simp; done) | (go_simp; rfl)); intro gb hg w4 hbox hb; have BK := sd_ hbox; have GE := gw_ HB e0_ hg; replace HB := hb_ HB e0_ hb; clear hb hbox hg; have z0 := zc_ BK 0 rfl; have z1 := zc_ BK 1 rfl; have z2 := zc_ BK 2 rfl; have z3 := zc_ BK 3 rfl; have f0 := kf_ BK.out 0; have f1 := kf_ BK.out 1; have f2 := kf_ BK.out 2; have f3 := kf_ BK.out 3) | (go_at_call 14; refine (glyph_rowOf.calls 40 45 7 5 _ (by decide +kernel)).mono ?_; rintro e w5 ⟨rfl, hd⟩; have hb := Drawn0.below hd; clear hd; replace BK := kb_ BK hb; replace HB := hb_ HB (e_ GE e0_) hb; clear hb; have z0 := zc_ BK 0 rfl; have z1 := zc_ BK 1 rfl; have z2 := zc_ BK 2 rfl; have z3 := zc_ BK 3 rfl; have f0 := kf_ BK.out 0; have f1 := kf_ BK.out 1; have f2 := kf_ BK.out 2; have f3 := kf_ BK.out 3) | (go_at_call 26; refine (glyph_from.calls _ _ _ _ _ _ _ _ rfl).mono ?_; rintro e w5 ⟨rfl, hb⟩; replace BK := kb_ BK hb; replace HB := hb_ HB (e_ GE e0_) hb; clear hb; have z0 := zc_ BK 0 rfl; have z1 := zc_ BK 1 rfl; have z2 := zc_ BK 2 rfl; have z3 := zc_ BK 3 rfl; have f0 := kf_ BK.out 0; have f1 := kf_ BK.out 1; have f2 := kf_ BK.out 2; have f3 := kf_ BK.out 3) | (go_at_call 28; refine (glyph_other.calls 5 0 0 1900 1100 _ (by decide +kernel)).mono ?_; rintro e w5 ⟨rfl, hb⟩; replace BK := kb_ BK hb; replace HB := hb_ HB (e_ GE e0_) hb; clear hb; have z0 := zc_ BK 0 rfl; have z1 := zc_ BK 1 rfl; have z2 := zc_ BK 2 rfl; have z3 := zc_ BK 3 rfl; have f0 := kf_ BK.out 0; have f1 := kf_ BK.out 1; have f2 := kf_ BK.out 2; have f3 := kf_ BK.out 3))
  refine bodyPost_ret (results_cell_row rfl _ _ gb 30 #[.int .i64 0, .int .i64 0, .int .i64 1900, .int .i64 1100] (0, 0) _ rfl (by refine blk_put (cs := #[.int .i64 0, .int .i64 0, .int .i64 1900, .int .i64 0]) ?_ 3 _ rfl; refine blk_put (cs := #[.int .i64 0, .int .i64 0, .int .i64 0, .int .i64 0]) ?_ 2 _ rfl; refine blk_put (cs := #[.int .i64 0, .int .i64 0, .int .i64 0, .int .i64 0]) ?_ 1 _ rfl; refine blk_put (cs := #[.int .i64 0, .int .i64 0, .int .i64 0, .int .i64 0]) ?_ 0 _ rfl; exact kk_ BK.out) Tryd.underlying30 rfl (by kernel_rfl)) rfl ?_
  exact ⟨rfl, bb_ HB.out (e_ GE e0_)⟩
 by_cases c46 : a0 = 46
 ·subst c46
  obtain ⟨rfl, rfl, rfl, rfl⟩ : 0 = r1 ∧ (-700) = r2 ∧ 1400 = r3 ∧ 1800 = r4 := by simpa [glyph_full.f, fullT] using h
  clear h hr
  go_enter Tryd.func19, Tryd.ntmps19
  go_wp2_with (first | ((with_reducible refine gate_dst (N := 2) rfl ?_); refine box_event ?hg (N := 2) ?hd (cs := #[.int .i64 0, .int .i64 0, .int .i64 0, .int .i64 0]) (t := 30) ?hr ?_; (case hd => rfl); (case hg => rfl); (case hr => first | (go_simp; done) | (go_simp; rfl)); intro gb hg w4 hbox hb; have BK := sd_ hbox; have GE := gw_ HB e0_ hg; replace HB := hb_ HB e0_ hb; clear hb hbox hg; have z0 := zc_ BK 0 rfl; have z1 := zc_ BK 1 rfl; have z2 := zc_ BK 2 rfl; have z3 := zc_ BK 3 rfl; have f0 := kf_ BK.out 0; have f1 := kf_ BK.out 1; have f2 := kf_ BK.out 2; have f3 := kf_ BK.out 3) | (go_at_call 14; refine (glyph_rowOf.calls 40 46 7 6 _ (by decide +kernel)).mono ?_; rintro e w5 ⟨rfl, hd⟩; have hb := Drawn0.below hd; clear hd; replace BK := kb_ BK hb; replace HB := hb_ HB (e_ GE e0_) hb; clear hb; have z0 := zc_ BK 0 rfl; have z1 := zc_ BK 1 rfl; have z2 := zc_ BK 2 rfl; have z3 := zc_ BK 3 rfl; have f0 := kf_ BK.out 0; have f1 := kf_ BK.out 1; have f2 := kf_ BK.out 2; have f3 := kf_ BK.out 3) | (go_at_call 26; refine (glyph_from.calls _ _ _ _ _ _ _ _ rfl).mono ?_; rintro e w5 ⟨rfl, hb⟩; replace BK := kb_ BK hb; replace HB := hb_ HB (e_ GE e0_) hb; clear hb; have z0 := zc_ BK 0 rfl; have z1 := zc_ BK 1 rfl; have z2 := zc_ BK 2 rfl; have z3 := zc_ BK 3 rfl; have f0 := kf_ BK.out 0; have f1 := kf_ BK.out 1; have f2 := kf_ BK.out 2; have f3 := kf_ BK.out 3) | (go_at_call 28; refine (glyph_other.calls 6 0 (-700) 1400 1800 _ (by decide +kernel)).mono ?_; rintro e w5 ⟨rfl, hb⟩; replace BK := kb_ BK hb; replace HB := hb_ HB (e_ GE e0_) hb; clear hb; have z0 := zc_ BK 0 rfl; have z1 := zc_ BK 1 rfl; have z2 := zc_ BK 2 rfl; have z3 := zc_ BK 3 rfl; have f0 := kf_ BK.out 0; have f1 := kf_ BK.out 1; have f2 := kf_ BK.out 2; have f3 := kf_ BK.out 3))
  refine bodyPost_ret (results_cell_row rfl _ _ gb 30 #[.int .i64 0, .int .i64 (-700), .int .i64 1400, .int .i64 1800] (0, 0) _ rfl (by refine blk_put (cs := #[.int .i64 0, .int .i64 (-700), .int .i64 1400, .int .i64 0]) ?_ 3 _ rfl; refine blk_put (cs := #[.int .i64 0, .int .i64 (-700), .int .i64 0, .int .i64 0]) ?_ 2 _ rfl; refine blk_put (cs := #[.int .i64 0, .int .i64 0, .int .i64 0, .int .i64 0]) ?_ 1 _ rfl; refine blk_put (cs := #[.int .i64 0, .int .i64 0, .int .i64 0, .int .i64 0]) ?_ 0 _ rfl; exact kk_ BK.out) Tryd.underlying30 rfl (by kernel_rfl)) rfl ?_
  exact ⟨rfl, bb_ HB.out (e_ GE e0_)⟩
 by_cases c47 : a0 = 47
 ·subst c47
  obtain ⟨rfl, rfl, rfl, rfl⟩ : (-1000) = r1 ∧ (-2048) = r2 ∧ 0 = r3 ∧ 2048 = r4 := by simpa [glyph_full.f, fullT] using h
  clear h hr
  go_enter Tryd.func19, Tryd.ntmps19
  go_wp2_with (first | ((with_reducible refine gate_dst (N := 2) rfl ?_); refine box_event ?hg (N := 2) ?hd (cs := #[.int .i64 0, .int .i64 0, .int .i64 0, .int .i64 0]) (t := 30) ?hr ?_; (case hd => rfl); (case hg => rfl); (case hr => first | (go_simp; done) | (go_simp; rfl)); intro gb hg w4 hbox hb; have BK := sd_ hbox; have GE := gw_ HB e0_ hg; replace HB := hb_ HB e0_ hb; clear hb hbox hg; have z0 := zc_ BK 0 rfl; have z1 := zc_ BK 1 rfl; have z2 := zc_ BK 2 rfl; have z3 := zc_ BK 3 rfl; have f0 := kf_ BK.out 0; have f1 := kf_ BK.out 1; have f2 := kf_ BK.out 2; have f3 := kf_ BK.out 3) | (go_at_call 14; refine (glyph_rowOf.calls 40 47 7 7 _ (by decide +kernel)).mono ?_; rintro e w5 ⟨rfl, hd⟩; have hb := Drawn0.below hd; clear hd; replace BK := kb_ BK hb; replace HB := hb_ HB (e_ GE e0_) hb; clear hb; have z0 := zc_ BK 0 rfl; have z1 := zc_ BK 1 rfl; have z2 := zc_ BK 2 rfl; have z3 := zc_ BK 3 rfl; have f0 := kf_ BK.out 0; have f1 := kf_ BK.out 1; have f2 := kf_ BK.out 2; have f3 := kf_ BK.out 3) | (go_at_call 26; refine (glyph_from.calls _ _ _ _ _ _ _ _ rfl).mono ?_; rintro e w5 ⟨rfl, hb⟩; replace BK := kb_ BK hb; replace HB := hb_ HB (e_ GE e0_) hb; clear hb; have z0 := zc_ BK 0 rfl; have z1 := zc_ BK 1 rfl; have z2 := zc_ BK 2 rfl; have z3 := zc_ BK 3 rfl; have f0 := kf_ BK.out 0; have f1 := kf_ BK.out 1; have f2 := kf_ BK.out 2; have f3 := kf_ BK.out 3) | (go_at_call 28; refine (glyph_other.calls 7 (-1000) (-2048) 0 2048 _ (by decide +kernel)).mono ?_; rintro e w5 ⟨rfl, hb⟩; replace BK := kb_ BK hb; replace HB := hb_ HB (e_ GE e0_) hb; clear hb; have z0 := zc_ BK 0 rfl; have z1 := zc_ BK 1 rfl; have z2 := zc_ BK 2 rfl; have z3 := zc_ BK 3 rfl; have f0 := kf_ BK.out 0; have f1 := kf_ BK.out 1; have f2 := kf_ BK.out 2; have f3 := kf_ BK.out 3))
  refine bodyPost_ret (results_cell_row rfl _ _ gb 30 #[.int .i64 (-1000), .int .i64 (-2048), .int .i64 0, .int .i64 2048] (0, 0) _ rfl (by refine blk_put (cs := #[.int .i64 (-1000), .int .i64 (-2048), .int .i64 0, .int .i64 0]) ?_ 3 _ rfl; refine blk_put (cs := #[.int .i64 (-1000), .int .i64 (-2048), .int .i64 0, .int .i64 0]) ?_ 2 _ rfl; refine blk_put (cs := #[.int .i64 (-1000), .int .i64 0, .int .i64 0, .int .i64 0]) ?_ 1 _ rfl; refine blk_put (cs := #[.int .i64 0, .int .i64 0, .int .i64 0, .int .i64 0]) ?_ 0 _ rfl; exact kk_ BK.out) Tryd.underlying30 rfl (by kernel_rfl)) rfl ?_
  exact ⟨rfl, bb_ HB.out (e_ GE e0_)⟩
 exact absurd hr (by omega)
theorem glyph_full.calls (a0 : Int) (r1 r2 r3 r4 : Int) (w : World) (h : glyph_full.f a0 = some (r1, r2, r3, r4)) :
  Calls Tryd.prog 19 #[.int .i64 a0] w fun e w' => e = .returned (.agg #[.int .i64 r1, .int .i64 r2, .int .i64 r3, .int .i64 r4]) ∧ Below w.heap.size w w' := by
 have hg : 1 ≤ a0 ∧ a0 ≤ 47 := by
  unfold glyph_full.f at h
  by_cases c : 1 ≤ a0 ∧ a0 ≤ 47
  ·exact c
  ·rw [if_neg c] at h; cases h
 by_cases d0 : a0 ≤ 4
 ·exact glyph_full.row0 a0 r1 r2 r3 r4 w (by omega) h
 by_cases d1 : a0 ≤ 12
 ·exact glyph_full.row1 a0 r1 r2 r3 r4 w (by omega) h
 by_cases d2 : a0 ≤ 16
 ·exact glyph_full.row2 a0 r1 r2 r3 r4 w (by omega) h
 by_cases d3 : a0 ≤ 20
 ·exact glyph_full.row3 a0 r1 r2 r3 r4 w (by omega) h
 by_cases d4 : a0 ≤ 25
 ·exact glyph_full.row4 a0 r1 r2 r3 r4 w (by omega) h
 by_cases d5 : a0 ≤ 29
 ·exact glyph_full.row5 a0 r1 r2 r3 r4 w (by omega) h
 by_cases d6 : a0 ≤ 39
 ·exact glyph_full.row6 a0 r1 r2 r3 r4 w (by omega) h
 by_cases d7 : a0 ≤ 47
 ·exact glyph_full.row7 a0 r1 r2 r3 r4 w (by omega) h
 exact absurd hg (by omega)

/-! ### fix_Ok: function 30 -/
def fix_Ok.f (a0 : Int) : Option (Bool) := if (-1099511627776) ≤ a0 then (some (decide (a0 ≤ 1099511627776))) else (some false)
set_option maxHeartbeats 8000000 in
set_option maxRecDepth 100000 in
theorem fix_Ok.calls (a0 : Int) (r : Bool) (w : World) (h : fix_Ok.f a0 = some r) :
  Calls Tryd.prog 30 #[.int .i64 a0] w fun e w' => e = .returned (.bool r) ∧ Drawn0 w w' := by
 have H : (if (-1099511627776) ≤ a0 then (some (decide (a0 ≤ 1099511627776))) else (some false)) = some r := h
 clear h
 by_cases c2 : (-1099511627776) ≤ a0
 ·rw [if_pos c2] at H
  have c2b0 : decide ((-1099511627776) ≤ a0) = true := dt_ c2
  clear c2
  obtain rfl := Option.some.inj H
  go_enter Tryd.func30, Tryd.ntmps30
  go_wp2
  go_ret
  exact ⟨by first | rfl | (simp; done) | (simp [*]; done), by repeat (first | exact Drawn0.refl _ | apply Drawn0.step)⟩
 ·rw [if_neg c2] at H
  have c2b0 : decide ((-1099511627776) ≤ a0) = false := df_ c2
  clear c2
  obtain rfl := Option.some.inj H
  go_enter Tryd.func30, Tryd.ntmps30
  go_wp2
  go_ret
  exact ⟨by first | rfl | (simp; done) | (simp [*]; done), by repeat (first | exact Drawn0.refl _ | apply Drawn0.step)⟩

/-! ### fix_all: function 32 -/
theorem fx_R {w : World} {g base : Nat} {k : IntKind} {e : TypeId} {l : List Int} (h : w.heap[g]? = some (.cells (nums k l).toArray e (0, 0))) (hb : base ≤ g) (hl : l.length ≤ 9223372036854775807) : Kd.R (Kd.int k) e w base (fun _ => True) (.slice (some ⟨g, 0, none⟩) l.length l.length) l :=
 Kd.R_of_own ⟨by simp [encs], .inr ⟨g, l.length, (nums k l).toArray, rfl, hb, h, Nat.le_refl _, by simpa [maxLen] using hl, by simp [nums], by simp [nums, encs, List.take_of_length_le]⟩⟩ (fun _ _ => trivial)
theorem fx_C (W : World) (l : List Int) (hl : l.length ≤ 9223372036854775807) : Kd.C (Kd.int .i64) (W.alloc (.cells (nums .i64 l).toArray 3)) (some ⟨W.heap.size, 0, none⟩) l.length l := by
 have h : (W.alloc (.cells (nums .i64 l).toArray 3)).heap[W.heap.size]? = some (.cells (nums .i64 l).toArray 3 (0, 0)) := heap_alloc_new W _
 obtain ⟨A, c, e, _, hC⟩ := Kd.R_reads (fx_R (base := 0) h (Nat.zero_le _) hl)
 cases e
 exact hC
/-- Is a number a length? -/
def fx_ok (x : Int) : Bool := decide (-1099511627776 ≤ x ∧ x ≤ 1099511627776)
theorem fx_ret {a b : Bool} (h : a = b) : Ending.returned (.bool a) = .returned (.bool b) := by rw [h]
theorem fx_Ok (x : Int) (w : World) : Calls Tryd.prog 30 #[.int .i64 x] w fun e w' => e = .returned (.bool (fx_ok x)) ∧ w' = w := by
 unfold fx_ok
 by_cases c : -1099511627776 ≤ x
 ·go_enter Tryd.func30, Tryd.ntmps30
  go_wp2
  go_ret
  exact ⟨fx_ret (by simp [c]), rfl⟩
 ·go_enter Tryd.func30, Tryd.ntmps30
  go_wp2
  go_ret
  exact ⟨fx_ret (by have q : decide (-1099511627776 ≤ x) = false := df_ (by omega); rw [q]; rfl), rfl⟩
theorem fx_at (l : List Int) (j : Nat) (h : j < l.length) : rd l (j : Int) = l[j] := by
 unfold rd
 rw [Int.toNat_natCast, List.getD_eq_getElem?_getD, List.getElem?_eq_getElem h]
 rfl
theorem fx_none {l : List Int} {j : Nat} (hb : (l.drop j).all fx_ok = true) (hlt : j < l.length) : fx_ok (rd l (j : Int)) = true ∧ (l.drop (j + 1)).all fx_ok = true := by
 rw [List.drop_eq_getElem_cons hlt, List.all_cons, Bool.and_eq_true] at hb
 rw [fx_at l j hlt]
 exact hb
/-- No number is out of bounds: no error. -/
theorem fix_all_ok (A0 : Option Addr) (c0 : Nat) (l0 : List Int) (w : World) (hr0 : Kd.C (Kd.int .i64) w A0 l0.length l0) (hb : l0.all fx_ok = true) :
  Calls Tryd.prog 32 #[.slice A0 l0.length c0] w fun e w' => e = .returned .nilIface ∧ w' = w := by
 have hlen : l0.length ≤ 9223372036854775807 := hr0.2.1
 have HR0 := sd_ hr0
 have HB := sd_ (show (l0.drop 0).all fx_ok = true from hb)
 clear hr0 hb
 go_enter Tryd.func32, Tryd.ntmps32
 go_wp2
 go_loop [7] (fun v7 => ∃ j : Nat, j ≤ l0.length ∧ v7 = .int .i64 j ∧ Aside0 ((l0.drop j).all fx_ok = true)) (fun v7 => l0.length - (intOf v7).toNat)
 case atStart => exact ⟨0, Nat.zero_le _, rfl, HB⟩
 case round =>
  obtain ⟨j, hj, rfl, hA⟩ := hrel
  clear HB
  by_cases hlt : j < l0.length
  ·obtain ⟨ad, e, hcell⟩ := Kd.at_int HR0.out (j : Int) (by omega) (by omega)
   cases e
   obtain ⟨hx, hA2⟩ := fx_none hA.out hlt
   have HA2 := sd_ hA2
   clear hA hA2
   generalize rd l0 (j : Int) = x at hcell hx
   simp only [Int.toNat_natCast] at hcell
   have HO := sd_ (fx_Ok x)
   rw [hx] at HO
   clear hx
   go_wp2_with (go_at_call 30; refine (HO.out _).mono ?_; rintro e w' ⟨rfl, rfl⟩)
   go_round
   case rel => exact ⟨j + 1, by omega, by go_num, HA2⟩
   case measure => simp [intOf]; omega
  ·go_wp2
   go_ret
   exact ⟨rfl, rfl⟩
/-- Some number is out of bounds: an error that holds its code. -/
theorem fix_all_bad (A0 : Option Addr) (c0 : Nat) (l0 : List Int) (w : World) (hr0 : Kd.C (Kd.int .i64) w A0 l0.length l0) (hb : l0.all fx_ok = false) :
  Calls Tryd.prog 32 #[.slice A0 l0.length c0] w fun e w' => e = .returned (.iface 76 (.pointer (some ⟨w.heap.size, 0, none⟩))) ∧ w' = w.alloc (.cells #[.int .i64 3] 78) := by
 have hlen : l0.length ≤ 9223372036854775807 := hr0.2.1
 have HR0 := sd_ hr0
 have HB := sd_ (show (l0.drop 0).all fx_ok = false from hb)
 clear hr0 hb
 go_enter Tryd.func32, Tryd.ntmps32
 go_wp2
 go_loop [7] (fun v7 => ∃ j : Nat, j ≤ l0.length ∧ v7 = .int .i64 j ∧ Aside0 ((l0.drop j).all fx_ok = false)) (fun v7 => l0.length - (intOf v7).toNat)
 case atStart => exact ⟨0, Nat.zero_le _, rfl, HB⟩
 case round =>
  obtain ⟨j, hj, rfl, hA⟩ := hrel
  clear HB
  by_cases hlt : j < l0.length
  ·obtain ⟨ad, e, hcell⟩ := Kd.at_int HR0.out (j : Int) (by omega) (by omega)
   cases e
   have hA2 := hA.out
   rw [List.drop_eq_getElem_cons hlt, List.all_cons, ← fx_at l0 j hlt] at hA2
   clear hA
   generalize rd l0 (j : Int) = x at hcell hA2
   simp only [Int.toNat_natCast] at hcell
   have HO := sd_ (fx_Ok x)
   have HA2 := sd_ hA2
   clear hA2
   cases hx : fx_ok x with
   | true =>
    rw [hx] at HO HA2
    have HA3 := sd_ (show (l0.drop (j + 1)).all fx_ok = false by simpa using HA2.out)
    clear hx HA2
    go_wp2_with (go_at_call 30; refine (HO.out _).mono ?_; rintro e w' ⟨rfl, rfl⟩)
    go_round
    case rel => exact ⟨j + 1, by omega, by go_num, HA3⟩
    case measure => simp [intOf]; omega
   | false =>
    rw [hx] at HO
    clear hx HA2
    go_wp2_with (go_at_call 30; refine (HO.out _).mono ?_; rintro e w' ⟨rfl, rfl⟩)
    go_ret
    exact ⟨rfl, rfl⟩
  ·exfalso
   have := hA.out
   rw [List.drop_eq_nil_of_le (by omega)] at this
   cases this

/-! ### fix_errno: function 37 -/
/-- What errors.As reads: the variable that holds the type of errors. -/
def LaidT (w : World) : Prop := w.cell? ⟨4, 0, none⟩ = some (.iface 119 (.agg #[.pointer (some ⟨6, 73, none⟩)]))
theorem LaidT.below {w w1 : World} (h : LaidT w) (hb : Below w.heap.size w w1) : LaidT w1 := pw_cell_below hb h
theorem var_low {w w1 : World} {n : String} {g : Nat} {cs : Array Value} (hb : Below w.heap.size w w1) (hg : Tryd.prog.globalNamed n = some g) (h : w.var? Tryd.prog n = some cs) (hne : cs ≠ #[]) : w1.var? Tryd.prog n = some cs := by
 refine var?_below hb hg ?_ h
 refine Decidable.byContradiction fun hlt => hne ?_
 unfold World.var? at h
 rw [hg] at h
 simp [Array.getElem?_eq_none (Nat.le_of_not_lt hlt)] at h
/-- What the listed variables hold: the type of errors, the table of blanks. -/
def LaidE (w : World) : Prop := LaidT w ∧ Go.Lib.TabIs Tryd.prog w "strings.asciiSpace" .u8 Go.Lib.asciiSpaceTab
theorem LaidE.below {w w1 : World} (h : LaidE w) (hb : Below w.heap.size w w1) : LaidE w1 := ⟨h.1.below hb, var_low (g := 0) hb (by kernel_rfl) h.2 (by simp [Go.Lib.asciiSpaceTab])⟩
theorem LaidE.t {w : World} (h : LaidE w) : LaidT w := h.1
open Go.Extern.Stop Go.Stop Go.Extern in
/-- errors.As(nil, target). -/
theorem ea_nil (t : Value) (w : World) :
  Calls Tryd.prog 41 #[.nilIface, t] w fun e w' => e = .returned (.bool false) ∧ w' = w := by
 go_enter Tryd.func41, Tryd.ntmps41
 go_wp2
 go_ret
 exact ⟨rfl, rfl⟩
/-! the entries for internal/reflectlite, after the kit's worked proof of errors.As -/
open Go.Extern.Stop Go.Stop Go.Extern in
theorem ea_valueOfPP (t : Addr) (w : World) : (ReflectliteValue.unpack (.iface 104 (.pointer (some t)))).run Tryd.prog w
  = .ok (.agg #[.pointer (some ⟨6, 104, none⟩), .pointer (some ⟨w.heap.size, 0, none⟩), .int .u64 150]) (w.alloc (.cells #[.pointer (some t)] 104)) := by kernel_rfl
open Go.Extern.Stop Go.Stop Go.Extern in
theorem ea_typePP (a : Addr) (w : World) : (ReflectliteValue.methodAny (ReflectliteValue.valueError "reflectlite.Value.Type" 0) (fun t _ _ _ => ReflectliteType.toType t) #[.agg #[.pointer (some ⟨6, 104, none⟩), .pointer (some a), .int .u64 150]]).run Tryd.prog w
  = .ok (.iface 119 (.agg #[.pointer (some ⟨6, 104, none⟩)])) w := by kernel_rfl
open Go.Extern.Stop Go.Stop Go.Extern in
theorem ea_methodKind (h : Value) (w : World) : (Go.method 263 119 (.agg #[h]) "Kind").run Tryd.prog w = .ok (65, h) w := by kernel_rfl
open Go.Extern.Stop Go.Stop Go.Extern in
theorem ea_kindPP (w : World) : ((ReflectliteType.abiMethod fun t => (fun a : Nat => Value.int IntKind.u8 (a : Int)) <$> Rtype.kind t) #[.pointer (some ⟨6, 104, none⟩)]).run Tryd.prog w = .ok (.int .u8 22) w := by kernel_rfl
open Go.Extern.Stop Go.Stop Go.Extern in
theorem ea_kindP (w : World) : ((ReflectliteType.abiMethod fun t => (fun a : Nat => Value.int IntKind.u8 (a : Int)) <$> Rtype.kind t) #[.pointer (some ⟨6, 76, none⟩)]).run Tryd.prog w = .ok (.int .u8 22) w := by kernel_rfl
open Go.Extern.Stop Go.Stop Go.Extern in
theorem ea_rlm (z : Sem Value) (f : TypeId → Addr → Nat → Nat → Sem Value) (v : Value) :
  ReflectliteValue.method z f #[v] = (do match ← ReflectliteValue.parts v with | none => z | some (t, a, fl) => f t a fl (fl % 32)) := rfl
open Go.Extern.Stop Go.Stop Go.Extern in
theorem ea_partsPP (a : Addr) (w : World) : (ReflectliteValue.parts (.agg #[.pointer (some ⟨6, 104, none⟩), .pointer (some a), .int .u64 150])).run Tryd.prog w = .ok (some (104, a, 150)) w := by kernel_rfl
open Go.Extern.Stop Go.Stop Go.Extern in
/-- (Value).IsNil at the Value of a **p.E that is not nil. -/
theorem ea_isNilPP (a p : Addr) (W : World) (ha : W.cell? a = some (.pointer (some p))) :
  (ReflectliteValue.method (ReflectliteValue.valueError "reflectlite.Value.IsNil" 0) ReflectliteValue.isNil #[.agg #[.pointer (some ⟨6, 104, none⟩), .pointer (some a), .int .u64 150]]).run Tryd.prog W = .ok (.bool false) W := by
 rw [ea_rlm]
 simp only [Sem.run_bind, ea_partsPP, Result.andThen]
 simp [ReflectliteValue.isNil, loadVar, isAgg, underlying, Tryd.underlying104, ha, Result.andThen]
open Go.Extern.Stop Go.Stop Go.Extern in
theorem ea_methodElem (h : Value) (w : World) : (Go.method 263 119 (.agg #[h]) "Elem").run Tryd.prog w = .ok (75, .agg #[h]) w := by kernel_rfl
open Go.Extern.Stop Go.Stop Go.Extern in
theorem ea_methodImplements (h : Value) (w : World) : (Go.method 263 119 (.agg #[h]) "Implements").run Tryd.prog w = .ok (76, .agg #[h]) w := by kernel_rfl
open Go.Extern.Stop Go.Stop Go.Extern in
theorem ea_methodAssignableTo (h : Value) (w : World) : (Go.method 263 119 (.agg #[h]) "AssignableTo").run Tryd.prog w = .ok (73, .agg #[h]) w := by kernel_rfl
open Go.Extern.Stop Go.Stop Go.Extern in
theorem ea_elemPP (w : World) : (ReflectliteType.method ReflectliteType.elem #[.agg #[.pointer (some ⟨6, 104, none⟩)]]).run Tryd.prog w = .ok (.iface 119 (.agg #[.pointer (some ⟨6, 76, none⟩)])) w := by kernel_rfl
open Go.Extern.Stop Go.Stop Go.Extern in
theorem ea_implementsP (w : World) : (ReflectliteType.relation "Implements" ReflectliteType.implements_ #[.agg #[.pointer (some ⟨6, 76, none⟩)], .iface 119 (.agg #[.pointer (some ⟨6, 73, none⟩)])]).run Tryd.prog w = .ok (.bool true) w := by kernel_rfl
open Go.Extern.Stop Go.Stop Go.Extern in
theorem ea_typeOfP (v : Value) (w : World) : (ReflectliteType.typeOf #[.iface 76 v]).run Tryd.prog w = .ok (.iface 119 (.agg #[.pointer (some ⟨6, 76, none⟩)])) w := by kernel_rfl
open Go.Extern.Stop Go.Stop Go.Extern in
theorem ea_assignableP (w : World) : (ReflectliteType.relation "AssignableTo" ReflectliteType.assignableTo #[.agg #[.pointer (some ⟨6, 76, none⟩)], .iface 119 (.agg #[.pointer (some ⟨6, 76, none⟩)])]).run Tryd.prog w = .ok (.bool true) w := by kernel_rfl
open Go.Extern.Stop Go.Stop Go.Extern in
theorem ea_valueOfP (e : Addr) (w : World) : (ReflectliteValue.unpack (.iface 76 (.pointer (some e)))).run Tryd.prog w
  = .ok (.agg #[.pointer (some ⟨6, 76, none⟩), .pointer (some ⟨w.heap.size, 0, none⟩), .int .u64 150]) (w.alloc (.cells #[.pointer (some e)] 76)) := by kernel_rfl
open Go.Extern.Stop Go.Stop Go.Extern in
theorem ea_elemOfPP (w : World) : (Rtype.elem? 104).run Tryd.prog w = .ok (some 76) w := by kernel_rfl
open Go.Extern.Stop Go.Stop Go.Extern in
theorem ea_mkP (p : Addr) (w : World) : (ReflectliteValue.mk 76 p ReflectliteValue.flagAddr).run Tryd.prog w = .ok (.agg #[.pointer (some ⟨6, 76, none⟩), .pointer (some p), .int .u64 406]) w := by kernel_rfl
open Go.Extern.Stop Go.Stop Go.Extern in
/-- (Value).Elem at the Value of a **p.E that is not nil: the Value of the *p.E variable that it points to, addressable. -/
theorem ea_elemVPP (a p : Addr) (W : World) (ha : W.cell? a = some (.pointer (some p))) :
  (ReflectliteValue.method (ReflectliteValue.valueError "reflectlite.Value.Elem" 0) ReflectliteValue.elem #[.agg #[.pointer (some ⟨6, 104, none⟩), .pointer (some a), .int .u64 150]]).run Tryd.prog W
   = .ok (.agg #[.pointer (some ⟨6, 76, none⟩), .pointer (some p), .int .u64 406]) W := by
 rw [ea_rlm]
 simp only [Sem.run_bind, ea_partsPP, Result.andThen]
 simp [ReflectliteValue.elem, loadVar, isAgg, underlying, Tryd.underlying104, ha, Result.andThen, ea_elemOfPP, ea_mkP]
open Go.Extern.Stop Go.Stop Go.Extern in
theorem ea_rls (v x : Value) : ReflectliteValue.set #[v, x] = (do
  let (some (dst, a, fl), some (src, b, _)) := (← ReflectliteValue.parts v, ← ReflectliteValue.parts x)
   | unsupported (.noEntry "extern/(internal/reflectlite.Value).Set.zeroValue")
  if fl / ReflectliteValue.flagAddr % 2 == 0 then unsupported (.noEntry "extern/(internal/reflectlite.Value).Set.unaddressable")
  let val ← loadVar src b
  if ← Rtype.directlyAssignable dst src then storeVar dst a val
  else if ← Rtype.implements dst src then
   if (← Rtype.kind src) == 20 then
    match val with
    | .nilIface => unsupported (.noEntry "extern/reflectlite: a nil value of one interface type handed on as a value of another")
    | _ => storeVar dst a val
   else storeVar dst a (.iface src val)
  else panicString ("reflectlite.Set: value of type " ++ (← Rtype.spelt src) ++ " is not assignable to type " ++ (← Rtype.spelt dst))
  pure (.tuple #[])) := rfl
open Go.Extern.Stop Go.Stop Go.Extern in
theorem ea_partsPa (a : Addr) (w : World) : (ReflectliteValue.parts (.agg #[.pointer (some ⟨6, 76, none⟩), .pointer (some a), .int .u64 406])).run Tryd.prog w = .ok (some (76, a, 406)) w := by kernel_rfl
open Go.Extern.Stop Go.Stop Go.Extern in
theorem ea_partsP (a : Addr) (w : World) : (ReflectliteValue.parts (.agg #[.pointer (some ⟨6, 76, none⟩), .pointer (some a), .int .u64 150])).run Tryd.prog w = .ok (some (76, a, 150)) w := by kernel_rfl
open Go.Extern.Stop Go.Stop Go.Extern in
theorem ea_directP (w : World) : (Rtype.directlyAssignable 76 76).run Tryd.prog w = .ok true w := by kernel_rfl
open Go.Extern.Stop Go.Stop Go.Extern in
theorem ea_sizeP (w : World) : (sizeOf 76).run Tryd.prog w = .ok 1 w := by kernel_rfl
open Go.Extern.Stop Go.Stop Go.Extern in
/-- (Value).Set: the *p.E variable at 'ta' gets what the Value's own variable 'b' holds. -/
theorem ea_setP (ta b e : Addr) (old : Value) (W : World) (hb : W.cell? b = some (.pointer (some e))) (ht : W.cell? ta = some old) (hf : W.frozen? ta = false) :
  (ReflectliteValue.set #[.agg #[.pointer (some ⟨6, 76, none⟩), .pointer (some ta), .int .u64 406], .agg #[.pointer (some ⟨6, 76, none⟩), .pointer (some b), .int .u64 150]]).run Tryd.prog W
   = .ok (.tuple #[]) (W.setCell ta (.pointer (some e))) := by
 rw [ea_rls]
 simp only [Sem.run_bind, ea_partsPa, ea_partsP, Result.andThen]
 simp [ReflectliteValue.flagAddr, loadVar, isAgg, underlying, Tryd.underlying76, hb, Result.andThen, ea_directP, storeVar, Value.cells, storeCells, Addr.add]
 rw [run_store Tryd.prog W ta _ _ (by rfl)]
 simp [ht, hf]
open Go.Extern.Stop Go.Stop Go.Extern in
set_option maxHeartbeats 4000000 in
theorem ea_hit (e t : Addr) (old : Value) (w : World) (hg : w.cell? ⟨4, 0, none⟩ = some (.iface 119 (.agg #[.pointer (some ⟨6, 73, none⟩)]))) (ht0 : w.cell? t = some old) (hf0 : w.frozen? t = false) :
  Calls Tryd.prog 41 #[.iface 76 (.pointer (some e)), .iface 104 (.pointer (some t))] w fun ev w' => ev = .returned (.bool true) ∧ w' = ((((w.alloc (.cells #[.pointer (some t)] 104)).alloc (.cells #[.pointer (some ⟨6, 104, none⟩), .pointer (some ⟨w.heap.size, 0, none⟩), .int .u64 150] 109)).alloc (.cells #[.pointer (some ⟨6, 104, none⟩), .pointer (some ⟨w.heap.size, 0, none⟩), .int .u64 150] 109)).alloc (.cells #[.pointer (some e)] 76)).setCell t (.pointer (some e)) := by
 have h6 := @run_callFunc_extern Tryd.prog 43 _ (fun args => ReflectliteValue.unpack (args.getD 0 (.tuple #[]))) Tryd.func43 (by kernel_rfl) (by kernel_rfl) (by kernel_rfl) (by kernel_rfl)
 have h7 := @run_callFunc_extern Tryd.prog 44 _ (ReflectliteValue.methodAny (ReflectliteValue.valueError "reflectlite.Value.Type" 0) (fun t _ _ _ => ReflectliteType.toType t)) Tryd.func44 (by kernel_rfl) (by kernel_rfl) (by kernel_rfl) (by kernel_rfl)
 have h8 := @run_callFunc_extern Tryd.prog 45 _ (ReflectliteValue.method (ReflectliteValue.valueError "reflectlite.Value.IsNil" 0) ReflectliteValue.isNil) Tryd.func45 (by kernel_rfl) (by kernel_rfl) (by kernel_rfl) (by kernel_rfl)
 have h27 := @run_callFunc_extern Tryd.prog 65 _ (ReflectliteType.abiMethod fun t => do pure (.int .u8 (← Rtype.kind t))) Tryd.func65 (by kernel_rfl) (by kernel_rfl) (by kernel_rfl) (by kernel_rfl)
 have h37 := @run_callFunc_extern Tryd.prog 75 _ (ReflectliteType.method ReflectliteType.elem) Tryd.func75 (by kernel_rfl) (by kernel_rfl) (by kernel_rfl) (by kernel_rfl)
 have h38 := @run_callFunc_extern Tryd.prog 76 _ (ReflectliteType.relation "Implements" ReflectliteType.implements_) Tryd.func76 (by kernel_rfl) (by kernel_rfl) (by kernel_rfl) (by kernel_rfl)
 have h10 := @run_callFunc_extern Tryd.prog 48 _ ReflectliteType.typeOf Tryd.func48 (by kernel_rfl) (by kernel_rfl) (by kernel_rfl) (by kernel_rfl)
 have h35 := @run_callFunc_extern Tryd.prog 73 _ (ReflectliteType.relation "AssignableTo" ReflectliteType.assignableTo) Tryd.func73 (by kernel_rfl) (by kernel_rfl) (by kernel_rfl) (by kernel_rfl)
 have h11 := @run_callFunc_extern Tryd.prog 49 _ (ReflectliteValue.method (ReflectliteValue.valueError "reflectlite.Value.Elem" 0) ReflectliteValue.elem) Tryd.func49 (by kernel_rfl) (by kernel_rfl) (by kernel_rfl) (by kernel_rfl)
 have h12 := @run_callFunc_extern Tryd.prog 50 _ ReflectliteValue.set Tryd.func50 (by kernel_rfl) (by kernel_rfl) (by kernel_rfl) (by kernel_rfl)
 have tO := ea_typeOfP
 have mA := ea_methodAssignableTo
 have a25 := ea_assignableP
 have v25 := ea_valueOfP
 have f6 := ea_valueOfPP
 have f7 := ea_typePP
 have mK := ea_methodKind
 have mE := ea_methodElem
 have mI := ea_methodImplements
 have k27 := ea_kindPP
 have k25 := ea_kindP
 have e27 := ea_elemPP
 have i25 := ea_implementsP
 have n8 := ea_isNilPP ⟨w.heap.size, 0, none⟩ t ((w.alloc (.cells #[.pointer (some t)] 104)).alloc (.cells #[.pointer (some ⟨6, 104, none⟩), .pointer (some ⟨w.heap.size, 0, none⟩), .int .u64 150] 109)) (by simp)
 have hlt : 4 < w.heap.size := World.block_lt_of_cell? w _ hg
 have hg2 : ((w.alloc (.cells #[.pointer (some t)] 104)).alloc (.cells #[.pointer (some ⟨6, 104, none⟩), .pointer (some ⟨w.heap.size, 0, none⟩), .int .u64 150] 109)).cell? ⟨4, 0, none⟩ = some (.iface 119 (.agg #[.pointer (some ⟨6, 73, none⟩)])) := by
  rw [World.cell?_alloc_lt _ _ ⟨4, 0, none⟩ (Nat.lt_trans hlt (by rw [World.size_alloc]; exact Nat.lt_succ_self _)), World.cell?_alloc_lt _ _ ⟨4, 0, none⟩ hlt]; exact hg
 have htl : t.block < w.heap.size := by
  rcases Nat.lt_or_ge t.block w.heap.size with h | h
  ·exact h
  ·simp [World.cell?, Array.getElem?_eq_none h] at ht0
 have el := ea_elemVPP ⟨w.heap.size, 0, none⟩ t (((w.alloc (.cells #[.pointer (some t)] 104)).alloc (.cells #[.pointer (some ⟨6, 104, none⟩), .pointer (some ⟨w.heap.size, 0, none⟩), .int .u64 150] 109)).alloc (.cells #[.pointer (some ⟨6, 104, none⟩), .pointer (some ⟨w.heap.size, 0, none⟩), .int .u64 150] 109)) (by rw [World.cell?_alloc_lt _ _ ⟨w.heap.size, 0, none⟩ (by simp; omega)]; simp)
 have st := ea_setP t ⟨w.heap.size + 1 + 1 + 1, 0, none⟩ e old ((((w.alloc (.cells #[.pointer (some t)] 104)).alloc (.cells #[.pointer (some ⟨6, 104, none⟩), .pointer (some ⟨w.heap.size, 0, none⟩), .int .u64 150] 109)).alloc (.cells #[.pointer (some ⟨6, 104, none⟩), .pointer (some ⟨w.heap.size, 0, none⟩), .int .u64 150] 109)).alloc (.cells #[.pointer (some e)] 76))
  (by rw [World.cell?_alloc_at _ _ _ _ (by simp)]; rfl)
  (by rw [World.cell?_alloc_lt _ _ t (by simp; omega), World.cell?_alloc_lt _ _ t (by simp; omega), World.cell?_alloc_lt _ _ t (by simp; omega), World.cell?_alloc_lt _ _ t htl]; exact ht0)
  (by rw [World.frozen?_alloc_old _ _ t (by simp; omega), World.frozen?_alloc_old _ _ t (by simp; omega), World.frozen?_alloc_old _ _ t (by simp; omega), World.frozen?_alloc_old _ _ t (nn_ htl)]; exact hf0)
 go_enter Tryd.func41, Tryd.ntmps41
 go_wp2
 refine wp_loop_rounds 1 ?_
 rw [rounds_succ]
 go_wp2
 go_ret
 exact ⟨rfl, rfl⟩
theorem errno_as (w : World) (g : Nat) (c : Int) (hE : LaidT w) (hg : w.cell? ⟨g, 0, none⟩ = some (.int .i64 c)) :
  Calls Tryd.prog 41 #[.iface 76 (.pointer (some ⟨g, 0, none⟩)), .iface 104 (.pointer (some ⟨w.heap.size, 0, none⟩))] (w.alloc (.cells #[.pointer none] 76)) fun e w' => e = .returned (.bool true) ∧ w'.cell? ⟨w.heap.size, 0, none⟩ = some (.pointer (some ⟨g, 0, none⟩)) ∧ w'.cell? ⟨g, 0, none⟩ = some (.int .i64 c) ∧ Below w.heap.size w w' := by
 have hb0 : Below w.heap.size w (w.alloc (.cells #[.pointer none] 76)) := ba_ (Below.refl _ _) _
 refine (ea_hit ⟨g, 0, none⟩ ⟨w.heap.size, 0, none⟩ (.pointer none) _ (hE.below hb0) (by simp) (by simp)).mono ?_
 rintro e w' ⟨rfl, rfl⟩
 have hb : Below w.heap.size w ((((((w.alloc (.cells #[.pointer none] 76)).alloc (.cells #[.pointer (some ⟨w.heap.size, 0, none⟩)] 104)).alloc (.cells #[.pointer (some ⟨6, 104, none⟩), .pointer (some ⟨(w.alloc (.cells #[.pointer none] 76)).heap.size, 0, none⟩), .int .u64 150] 109)).alloc (.cells #[.pointer (some ⟨6, 104, none⟩), .pointer (some ⟨(w.alloc (.cells #[.pointer none] 76)).heap.size, 0, none⟩), .int .u64 150] 109)).alloc (.cells #[.pointer (some ⟨g, 0, none⟩)] 76)).setCell ⟨w.heap.size, 0, none⟩ (.pointer (some ⟨g, 0, none⟩))) :=
  bs_ (ba_ (ba_ (ba_ (ba_ hb0 _) _) _) _) (Nat.le_refl _)
 refine ⟨rfl, World.cell?_setCell_same _ _ _ (u := .pointer none) ?_, pw_cell_below hb hg, hb⟩
 have h0 : (w.alloc (.cells #[.pointer none] 76)).cell? ⟨w.heap.size, 0, none⟩ = some (.pointer none) := by simp
 exact pw_cell_below (ba_ (ba_ (ba_ (ba_ (Below.refl _ _) _) _) _) _) h0
theorem errno_hit (w : World) (g : Nat) (c : Int) (hE : LaidT w) (hg : w.cell? ⟨g, 0, none⟩ = some (.int .i64 c)) :
  Calls Tryd.prog 37 #[.iface 76 (.pointer (some ⟨g, 0, none⟩))] w fun e w' => e = .returned (.int .i64 c) ∧ Below w.heap.size w w' := by
 have HA := sd_ (errno_as w g c hE hg)
 clear hE hg
 go_enter Tryd.func37, Tryd.ntmps37
 go_wp2_with (go_at_call 41; refine HA.out.mono ?_; rintro e w' ⟨rfl, h1, h2, hb⟩; have HB := sd_ hb; clear hb)
 go_ret
 exact ⟨rfl, HB.out⟩

/-! ### glyph_Name: function 8 -/
def nameWords (row i : Int) : Option (List UInt8) := (glyph_names.f row).bind fun s => (Go.Lib.fields s.data.toList)[i.toNat]?
def nameAt (g : Int) : Option (Int × Int × ByteArray × List UInt8) := (glyph_rowOf.f 20 g).bind fun p => (glyph_names.f p.1).bind fun s => ((Go.Lib.fields s.data.toList)[p.2.toNat]?).bind fun l => if s.size < 1000 ∧ (s.data.toList.all fun b => decide (b.toNat < 128)) = true ∧ 0 ≤ p.2 then some (p.1, p.2, s, l) else none
def glyph_Name.f (g : Int) : Option ByteArray := if 1 ≤ g ∧ g ≤ 47 then (nameAt g).map fun q => ⟨q.2.2.2.toArray⟩ else some ByteArray.empty
theorem nm_cell {W0 w1 : World} {n : Nat} {t : TypeId} {arr : Array Value} (h : w1 = W0.alloc (.cells arr t (0, 0))) (hV : W0.heap.size = n) {j : Nat} {v : Value} (hv : arr[j]? = some v) : w1.cell? ⟨n, j, none⟩ = some v := by
 subst h
 subst hV
 exact (kc_ (blk_new W0 _) j).trans hv
theorem nm_below {W0 w w1 : World} {o : Obj} (hb : Below w.heap.size w W0) (h : w1 = W0.alloc o) : Below w.heap.size w w1 := by
 subst h
 exact ba_ hb _
theorem name_all : ((List.range 47).all fun g => (nameAt ((g : Int) + 1)).isSome) = true := by kernel_rfl
theorem known_t {a0 : Int} (h : 1 ≤ a0 ∧ a0 ≤ 47) : glyph_Known.f a0 = some true := by
 unfold glyph_Known.f
 rw [if_pos h.1, dt_ h.2]
theorem known_f {a0 : Int} (h : ¬ (1 ≤ a0 ∧ a0 ≤ 47)) : glyph_Known.f a0 = some false := by
 unfold glyph_Known.f
 by_cases c : a0 ≥ 1
 ·rw [if_pos c, df_ (fun q => h ⟨c, q⟩)]
 ·rw [if_neg c]
set_option maxHeartbeats 8000000 in
set_option maxRecDepth 100000 in
theorem glyph_Name.calls (a0 : Int) (r : ByteArray) (w : World) (hE : Aside0 (LaidE w)) (h : glyph_Name.f a0 = some r) :
  Calls Tryd.prog 8 #[.int .i64 a0] w fun e w' => e = .returned (.string r) ∧ Below w.heap.size w w' := by
 unfold glyph_Name.f at h
 by_cases c : 1 ≤ a0 ∧ a0 ≤ 47
 ·rw [if_pos c] at h
  obtain ⟨⟨row, i, s, l⟩, hq, rfl⟩ := Option.map_eq_some_iff.1 h
  clear h
  unfold nameAt at hq
  obtain ⟨⟨r0, i0⟩, h1, hq1⟩ := Option.bind_eq_some_iff.1 hq
  obtain ⟨s0, h2, hq2⟩ := Option.bind_eq_some_iff.1 hq1
  obtain ⟨l0, h3, hq3⟩ := Option.bind_eq_some_iff.1 hq2
  clear hq hq1 hq2
  have hq := hq3
  clear hq3
  split at hq
  ·rename_i hc
   simp only [Option.some.injEq, Prod.mk.injEq] at hq
   obtain ⟨rfl, rfl, rfl, rfl⟩ := hq
   simp only at h2 h3 hc
   have hasc : ∀ (j : Nat) b, s0.data.toList[j]? = some b → b.toNat < 128 := fun j b hb => od_ (List.all_eq_true.1 hc.2.1 b (List.mem_of_getElem? hb))
   have hlen : i0.toNat < (Go.Lib.fields s0.data.toList).length := (List.getElem?_eq_some_iff.1 h3).1
   have hi0 : 0 ≤ i0 := hc.2.2
   have HK := sd_ (fun W => glyph_Known.calls a0 true W (known_t c))
   have HR := sd_ (fun W => glyph_rowOf.calls 20 a0 r0 i0 W h1)
   have HN := sd_ (fun W => glyph_names.calls r0 s0 W h2)
   have HF := sd_ (fun W ht => Tryd.strings_Fields s0 W (by omega) hasc ht)
   clear c h1 h2 hasc hc
   generalize Go.Lib.fields s0.data.toList = L at HF h3 hlen
   have hL : ∀ j : Nat, ((L.map fun l : List UInt8 => Value.string ⟨l.toArray⟩).toArray)[j]? = (L[j]?).map fun l : List UInt8 => Value.string ⟨l.toArray⟩ := fun j => by simp
   have hi1 : i0 < (L.length : Int) := by omega
   have A3 := sd_ h3
   have AL := sd_ hL
   clear h3 hL hlen
   go_enter Tryd.func8, Tryd.ntmps8
   go_wp2_with (first | (go_at_call 9; refine (HK.out _).mono ?_; rintro e w1 ⟨rfl, hd⟩; obtain ⟨n1, rfl⟩ := hd.out; clear hd) | (go_at_call 14; refine (HR.out _).mono ?_; rintro e w1 ⟨rfl, hd⟩; obtain ⟨n2, rfl⟩ := hd.out; clear hd) | (go_at_call 16; refine (HN.out _).mono ?_; rintro e w1 ⟨rfl, hd⟩; obtain ⟨n3, rfl⟩ := hd.out; clear hd) | (go_at_call 15; refine (HF.out _ ?_).mono ?_; (focus exact (LaidE.below hE.out (bb_ (Below.refl _ _) e0_)).2); rintro e w1 ⟨rfl, hw1⟩; have hcell := nm_cell (n := w.heap.size) hw1 (by simp) ((AL.out i0.toNat).trans (congrArg _ A3.out)); have HB := sd_ (nm_below (w := w) (bb_ (Below.refl _ _) e0_) hw1); clear hw1))
   go_ret
   exact ⟨rfl, HB.out⟩
  ·cases hq
 ·rw [if_neg c] at h
  obtain rfl := Option.some.inj h
  have HK := sd_ (fun W => glyph_Known.calls a0 false W (known_f c))
  clear c h
  go_enter Tryd.func8, Tryd.ntmps8
  go_wp2_with (first | (go_at_call 9; refine (HK.out _).mono ?_; rintro e w1 ⟨rfl, hd⟩; obtain ⟨n1, rfl⟩ := hd.out; clear hd))
  go_ret
  exact ⟨rfl, bb_ (Below.refl _ _) e0_⟩

end Go.Proofs.YtbinlfichkdhlaaDoor.P
