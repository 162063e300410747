-- Written by a program of this session (wip/tools/xprint.py, over the kit's print): Lean checks it.
import Derived.Test.YtchmcljinkemaaaPx0
import Derived.Test.YtchmcljinkemaaaPx1
import Derived.Test.YtchmcljinkemaaaPx2
namespace Go.Proofs.Ytchmcljinkemaaa.P
open Go.RowKit Go.Proofs.YtchmcljinkemaaaW.PrintWords Go.Proofs.YtchmcljinkemaaaW.PrintLast Go.Proofs.YtchmcljinkemaaaW.PrintMore
attribute [local go_sem] max2_int min2_int max_two min_two max_three min_three max_four min_four   -- for this text's walks alone
set_option linter.unusedVariables false
set_option linter.unusedSimpArgs false

/-! ### voices_meets: function 33 -/
def meetB (x y : S45) : Bool := (box_Meet.f x.f0 x.f1 x.f2 x.f3 y.f0 y.f1 y.f2 y.f3).getD false
theorem meet_some (x y : S45) : box_Meet.f x.f0 x.f1 x.f2 x.f3 y.f0 y.f1 y.f2 y.f3 = some (meetB x y) := by
 unfold meetB
 cases h : box_Meet.f x.f0 x.f1 x.f2 x.f3 y.f0 y.f1 y.f2 y.f3 with
 | some b => rfl
 | none =>
  exfalso
  unfold box_Meet.f box_Check.f box_overlap.f at h
  simp only [Option.bind_some] at h
  repeat' (split at h)
  all_goals first | cases h | (simp at h)
def mvB (x : S45) (by_ : Int) : S45 := ⟨wrap64 (x.f0 + by_), x.f1, wrap64 (x.f2 + by_), x.f3⟩
set_option maxHeartbeats 4000000 in
set_option maxRecDepth 100000 in
theorem clo_meet (gm : Nat) (m x : S45) (w : World) (hm : w.heap[gm]? = some (.cells #[.int .i64 m.f0, .int .i64 m.f1, .int .i64 m.f2, .int .i64 m.f3] 45 (0, 0))) {b : Bool} (hb : meetB x m = b) : Calls Try.prog 43 #[.agg #[.int .i64 x.f0, .int .i64 x.f1, .int .i64 x.f2, .int .i64 x.f3], .pointer (some ⟨gm, 0, none⟩)] w fun e w' => e = .returned (.bool b) ∧ Below w.heap.size w w' := by
 have HN := sd_ (meet_some x m)
 rw [hb] at HN
 have HM := sd_ hm
 clear hb hm
 go_enter Try.func43, Try.ntmps43
 go_wp2_with (first | ((with_reducible refine gate_dst (N := 2) rfl ?_); refine box_event ?hg (N := 2) ?hd (cs := #[.int .i64 x.f0, .int .i64 x.f1, .int .i64 x.f2, .int .i64 x.f3]) (t := 45) ?hr ?_; (case hd => rfl); (case hg => rfl); (case hr => first | (go_simp; done) | (go_simp; rfl)); intro g1 hg w6 hbox hb; have BK := sd_ hbox; have HB := sd_ hb; have HM6 := blk_below HM.out hb; have hv0 : w6.cell? ⟨gm, 0, none⟩ = some (.int .i64 m.f0) := (kc_ HM6 0).trans rfl; have hv1 : w6.cell? ⟨gm, 1, none⟩ = some (.int .i64 m.f1) := (kc_ HM6 1).trans rfl; have hv2 : w6.cell? ⟨gm, 2, none⟩ = some (.int .i64 m.f2) := (kc_ HM6 2).trans rfl; have hv3 : w6.cell? ⟨gm, 3, none⟩ = some (.int .i64 m.f3) := (kc_ HM6 3).trans rfl; clear HM6; clear hb hbox hg; have hz0 : w6.cell? ⟨g1, 0, none⟩ = some (.int .i64 x.f0) := (kc_ BK.out 0).trans rfl; have hz1 : w6.cell? ⟨g1, 1, none⟩ = some (.int .i64 x.f1) := (kc_ BK.out 1).trans rfl; have hz2 : w6.cell? ⟨g1, 2, none⟩ = some (.int .i64 x.f2) := (kc_ BK.out 2).trans rfl; have hz3 : w6.cell? ⟨g1, 3, none⟩ = some (.int .i64 x.f3) := (kc_ BK.out 3).trans rfl) | ((with_reducible refine gate_callee (f := 44) rfl ?_); refine goesL_ (some 6) rfl rfl Try.func44 (by kernel_rfl) rfl #[.agg #[.int .i64 x.f0, .int .i64 x.f1, .int .i64 x.f2, .int .i64 x.f3], .agg #[.int .i64 m.f0, .int .i64 m.f1, .int .i64 m.f2, .int .i64 m.f3]] rfl (by (try simp only [lm_, lq_, lx_]); first | done | rfl | (simp only [ld_, lt_]; rfl)) ?_; (with_reducible refine (box_Meet.calls x.f0 x.f1 x.f2 x.f3 m.f0 m.f1 m.f2 m.f3 b _ HN.out).mono ?_); rintro e w7 ⟨rfl, hb⟩; refine ⟨_, rfl, ?_⟩; have HB7 := sd_ (bt_ HB.out hb); clear hb))
 go_ret
 exact ⟨rfl, HB7.out⟩
/-- Where it stands: at 0 or behind just if there is one. -/
def FoundI_meet (b : Bool) (w : World) (e : Ending) (w' : World) : Prop := ∃ r : Int, e = .returned (.int .i64 r) ∧ decide (0 ≤ r) = b ∧ Below w.heap.size w w'
set_option maxHeartbeats 8000000 in
set_option maxRecDepth 100000 in
theorem idx_meet (gm : Nat) (m : S45) (A0 : Option Addr) (c0 : Nat) (l0 : List S45) (w : World) (hr0 : Kd.C k45 w A0 l0.length l0) (hl : l0.length ≤ 100000) (hm : w.heap[gm]? = some (.cells #[.int .i64 m.f0, .int .i64 m.f1, .int .i64 m.f2, .int .i64 m.f3] 45 (0, 0))) :
  Calls Try.prog 46 #[.slice A0 l0.length c0, .func (.func 43) #[] #[.pointer (some ⟨gm, 0, none⟩)]] w (FoundI_meet (l0.any (fun x => meetB x m)) w) := by
 have HR0 := sd_ hr0
 have HM := sd_ hm
 clear hm
 clear hr0
 go_enter Try.func46, Try.ntmps46
 go_wp2
 go_loopw [8] (fun v8 wr => ∃ i : Nat, v8 = .int .i64 (i : Int) ∧ i ≤ l0.length ∧ Aside0 (∀ j, j < i → (fun x => meetB x m) (l0.getD j z45) = false) ∧ Aside0 (Below w.heap.size w wr)) (fun v8 _ => l0.length - (intOf v8).toNat)
 case atStart => exact ⟨0, rfl, Nat.zero_le _, ⟨fun j h => absurd h (Nat.not_lt_zero j)⟩, ⟨Below.refl _ _⟩⟩
 case round =>
  obtain ⟨i, rfl, hi, HN, HB⟩ := hrel
  by_cases hlt : i < l0.length
  ·obtain ⟨ad, e1, hx0, hx1, hx2, hx3⟩ := at_T45 HR0.out (i : Int) (by omega) (by omega)
   cases e1
   rw [Int.toNat_natCast] at hx0 hx1 hx2 hx3
   have hy0 := pw_cell_below HB.out hx0
   have hy1 := pw_cell_below HB.out hx1
   have hy2 := pw_cell_below HB.out hx2
   have hy3 := pw_cell_below HB.out hx3
   have ex : rd_T45 l0 (i : Int) = l0.getD i z45 := by unfold rd_T45; rw [Int.toNat_natCast]
   rw [ex] at hy0 hy1 hy2 hy3
   clear hx0 hx1 hx2 hx3 ex
   obtain ⟨x, hx⟩ : ∃ x, l0.getD i z45 = x := ⟨_, rfl⟩
   rw [hx] at hy0 hy1 hy2 hy3
   obtain ⟨b, hb0⟩ : ∃ b, (fun x => meetB x m) x = b := ⟨_, rfl⟩
   have HX := sd_ hx
   have HP := sd_ hb0
   clear hx hb0
   have hi1 : IntKind.i64.wrap ((i : Int) + 1) = (i : Int) + 1 := by rw [i64_w]; unfold wrap64; omega
   cases b with
   | false =>
    go_wp2_with (go_at_call 43; refine (clo_meet gm m x _ (blk_below HM.out HB.out) HP.out).mono ?_; rintro e w5 ⟨rfl, hb⟩; have HB5 := sd_ (bt_ HB.out hb); clear hb)
    go_roundw
    case rel => exact ⟨i + 1, by go_num, by omega, ⟨fun j hj => (Nat.lt_succ_iff_lt_or_eq.1 hj).elim (HN.out j) (fun q => by rw [q, HX.out]; exact HP.out)⟩, HB5⟩
    case measure => simp [intOf]; omega
   | true =>
    go_wp2_with (go_at_call 43; refine (clo_meet gm m x _ (blk_below HM.out HB.out) HP.out).mono ?_; rintro e w5 ⟨rfl, hb⟩; have HB5 := sd_ (bt_ HB.out hb); clear hb)
    go_ret
    refine ⟨_, rfl, ?_, HB5.out⟩
    rw [dt_ (by omega)]
    symm
    refine List.any_eq_true.2 ⟨x, ?_, HP.out⟩
    rw [← HX.out, List.getD_eq_getElem?_getD, List.getElem?_eq_getElem hlt]
    exact List.getElem_mem hlt
  ·go_wp2
   go_ret
   refine ⟨_, rfl, ?_, HB.out⟩
   rw [df_ (by omega)]
   symm
   refine List.any_eq_false.2 (fun x hx => ?_)
   obtain ⟨j, hj, rfl⟩ := List.getElem_of_mem hx
   have := HN.out j (by omega)
   rw [List.getD_eq_getElem?_getD, List.getElem?_eq_getElem hj] at this
   simpa using this
set_option maxHeartbeats 8000000 in
set_option maxRecDepth 100000 in
theorem con_meet (gm : Nat) (m : S45) (A0 : Option Addr) (c0 : Nat) (l0 : List S45) (w : World) (hr0 : Kd.C k45 w A0 l0.length l0) (hl : l0.length ≤ 100000) (hm : w.heap[gm]? = some (.cells #[.int .i64 m.f0, .int .i64 m.f1, .int .i64 m.f2, .int .i64 m.f3] 45 (0, 0))) :
  Calls Try.prog 37 #[.slice A0 l0.length c0, .func (.func 43) #[] #[.pointer (some ⟨gm, 0, none⟩)]] w fun e w' => e = .returned (.bool (l0.any (fun x => meetB x m))) ∧ Below w.heap.size w w' := by
 have HF := sd_ (idx_meet gm m A0 c0 l0 w hr0 hl hm)
 clear hr0
 generalize l0.any (fun x => meetB x m) = a at HF ⊢
 go_enter Try.func37, Try.ntmps37
 go_wp2_with (go_at_call 46; refine HF.out.mono ?_; rintro e w5 ⟨r, rfl, hd, hb⟩; have HB5 := sd_ hb; have HD := sd_ hd; clear hb hd)
 go_ret
 exact ⟨by rw [← HD.out]; rfl, HB5.out⟩
def voices_meets.f (p g : List S45) (by_ : Int) : Option Bool := if p.length ≤ 100000 ∧ g.length ≤ 100000 then some (g.any fun x => p.any fun y => meetB y (mvB x by_)) else none
set_option maxHeartbeats 8000000 in
set_option maxRecDepth 100000 in
theorem voices_meets.calls (A0 : Option Addr) (c0 : Nat) (l0 : List S45) (A1 : Option Addr) (c1 : Nat) (l1 : List S45) (a2 : Int) (r : Bool) (w : World) (hr0 : Kd.C k45 w A0 l0.length l0) (hc0 : l0.length ≤ c0) (hr1 : Kd.C k45 w A1 l1.length l1) (hc1 : l1.length ≤ c1) (h : voices_meets.f l0 l1 a2 = some r) :
  Calls Try.prog 33 #[.slice A0 l0.length c0, .slice A1 l1.length c1, .int .i64 a2] w fun e w' => e = .returned (.bool r) ∧ Below w.heap.size w w' := by
 unfold voices_meets.f at h
 split at h
 rotate_left
 ·cases h
 rename_i hl
 have HE := sd_ (Option.some.inj h)
 have HR0 := sd_ hr0
 have HR1 := sd_ hr1
 have hl0 := hl.1
 have hl1 := hl.2
 clear hr0 hr1 h hl hc0 hc1
 go_enter Try.func33, Try.ntmps33
 go_wp2
 go_loopw [12] (fun v12 wr => ∃ i : Nat, v12 = .int .i64 (i : Int) ∧ i ≤ l1.length ∧ Aside0 (∀ j, j < i → (l0.any fun y => meetB y (mvB (l1.getD j z45) a2)) = false) ∧ Aside0 (Below w.heap.size w wr)) (fun v12 _ => l1.length - (intOf v12).toNat)
 case atStart => exact ⟨0, rfl, Nat.zero_le _, ⟨fun j h => absurd h (Nat.not_lt_zero j)⟩, ⟨Below.refl _ _⟩⟩
 case round =>
  obtain ⟨i, rfl, hi, HN, HB⟩ := hrel
  by_cases hlt : i < l1.length
  ·obtain ⟨ad, e1, hx0, hx1, hx2, hx3⟩ := at_T45 HR1.out (i : Int) (by omega) (by omega)
   cases e1
   rw [Int.toNat_natCast] at hx0 hx1 hx2 hx3
   have hy0 := pw_cell_below HB.out hx0
   have hy1 := pw_cell_below HB.out hx1
   have hy2 := pw_cell_below HB.out hx2
   have hy3 := pw_cell_below HB.out hx3
   have ex : rd_T45 l1 (i : Int) = l1.getD i z45 := by unfold rd_T45; rw [Int.toNat_natCast]
   rw [ex] at hy0 hy1 hy2 hy3
   clear hx0 hx1 hx2 hx3 ex
   obtain ⟨x, hx⟩ : ∃ x, l1.getD i z45 = x := ⟨_, rfl⟩
   rw [hx] at hy0 hy1 hy2 hy3
   obtain ⟨b, hb0⟩ : ∃ b, (l0.any fun y => meetB y (mvB x a2)) = b := ⟨_, rfl⟩
   have HX := sd_ hx
   have HP := sd_ hb0
   clear hx hb0
   have hi1 : IntKind.i64.wrap ((i : Int) + 1) = (i : Int) + 1 := by rw [i64_w]; unfold wrap64; omega
   go_upto_region 4 with fail
   obtain ⟨gx, hgx⟩ : ∃ g, g = wr.heap.size := ⟨_, rfl⟩
   obtain ⟨w6, hw6⟩ : ∃ W, W = wr.alloc (Obj.cells #[.int .i64 x.f0, .int .i64 x.f1, .int .i64 x.f2, .int .i64 x.f3] 45) := ⟨_, rfl⟩
   have HB6 : Aside0 (Below w.heap.size w w6) := ⟨by rw [hw6]; exact ba_ HB.out _⟩
   have HXC : Aside0 (w6.heap[gx]? = some (.cells #[.int .i64 x.f0, .int .i64 x.f1, .int .i64 x.f2, .int .i64 x.f3] 45 (0, 0))) := ⟨by rw [hw6, hgx]; exact blk_new _ _⟩
   have hz0 : w6.cell? ⟨gx, 0, none⟩ = some (.int .i64 x.f0) := (kc_ HXC.out 0).trans rfl
   have hz1 : w6.cell? ⟨gx, 1, none⟩ = some (.int .i64 x.f1) := (kc_ HXC.out 1).trans rfl
   have hz2 : w6.cell? ⟨gx, 2, none⟩ = some (.int .i64 x.f2) := (kc_ HXC.out 2).trans rfl
   have hz3 : w6.cell? ⟨gx, 3, none⟩ = some (.int .i64 x.f3) := (kc_ HXC.out 3).trans rfl
   rw [← hw6, ← hgx]
   clear hw6 hgx hy0 hy1 hy2 hy3
   go_upto_region 5 with (go_at_call 22; (with_reducible refine (voices_moved.calls x.f0 x.f1 x.f2 x.f3 a2 _ _ _ _ _ rfl).mono ?_); rintro e w7 ⟨rfl, hb⟩; have HB7 := sd_ (bt_ HB6.out hb); clear hb)
   clear hz0 hz1 hz2 hz3 HXC HB6
   obtain ⟨gm, hg⟩ : ∃ g, g = w7.heap.size := ⟨_, rfl⟩
   obtain ⟨w8, hw⟩ : ∃ W, W = w7.alloc (Obj.cells #[.int .i64 (wrap64 (x.f0 + a2)), .int .i64 x.f1, .int .i64 (wrap64 (x.f2 + a2)), .int .i64 x.f3] 45) := ⟨_, rfl⟩
   have HM : Aside0 (w8.heap[gm]? = some (.cells #[.int .i64 (mvB x a2).f0, .int .i64 (mvB x a2).f1, .int .i64 (mvB x a2).f2, .int .i64 (mvB x a2).f3] 45 (0, 0))) := ⟨by rw [hw, hg]; exact blk_new _ _⟩
   have HB8 : Aside0 (Below w.heap.size w w8) := ⟨by rw [hw]; exact ba_ HB7.out _⟩
   rw [← hw, ← hg]
   clear hw hg HB7
   have HCC := sd_ (con_meet gm (mvB x a2) A0 c0 l0 w8 (Kd.C_below HR0.out HB8.out) hl0 HM.out)
   rw [HP.out] at HCC
   cases b with
   | false =>
    go_wp2_with (go_at_call 37; refine HCC.out.mono ?_; rintro e w9 ⟨rfl, hb⟩; have HB9 := sd_ (bt_ HB8.out hb); clear hb)
    go_roundw
    case rel => exact ⟨i + 1, by go_num, by omega, ⟨fun j hj => (Nat.lt_succ_iff_lt_or_eq.1 hj).elim (HN.out j) (fun q => by rw [q, HX.out]; exact HP.out)⟩, HB9⟩
    case measure => simp [intOf]; omega
   | true =>
    go_wp2_with (go_at_call 37; refine HCC.out.mono ?_; rintro e w9 ⟨rfl, hb⟩; have HB9 := sd_ (bt_ HB8.out hb); clear hb)
    go_ret
    refine ⟨?_, HB9.out⟩
    have e1 : (l1.any fun x => l0.any fun y => meetB y (mvB x a2)) = true := by
     refine List.any_eq_true.2 ⟨x, ?_, HP.out⟩
     rw [← HX.out, List.getD_eq_getElem?_getD, List.getElem?_eq_getElem hlt]
     exact List.getElem_mem hlt
    rw [← HE.out, e1]; rfl
  ·go_wp2
   go_ret
   refine ⟨?_, HB.out⟩
   have e1 : (l1.any fun x => l0.any fun y => meetB y (mvB x a2)) = false := by
    refine List.any_eq_false.2 (fun x hx => ?_)
    obtain ⟨j, hj, rfl⟩ := List.getElem_of_mem hx
    have := HN.out j (by omega)
    rw [List.getD_eq_getElem?_getD, List.getElem?_eq_getElem hj] at this
    exact fun q => absurd (q.symm.trans this) (by decide)
   rw [← HE.out, e1]; rfl

/-! ### voices_push: function 21 -/
mutual
def voices_push.l0 : Nat → List (S45) → List (S45) → List Int → Int → Int → Option (Int × Int)
 | 0, _, _, _, _, _ => none
 | k + 1, x0, x1, x15, x16, x17 => if x17 < x16 then (if 0 ≤ x17 then (if x17 < (x15.length : Int) then ((voices_meets.f x0 x1 (rd x15 x17)).bind fun t144 => (if t144 = true then (voices_push.l0 k x0 x1 x15 x16 (wrap64 (x17 + 1))) else (voices_push.l1 k (rd x15 x17) x1 (x1.length : Int) 0))) else (none)) else (none)) else (some (0, 3))
def voices_push.l1 : Nat → Int → List (S45) → Int → Int → Option (Int × Int)
 | 0, _, _, _, _ => none
 | k + 1, x9, x25, x26, x27 => if x27 < x26 then (if 0 ≤ x27 then (if x27 < (x25.length : Int) then ((voices_moved.f ((rd_T45 x25 x27).f0) ((rd_T45 x25 x27).f1) ((rd_T45 x25 x27).f2) ((rd_T45 x25 x27).f3) x9).bind fun bt147 => ((voices_near.f bt147.1 bt147.2.1 bt147.2.2.1 bt147.2.2.2).bind fun t151 => (if t151 = true then (voices_push.l1 k x9 x25 x26 (wrap64 (x27 + 1))) else (some (0, 3))))) else (none)) else (none)) else (some (x9, 0))
end
def voices_push.f (k : Nat) (l0 : List (S45)) (l1 : List (S45)) (a2 : Bool) : Option (Int × Int) := (voices_candidates.f k l0 l1 a2).bind fun t140 => (voices_push.l0 k l0 l1 t140 (t140.length : Int) 0)
theorem voices_push.mono_l : ∀ k, (∀ y0 y1 y2 y3 y4, LeO (voices_push.l0 k y0 y1 y2 y3 y4) (voices_push.l0 (k + 1) y0 y1 y2 y3 y4)) ∧ (∀ y0 y1 y2 y3, LeO (voices_push.l1 k y0 y1 y2 y3) (voices_push.l1 (k + 1) y0 y1 y2 y3))
 | 0 => ⟨fun _ _ _ _ _ r h => by simp [voices_push.l0] at h, fun _ _ _ _ r h => by simp [voices_push.l1] at h⟩
 | k + 1 => by
  obtain ⟨ih0, ih1⟩ := voices_push.mono_l k
  refine ⟨?_, ?_⟩
  ·intro y0 y1 y2 y3 y4
   unfold voices_push.l0
   repeat' first
   | (with_reducible exact ih0 _ _ _ _ _)
   | (with_reducible exact ih1 _ _ _ _)
   | (with_reducible exact voices_candidates.mono _ _ _ _)
   | (with_reducible exact LeO.refl _)
   | (with_reducible exact LeO.none _)
   | (with_reducible refine LeO.ite ?_ ?_)
   | (with_reducible refine LeO.bind ?_ (fun _ => ?_))
   | exact ih0 _ _ _ _ _
   | exact ih1 _ _ _ _
   | exact voices_candidates.mono _ _ _ _
   | exact LeO.none _
   | refine LeO.ite ?_ ?_
   | refine LeO.bind ?_ (fun _ => ?_)
  ·intro y0 y1 y2 y3
   unfold voices_push.l1
   repeat' first
   | (with_reducible exact ih0 _ _ _ _ _)
   | (with_reducible exact ih1 _ _ _ _)
   | (with_reducible exact voices_candidates.mono _ _ _ _)
   | (with_reducible exact LeO.refl _)
   | (with_reducible exact LeO.none _)
   | (with_reducible refine LeO.ite ?_ ?_)
   | (with_reducible refine LeO.bind ?_ (fun _ => ?_))
   | exact ih0 _ _ _ _ _
   | exact ih1 _ _ _ _
   | exact voices_candidates.mono _ _ _ _
   | exact LeO.none _
   | refine LeO.ite ?_ ?_
   | refine LeO.bind ?_ (fun _ => ?_)
theorem voices_push.mono : ∀ a0 a1 a2 k, LeO (voices_push.f k a0 a1 a2) (voices_push.f (k + 1) a0 a1 a2) := by
 intro a0 a1 a2 k
 obtain ⟨ih0, ih1⟩ := voices_push.mono_l k
 unfold voices_push.f
 repeat' first
   | (with_reducible exact ih0 _ _ _ _ _)
   | (with_reducible exact ih1 _ _ _ _)
   | (with_reducible exact voices_candidates.mono _ _ _ _)
   | (with_reducible exact LeO.refl _)
   | (with_reducible exact LeO.none _)
   | (with_reducible refine LeO.ite ?_ ?_)
   | (with_reducible refine LeO.bind ?_ (fun _ => ?_))
   | exact ih0 _ _ _ _ _
   | exact ih1 _ _ _ _
   | exact voices_candidates.mono _ _ _ _
   | exact LeO.none _
   | refine LeO.ite ?_ ?_
   | refine LeO.bind ?_ (fun _ => ?_)
set_option maxHeartbeats 8000000 in
set_option maxRecDepth 100000 in
theorem voices_push.calls (k : Nat) (A0 : Option Addr) (c0 : Nat) (l0 : List (S45)) (A1 : Option Addr) (c1 : Nat) (l1 : List (S45)) (a2 : Bool) (r1 : Int) (r2 : Int) (w : World) (hr0 : Kd.C k45 w A0 l0.length l0) (hc0 : l0.length ≤ c0) (hr1 : Kd.C k45 w A1 l1.length l1) (hc1 : l1.length ≤ c1) (h : voices_push.f k l0 l1 a2 = some (r1, r2)) :
  Calls Try.prog 21 #[.slice A0 l0.length c0, .slice A1 l1.length c1, .bool a2] w fun e w' => e = .returned (.tuple #[.int .i64 r1, .int .i64 r2]) ∧ Below w.heap.size w w' := by
 have hu45 := Try.underlying45
 have HR0 := sd_ hr0
 have HC0 := sd_ hc0
 clear hr0 hc0
 have HR1 := sd_ hr1
 have HC1 := sd_ hc1
 clear hr1 hc1
 have HB := sd_ (Below.refl w.heap.size w)
 have H : ((voices_candidates.f k l0 l1 a2).bind fun t140 => (voices_push.l0 k l0 l1 t140 (t140.length : Int) 0)) = some (r1, r2) := h
 clear h
 replace H := ob_ H
 obtain ⟨t140, A40, H⟩ := H
 replace H : (voices_push.l0 k l0 l1 t140 (t140.length : Int) 0) = some (r1, r2) := H
 have A4 := sd_ A40
 clear A40
 have H' := sd_ H
 clear H
 go_enter Try.func21, Try.ntmps21
 go_wp2_with (first | ((with_reducible refine gate_callee (f := 32) rfl ?_); refine goesL_ (some 15) rfl rfl Try.func32 (by kernel_rfl) rfl #[.slice A0 l0.length c0, .slice A1 l1.length c1, .bool a2] rfl (by (try simp only [lm_, lq_, lx_]); first | done | rfl | (simp only [ld_, lt_]; rfl)) ?_; (with_reducible refine (voices_candidates.calls k _ _ l0 _ _ l1 a2 t140 _ ?side1 ?side2 ?side3 ?side4 A4.out).mono ?_); (case side1 => repeat (first | exact HR0.out | (with_reducible refine Kd.C_alloc ?_ _) | (with_reducible refine Kd.C_drewN ?_ _) | (with_reducible refine Kd.C_drew ?_))); (case side2 => exact HC0.out); (case side3 => repeat (first | exact HR1.out | (with_reducible refine Kd.C_alloc ?_ _) | (with_reducible refine Kd.C_drewN ?_ _) | (with_reducible refine Kd.C_drew ?_))); (case side4 => exact HC1.out); rintro e w5 ⟨v141, rfl, ho0, hb⟩; refine ⟨_, rfl, ?_⟩; have HO142 := sd_ (Kd.R_lower ho0 (bz_ (bb_ HB.out e0_))); replace HB := hb_ HB e0_ hb; (try clear hb); (try clear hb2); (try clear hk); (try clear hi); (try clear ho0); obtain ⟨Ao6, co6, eo6⟩ := Kd.R_slice HO142.out; subst eo6))
 go_loopg [17] k (fun kq v17 w' => ∃ (x17_1 : Int), v17 = .int .i64 x17_1 ∧ Aside0 (voices_push.l0 kq l0 l1 t140 (t140.length : Int) x17_1 = some (r1, r2)) ∧ Aside0 (kq ≤ k) ∧ Aside0 (Kd.R (Kd.int .i64) 3 w' w.heap.size (fun _ => True) (.slice Ao6 t140.length co6) t140) ∧ Aside0 (Below w.heap.size w w'))
 case atStart => exact ⟨(0), (by first | rfl | (simp; done) | (simp [*]; done) | (simp [bne]; done)), H', ⟨Nat.le_refl _⟩, ⟨by (with_reducible repeat (first | apply Kd.R_alloc | apply Kd.R_drewN | apply Kd.R_drew)); exact HO142.out⟩, ⟨by repeat (first | (with_reducible first | exact HB.out | apply ba_ | apply pd_ | apply d1_) | exact HB.out)⟩⟩
 case round =>
  clear H'
  try clear c1; try clear c2; try clear p2; try clear c3
  obtain ⟨x17_1, rfl, HA, HK1, HO_15, HB⟩ := hrel
  cases gk with
  | zero => exact absurd HA.out (by simp [voices_push.l0])
  | succ k1 =>
   have H := HA.out
   clear HA
   simp only [voices_push.l0] at H
   by_cases c7 : x17_1 < (t140.length : Int)
   ·rw [if_pos c7] at H
    have c7b0 : decide (x17_1 < (t140.length : Int)) = true := dt_ c7
    clear c7
    by_cases c8 : 0 ≤ x17_1
    ·rw [if_pos c8] at H
     have c8b0 : decide (0 ≤ x17_1) = true := dt_ c8
     clear c8
     by_cases c9 : x17_1 < (t140.length : Int)
     ·rw [if_pos c9] at H
      have c9b0 : decide (x17_1 < (t140.length : Int)) = true := dt_ c9
      clear c9
      replace H := ob_ H
      obtain ⟨t144, A100, H⟩ := H
      replace H : (if t144 = true then (voices_push.l0 k1 l0 l1 t140 (t140.length : Int) (wrap64 (x17_1 + 1))) else (voices_push.l1 k1 (rd t140 x17_1) l1 (l1.length : Int) 0)) = some (r1, r2) := H
      have A10 := sd_ A100
      clear A100
      by_cases c11 : t144 = true
      ·subst c11
       have H1 : (voices_push.l0 k1 l0 l1 t140 (t140.length : Int) (wrap64 (x17_1 + 1))) = some (r1, r2) := by rw [if_pos rfl] at H; exact H
       clear H; have H := H1; clear H1
       have H' := sd_ H
       clear H
       have p143 : 0 ≤ (x17_1 : Int) := od_ (by first | (with_reducible assumption) | assumption)
       have q143 : x17_1 < (t140.length : Int) := od_ (by first | (with_reducible assumption) | assumption)
       obtain ⟨ad143, e143, hx143_0⟩ := Kd.at_int (Kd.R_reads' HO_15.out).2.2 x17_1 p143 q143
       cases e143
       replace p143 := eq_true p143
       replace q143 := eq_true q143
       go_wp2_with (first | ((with_reducible refine gate_callee (f := 33) rfl ?_); refine goesL_ (some 24) rfl rfl Try.func33 (by kernel_rfl) rfl #[.slice A0 l0.length c0, .slice A1 l1.length c1, .int .i64 (rd t140 x17_1)] rfl (by (try simp only [lm_, lq_, lx_]); first | done | rfl | (simp only [ld_, lt_]; rfl)) ?_; (with_reducible refine (voices_meets.calls _ _ l0 _ _ l1 (rd t140 x17_1) true _ ?side1 ?side2 ?side3 ?side4 A10.out).mono ?_); (case side1 => repeat (first | exact (Kd.C_below HR0.out HB.out) | (with_reducible refine Kd.C_alloc ?_ _) | (with_reducible refine Kd.C_drewN ?_ _) | (with_reducible refine Kd.C_drew ?_))); (case side2 => exact HC0.out); (case side3 => repeat (first | exact (Kd.C_below HR1.out HB.out) | (with_reducible refine Kd.C_alloc ?_ _) | (with_reducible refine Kd.C_drewN ?_ _) | (with_reducible refine Kd.C_drew ?_))); (case side4 => exact HC1.out); rintro e w12 ⟨rfl, hb⟩; refine ⟨_, rfl, ?_⟩; replace HO_15 := sd_ (Kd.R_below (by (with_reducible repeat (first | apply Kd.R_alloc | apply Kd.R_drewN | apply Kd.R_drew)); exact HO_15.out) hb); replace HB := hb_ HB e0_ hb; (try clear hb); (try clear hb2); (try clear hk); (try clear hi)))
       go_roundg k1
       case measure => have := HK1.out; omega
       case rel => exact ⟨(wrap64 (x17_1 + 1)), (by first | rfl | (simp; done) | (simp [*]; done) | (simp [bne]; done)), H', ⟨by have := HK1.out; omega⟩, ⟨by (with_reducible repeat (first | apply Kd.R_alloc | apply Kd.R_drewN | apply Kd.R_drew)); exact HO_15.out⟩, ⟨by repeat (first | (with_reducible first | exact HB.out | apply ba_ | apply pd_ | apply d1_) | exact HB.out)⟩⟩
      ·replace c11 := bf_ c11
       subst c11
       have H1 : (voices_push.l1 k1 (rd t140 x17_1) l1 (l1.length : Int) 0) = some (r1, r2) := by rw [if_neg (show ¬ (false = true) by decide)] at H; exact H
       clear H; have H := H1; clear H1
       have H' := sd_ H
       clear H
       have p143 : 0 ≤ (x17_1 : Int) := od_ (by first | (with_reducible assumption) | assumption)
       have q143 : x17_1 < (t140.length : Int) := od_ (by first | (with_reducible assumption) | assumption)
       obtain ⟨ad143, e143, hx143_0⟩ := Kd.at_int (Kd.R_reads' HO_15.out).2.2 x17_1 p143 q143
       cases e143
       replace p143 := eq_true p143
       replace q143 := eq_true q143
       go_wp2_with (first | ((with_reducible refine gate_callee (f := 33) rfl ?_); refine goesL_ (some 24) rfl rfl Try.func33 (by kernel_rfl) rfl #[.slice A0 l0.length c0, .slice A1 l1.length c1, .int .i64 (rd t140 x17_1)] rfl (by (try simp only [lm_, lq_, lx_]); first | done | rfl | (simp only [ld_, lt_]; rfl)) ?_; (with_reducible refine (voices_meets.calls _ _ l0 _ _ l1 (rd t140 x17_1) false _ ?side1 ?side2 ?side3 ?side4 A10.out).mono ?_); (case side1 => repeat (first | exact (Kd.C_below HR0.out HB.out) | (with_reducible refine Kd.C_alloc ?_ _) | (with_reducible refine Kd.C_drewN ?_ _) | (with_reducible refine Kd.C_drew ?_))); (case side2 => exact HC0.out); (case side3 => repeat (first | exact (Kd.C_below HR1.out HB.out) | (with_reducible refine Kd.C_alloc ?_ _) | (with_reducible refine Kd.C_drewN ?_ _) | (with_reducible refine Kd.C_drew ?_))); (case side4 => exact HC1.out); rintro e w13 ⟨rfl, hb⟩; refine ⟨_, rfl, ?_⟩; replace HO_15 := sd_ (Kd.R_below (by (with_reducible repeat (first | apply Kd.R_alloc | apply Kd.R_drewN | apply Kd.R_drew)); exact HO_15.out) hb); replace HB := hb_ HB e0_ hb; (try clear hb); (try clear hb2); (try clear hk); (try clear hi)))
       go_loopg [27] k1 (fun kq v27 w' => ∃ (x27_2 : Int), v27 = .int .i64 x27_2 ∧ Aside0 (voices_push.l1 kq (rd t140 x17_1) l1 (l1.length : Int) x27_2 = some (r1, r2)) ∧ Aside0 (kq ≤ k1) ∧ Aside0 (Below w.heap.size w w'))
       case atStart => exact ⟨(0), (by first | rfl | (simp; done) | (simp [*]; done) | (simp [bne]; done)), H', ⟨Nat.le_refl _⟩, ⟨by repeat (first | (with_reducible first | exact HB.out | apply ba_ | apply pd_ | apply d1_) | exact HB.out)⟩⟩
       case round =>
        clear H'
        try clear c1; try clear p1; try clear q1; try clear hx1; try clear c2; try clear p2; try clear c3; try clear p6; try clear c7; try clear c7b0; try clear c8; try clear c8b0; try clear c9; try clear c9b0; try clear c11; try clear hx143_0; try clear p143; try clear p2; try clear q143
        obtain ⟨x27_2, rfl, HA, HK2, HB⟩ := hrel
        cases gk with
        | zero => exact absurd HA.out (by simp [voices_push.l1])
        | succ k2 =>
         have H := HA.out
         clear HA
         simp only [voices_push.l1] at H
         by_cases c14 : x27_2 < (l1.length : Int)
         ·rw [if_pos c14] at H
          have c14b0 : decide (x27_2 < (l1.length : Int)) = true := dt_ c14
          clear c14
          by_cases c15 : 0 ≤ x27_2
          ·rw [if_pos c15] at H
           have c15b0 : decide (0 ≤ x27_2) = true := dt_ c15
           clear c15
           by_cases c16 : x27_2 < (l1.length : Int)
           ·rw [if_pos c16] at H
            have c16b0 : decide (x27_2 < (l1.length : Int)) = true := dt_ c16
            clear c16
            replace H := ob_ H
            obtain ⟨⟨t147, t148, t149, t150⟩, A170, H⟩ := H
            replace H : ((voices_near.f t147 t148 t149 t150).bind fun t151 => (if t151 = true then (voices_push.l1 k2 (rd t140 x17_1) l1 (l1.length : Int) (wrap64 (x27_2 + 1))) else (some (0, 3)))) = some (r1, r2) := H
            have A17 := sd_ A170
            clear A170
            replace H := ob_ H
            obtain ⟨t151, A180, H⟩ := H
            replace H : (if t151 = true then (voices_push.l1 k2 (rd t140 x17_1) l1 (l1.length : Int) (wrap64 (x27_2 + 1))) else (some (0, 3))) = some (r1, r2) := H
            have A18 := sd_ A180
            clear A180
            by_cases c19 : t151 = true
            ·subst c19
             have H1 : (voices_push.l1 k2 (rd t140 x17_1) l1 (l1.length : Int) (wrap64 (x27_2 + 1))) = some (r1, r2) := by rw [if_pos rfl] at H; exact H
             clear H; have H := H1; clear H1
             have H' := sd_ H
             clear H
             have p145 : 0 ≤ (x27_2 : Int) := od_ (by first | (with_reducible assumption) | assumption)
             have q145 : x27_2 < (l1.length : Int) := od_ (by first | (with_reducible assumption) | assumption)
             obtain ⟨ad145, e145, hx145_0, hx145_1, hx145_2, hx145_3⟩ := at_T45 HR1.out x27_2 p145 q145
             cases e145
             replace hx145_0 := (HB.out.cell (wb_ w _ hx145_0)).trans hx145_0
             replace hx145_1 := (HB.out.cell (wb_ w _ hx145_1)).trans hx145_1
             replace hx145_2 := (HB.out.cell (wb_ w _ hx145_2)).trans hx145_2
             replace hx145_3 := (HB.out.cell (wb_ w _ hx145_3)).trans hx145_3
             replace p145 := eq_true p145
             replace q145 := eq_true q145
             go_wp2_with (first | ((with_reducible refine gate_dst (N := 11) rfl ?_); refine box_event ?hg (N := 11) ?hd (cs := #[.int .i64 0, .int .i64 0, .int .i64 0, .int .i64 0]) (t := 45) ?hr ?_; (case hd => rfl); (case hg => rfl); (case hr => first | (go_simp; done) | (go_simp; rfl)); intro gb146 hg w20 hbox hb; have BK146 := sd_ hbox; have GW146 := gw_ HB e0_ hg; have GE146 := GW146; replace HB := hb_ HB e0_ hb; clear hb hbox hg; have hcz21_0 : w20.cell? ⟨gb146, 0, none⟩ = some (.int .i64 0) := (kc_ BK146.out 0).trans rfl; have hcz21_1 : w20.cell? ⟨gb146, 1, none⟩ = some (.int .i64 0) := (kc_ BK146.out 1).trans rfl; have hcz21_2 : w20.cell? ⟨gb146, 2, none⟩ = some (.int .i64 0) := (kc_ BK146.out 2).trans rfl; have hcz21_3 : w20.cell? ⟨gb146, 3, none⟩ = some (.int .i64 0) := (kc_ BK146.out 3).trans rfl; have hfz21_0 := kf_ BK146.out 0; have hfz21_1 := kf_ BK146.out 1; have hfz21_2 := kf_ BK146.out 2; have hfz21_3 := kf_ BK146.out 3) | ((with_reducible refine gate_callee (f := 22) rfl ?_); refine goesL_ (some 33) rfl rfl Try.func22 (by kernel_rfl) rfl #[.agg #[.int .i64 ((rd_T45 l1 x27_2).f0), .int .i64 ((rd_T45 l1 x27_2).f1), .int .i64 ((rd_T45 l1 x27_2).f2), .int .i64 ((rd_T45 l1 x27_2).f3)], .int .i64 (rd t140 x17_1)] rfl (by (try simp only [lm_, lq_, lx_]); first | done | rfl | (simp only [ld_, lt_]; rfl)) ?_; (with_reducible refine (voices_moved.calls ((rd_T45 l1 x27_2).f0) ((rd_T45 l1 x27_2).f1) ((rd_T45 l1 x27_2).f2) ((rd_T45 l1 x27_2).f3) (rd t140 x17_1) t147 t148 t149 t150 _ A17.out).mono ?_); rintro e w22 ⟨rfl, hb⟩; refine ⟨_, rfl, ?_⟩; replace BK146 := sd_ (blk_below (g := gb146) (o := .cells #[.int .i64 ((rd_T45 l1 x27_2).f0), .int .i64 ((rd_T45 l1 x27_2).f1), .int .i64 ((rd_T45 l1 x27_2).f2), .int .i64 ((rd_T45 l1 x27_2).f3)] 45 (0, 0)) (by (with_reducible repeat first | apply kn_ | apply kd_ | apply ka_); refine blk_put (cs := #[.int .i64 ((rd_T45 l1 x27_2).f0), .int .i64 ((rd_T45 l1 x27_2).f1), .int .i64 ((rd_T45 l1 x27_2).f2), .int .i64 0]) ?_ 3 _ rfl; (with_reducible repeat first | apply kn_ | apply kd_ | apply ka_); refine blk_put (cs := #[.int .i64 ((rd_T45 l1 x27_2).f0), .int .i64 ((rd_T45 l1 x27_2).f1), .int .i64 0, .int .i64 0]) ?_ 2 _ rfl; (with_reducible repeat first | apply kn_ | apply kd_ | apply ka_); refine blk_put (cs := #[.int .i64 ((rd_T45 l1 x27_2).f0), .int .i64 0, .int .i64 0, .int .i64 0]) ?_ 1 _ rfl; (with_reducible repeat first | apply kn_ | apply kd_ | apply ka_); refine blk_put (cs := #[.int .i64 0, .int .i64 0, .int .i64 0, .int .i64 0]) ?_ 0 _ rfl; (with_reducible repeat first | apply kn_ | apply kd_ | apply ka_); exact BK146.out) hb); replace HB := hb_ HB (e_ GE146 e0_) hb; (try clear hb); (try clear hb2); (try clear hk); (try clear hi)) | ((with_reducible refine gate_callee (f := 34) rfl ?_); refine goesL_ (some 34) rfl rfl Try.func34 (by kernel_rfl) rfl #[.agg #[.int .i64 t147, .int .i64 t148, .int .i64 t149, .int .i64 t150]] rfl (by (try simp only [lm_, lq_, lx_]); first | done | rfl | (simp only [ld_, lt_]; rfl)) ?_; (with_reducible refine (voices_near.calls t147 t148 t149 t150 true _ A18.out).mono ?_); rintro e w23 ⟨rfl, hb⟩; refine ⟨_, rfl, ?_⟩; replace BK146 := kb_ BK146 hb; replace HB := hb_ HB (e_ GE146 e0_) hb; (try clear hb); (try clear hb2); (try clear hk); (try clear hi)))
             go_roundg k2
             case measure => have := HK1.out; have := HK2.out; omega
             case rel => exact ⟨(wrap64 (x27_2 + 1)), (by first | rfl | (simp; done) | (simp [*]; done) | (simp [bne]; done)), H', ⟨by have := HK1.out; have := HK2.out; omega⟩, ⟨by repeat (first | (with_reducible first | exact HB.out | apply ba_ | apply pd_ | apply d1_ | refine bs_ ?_ GE146.out) | exact HB.out)⟩⟩
            ·replace c19 := bf_ c19
             subst c19
             have H1 : (some (0, 3)) = some (r1, r2) := by rw [if_neg (show ¬ (false = true) by decide)] at H; exact H
             clear H; have H := H1; clear H1
             simp only [Option.some.injEq, Prod.mk.injEq] at H
             obtain ⟨rfl, rfl⟩ := H
             have p145 : 0 ≤ (x27_2 : Int) := od_ (by first | (with_reducible assumption) | assumption)
             have q145 : x27_2 < (l1.length : Int) := od_ (by first | (with_reducible assumption) | assumption)
             obtain ⟨ad145, e145, hx145_0, hx145_1, hx145_2, hx145_3⟩ := at_T45 HR1.out x27_2 p145 q145
             cases e145
             replace hx145_0 := (HB.out.cell (wb_ w _ hx145_0)).trans hx145_0
             replace hx145_1 := (HB.out.cell (wb_ w _ hx145_1)).trans hx145_1
             replace hx145_2 := (HB.out.cell (wb_ w _ hx145_2)).trans hx145_2
             replace hx145_3 := (HB.out.cell (wb_ w _ hx145_3)).trans hx145_3
             replace p145 := eq_true p145
             replace q145 := eq_true q145
             go_wp2_with (first | ((with_reducible refine gate_dst (N := 11) rfl ?_); refine box_event ?hg (N := 11) ?hd (cs := #[.int .i64 0, .int .i64 0, .int .i64 0, .int .i64 0]) (t := 45) ?hr ?_; (case hd => rfl); (case hg => rfl); (case hr => first | (go_simp; done) | (go_simp; rfl)); intro gb146 hg w24 hbox hb; have BK146 := sd_ hbox; have GW146 := gw_ HB e0_ hg; have GE146 := GW146; replace HB := hb_ HB e0_ hb; clear hb hbox hg; have hcz25_0 : w24.cell? ⟨gb146, 0, none⟩ = some (.int .i64 0) := (kc_ BK146.out 0).trans rfl; have hcz25_1 : w24.cell? ⟨gb146, 1, none⟩ = some (.int .i64 0) := (kc_ BK146.out 1).trans rfl; have hcz25_2 : w24.cell? ⟨gb146, 2, none⟩ = some (.int .i64 0) := (kc_ BK146.out 2).trans rfl; have hcz25_3 : w24.cell? ⟨gb146, 3, none⟩ = some (.int .i64 0) := (kc_ BK146.out 3).trans rfl; have hfz25_0 := kf_ BK146.out 0; have hfz25_1 := kf_ BK146.out 1; have hfz25_2 := kf_ BK146.out 2; have hfz25_3 := kf_ BK146.out 3) | ((with_reducible refine gate_callee (f := 22) rfl ?_); refine goesL_ (some 33) rfl rfl Try.func22 (by kernel_rfl) rfl #[.agg #[.int .i64 ((rd_T45 l1 x27_2).f0), .int .i64 ((rd_T45 l1 x27_2).f1), .int .i64 ((rd_T45 l1 x27_2).f2), .int .i64 ((rd_T45 l1 x27_2).f3)], .int .i64 (rd t140 x17_1)] rfl (by (try simp only [lm_, lq_, lx_]); first | done | rfl | (simp only [ld_, lt_]; rfl)) ?_; (with_reducible refine (voices_moved.calls ((rd_T45 l1 x27_2).f0) ((rd_T45 l1 x27_2).f1) ((rd_T45 l1 x27_2).f2) ((rd_T45 l1 x27_2).f3) (rd t140 x17_1) t147 t148 t149 t150 _ A17.out).mono ?_); rintro e w26 ⟨rfl, hb⟩; refine ⟨_, rfl, ?_⟩; replace BK146 := sd_ (blk_below (g := gb146) (o := .cells #[.int .i64 ((rd_T45 l1 x27_2).f0), .int .i64 ((rd_T45 l1 x27_2).f1), .int .i64 ((rd_T45 l1 x27_2).f2), .int .i64 ((rd_T45 l1 x27_2).f3)] 45 (0, 0)) (by (with_reducible repeat first | apply kn_ | apply kd_ | apply ka_); refine blk_put (cs := #[.int .i64 ((rd_T45 l1 x27_2).f0), .int .i64 ((rd_T45 l1 x27_2).f1), .int .i64 ((rd_T45 l1 x27_2).f2), .int .i64 0]) ?_ 3 _ rfl; (with_reducible repeat first | apply kn_ | apply kd_ | apply ka_); refine blk_put (cs := #[.int .i64 ((rd_T45 l1 x27_2).f0), .int .i64 ((rd_T45 l1 x27_2).f1), .int .i64 0, .int .i64 0]) ?_ 2 _ rfl; (with_reducible repeat first | apply kn_ | apply kd_ | apply ka_); refine blk_put (cs := #[.int .i64 ((rd_T45 l1 x27_2).f0), .int .i64 0, .int .i64 0, .int .i64 0]) ?_ 1 _ rfl; (with_reducible repeat first | apply kn_ | apply kd_ | apply ka_); refine blk_put (cs := #[.int .i64 0, .int .i64 0, .int .i64 0, .int .i64 0]) ?_ 0 _ rfl; (with_reducible repeat first | apply kn_ | apply kd_ | apply ka_); exact BK146.out) hb); replace HB := hb_ HB (e_ GE146 e0_) hb; (try clear hb); (try clear hb2); (try clear hk); (try clear hi)) | ((with_reducible refine gate_callee (f := 34) rfl ?_); refine goesL_ (some 34) rfl rfl Try.func34 (by kernel_rfl) rfl #[.agg #[.int .i64 t147, .int .i64 t148, .int .i64 t149, .int .i64 t150]] rfl (by (try simp only [lm_, lq_, lx_]); first | done | rfl | (simp only [ld_, lt_]; rfl)) ?_; (with_reducible refine (voices_near.calls t147 t148 t149 t150 false _ A18.out).mono ?_); rintro e w27 ⟨rfl, hb⟩; refine ⟨_, rfl, ?_⟩; replace BK146 := kb_ BK146 hb; replace HB := hb_ HB (e_ GE146 e0_) hb; (try clear hb); (try clear hb2); (try clear hk); (try clear hi)))
             go_ret2
             exact ⟨by first | rfl | (simp [errW_none, errW_some] <;> rfl) | (simp [*, errW_none, errW_some] <;> rfl), by repeat (first | (with_reducible first | exact HB.out | apply ba_ | apply pd_ | apply d1_ | refine bs_ ?_ GE146.out) | exact HB.out)⟩
           ·rw [if_neg c16] at H
            exact absurd H (by simp)
          ·rw [if_neg c15] at H
           exact absurd H (by simp)
         ·rw [if_neg c14] at H
          have c14b0 : decide (x27_2 < (l1.length : Int)) = false := df_ c14
          clear c14
          simp only [Option.some.injEq, Prod.mk.injEq] at H
          obtain ⟨rfl, rfl⟩ := H
          go_wp2
          go_ret2
          exact ⟨by first | rfl | (simp [errW_none, errW_some] <;> rfl) | (simp [*, errW_none, errW_some] <;> rfl), by repeat (first | (with_reducible first | exact HB.out | apply ba_ | apply pd_ | apply d1_) | exact HB.out)⟩
     ·rw [if_neg c9] at H
      exact absurd H (by simp)
    ·rw [if_neg c8] at H
     exact absurd H (by simp)
   ·rw [if_neg c7] at H
    have c7b0 : decide (x17_1 < (t140.length : Int)) = false := df_ c7
    clear c7
    simp only [Option.some.injEq, Prod.mk.injEq] at H
    obtain ⟨rfl, rfl⟩ := H
    go_wp2
    go_ret2
    exact ⟨by first | rfl | (simp [errW_none, errW_some] <;> rfl) | (simp [*, errW_none, errW_some] <;> rfl), by repeat (first | (with_reducible first | exact HB.out | apply ba_ | apply pd_ | apply d1_) | exact HB.out)⟩

/-! ### voices_Row: function 8 -/
mutual
def voices_Row.l0 : Nat → Bool → List (S45) → List Int → List (List (S45)) → Int → Int → Option (List Int × Int)
 | 0, _, _, _, _, _, _ => none
 | k + 1, x2, x8, x9, x22, x23, x24 => if x24 < x23 then (if 0 ≤ x24 then (if x24 < (x22.length : Int) then ((voices_push.f k x8 (rd_L2 x22 x24) x2).bind fun bt157 => (if bt157.2 = 0 then (if x9.length < 17592186044416 then (voices_Row.l1 k x2 x8 (x9 ++ [bt157.1]) bt157.1 x22 x23 x24 (rd_L2 x22 x24) ((rd_L2 x22 x24).length : Int) 0) else (none)) else (some (([] : List Int), bt157.2)))) else (none)) else (none)) else (some (x9, 0))
def voices_Row.l1 : Nat → Bool → List (S45) → List Int → Int → List (List (S45)) → Int → Int → List (S45) → Int → Int → Option (List Int × Int)
 | 0, _, _, _, _, _, _, _, _, _, _ => none
 | k + 1, x2, x8, x9, x12, x22, x23, x24, x42, x43, x44 => if x44 < x43 then (if 0 ≤ x44 then (if x44 < (x42.length : Int) then ((voices_moved.f ((rd_T45 x42 x44).f0) ((rd_T45 x42 x44).f1) ((rd_T45 x42 x44).f2) ((rd_T45 x42 x44).f3) x12).bind fun bt164 => (if x8.length < 4398046511104 then (voices_Row.l1 k x2 (x8 ++ [(⟨bt164.1, bt164.2.1, bt164.2.2.1, bt164.2.2.2⟩ : S45)]) x9 x12 x22 x23 x24 x42 x43 (wrap64 (x44 + 1))) else (none))) else (none)) else (none)) else (voices_Row.l0 k x2 x8 x9 x22 x23 (wrap64 (x24 + 1)))
end
def voices_Row.f (k : Nat) (l0 : List (S45)) (l1 : List (List (S45))) (a2 : Bool) : Option (List Int × Int) := (voices_fits.f k l0 l1).bind fun t152 => (if t152 = true then ((api_Box.f l0).bind fun t153 => (voices_Row.l0 k a2 t153 ([] : List Int) l1 (l1.length : Int) 0)) else (some (([] : List Int), 2)))
theorem voices_Row.mono_l : ∀ k, (∀ y0 y1 y2 y3 y4 y5, LeO (voices_Row.l0 k y0 y1 y2 y3 y4 y5) (voices_Row.l0 (k + 1) y0 y1 y2 y3 y4 y5)) ∧ (∀ y0 y1 y2 y3 y4 y5 y6 y7 y8 y9, LeO (voices_Row.l1 k y0 y1 y2 y3 y4 y5 y6 y7 y8 y9) (voices_Row.l1 (k + 1) y0 y1 y2 y3 y4 y5 y6 y7 y8 y9))
 | 0 => ⟨fun _ _ _ _ _ _ r h => by simp [voices_Row.l0] at h, fun _ _ _ _ _ _ _ _ _ _ r h => by simp [voices_Row.l1] at h⟩
 | k + 1 => by
  obtain ⟨ih0, ih1⟩ := voices_Row.mono_l k
  refine ⟨?_, ?_⟩
  ·intro y0 y1 y2 y3 y4 y5
   unfold voices_Row.l0
   repeat' first
   | (with_reducible exact ih0 _ _ _ _ _ _)
   | (with_reducible exact ih1 _ _ _ _ _ _ _ _ _ _)
   | (with_reducible exact voices_fits.mono _ _ _)
   | (with_reducible exact voices_push.mono _ _ _ _)
   | (with_reducible exact LeO.refl _)
   | (with_reducible exact LeO.none _)
   | (with_reducible refine LeO.ite ?_ ?_)
   | (with_reducible refine LeO.bind ?_ (fun _ => ?_))
   | exact ih0 _ _ _ _ _ _
   | exact ih1 _ _ _ _ _ _ _ _ _ _
   | exact voices_fits.mono _ _ _
   | exact voices_push.mono _ _ _ _
   | exact LeO.none _
   | refine LeO.ite ?_ ?_
   | refine LeO.bind ?_ (fun _ => ?_)
  ·intro y0 y1 y2 y3 y4 y5 y6 y7 y8 y9
   unfold voices_Row.l1
   repeat' first
   | (with_reducible exact ih0 _ _ _ _ _ _)
   | (with_reducible exact ih1 _ _ _ _ _ _ _ _ _ _)
   | (with_reducible exact voices_fits.mono _ _ _)
   | (with_reducible exact voices_push.mono _ _ _ _)
   | (with_reducible exact LeO.refl _)
   | (with_reducible exact LeO.none _)
   | (with_reducible refine LeO.ite ?_ ?_)
   | (with_reducible refine LeO.bind ?_ (fun _ => ?_))
   | exact ih0 _ _ _ _ _ _
   | exact ih1 _ _ _ _ _ _ _ _ _ _
   | exact voices_fits.mono _ _ _
   | exact voices_push.mono _ _ _ _
   | exact LeO.none _
   | refine LeO.ite ?_ ?_
   | refine LeO.bind ?_ (fun _ => ?_)
theorem voices_Row.mono : ∀ a0 a1 a2 k, LeO (voices_Row.f k a0 a1 a2) (voices_Row.f (k + 1) a0 a1 a2) := by
 intro a0 a1 a2 k
 obtain ⟨ih0, ih1⟩ := voices_Row.mono_l k
 unfold voices_Row.f
 repeat' first
   | (with_reducible exact ih0 _ _ _ _ _ _)
   | (with_reducible exact ih1 _ _ _ _ _ _ _ _ _ _)
   | (with_reducible exact voices_fits.mono _ _ _)
   | (with_reducible exact voices_push.mono _ _ _ _)
   | (with_reducible exact LeO.refl _)
   | (with_reducible exact LeO.none _)
   | (with_reducible refine LeO.ite ?_ ?_)
   | (with_reducible refine LeO.bind ?_ (fun _ => ?_))
   | exact ih0 _ _ _ _ _ _
   | exact ih1 _ _ _ _ _ _ _ _ _ _
   | exact voices_fits.mono _ _ _
   | exact voices_push.mono _ _ _ _
   | exact LeO.none _
   | refine LeO.ite ?_ ?_
   | refine LeO.bind ?_ (fun _ => ?_)
set_option maxHeartbeats 8000000 in
set_option maxRecDepth 100000 in
theorem voices_Row.calls (k : Nat) (A0 : Option Addr) (c0 : Nat) (l0 : List (S45)) (A1 : Option Addr) (c1 : Nat) (l1 : List (List (S45))) (a2 : Bool) (r1 : List Int) (r2 : Int) (w : World) (hr0 : Kd.C k45 w A0 l0.length l0) (hc0 : l0.length ≤ c0) (hr1 : Kd.C (Kd.slice 45 k45) w A1 l1.length l1) (hc1 : l1.length ≤ c1) (h : voices_Row.f k l0 l1 a2 = some (r1, r2)) :
  Calls Try.prog 8 #[.slice A0 l0.length c0, .slice A1 l1.length c1, .bool a2] w fun e w' => ∃ v0_ : Value, e = .returned (.tuple #[v0_, .int .i64 r2]) ∧ Kd.R (Kd.int .i64) 3 w' w.heap.size (fun _ => True) v0_ r1 ∧ Below w.heap.size w w' := by
 have hu45 := Try.underlying45
 have HR0 := sd_ hr0
 have HC0 := sd_ hc0
 clear hr0 hc0
 have HR1 := sd_ hr1
 have HC1 := sd_ hc1
 clear hr1 hc1
 have HB := sd_ (Below.refl w.heap.size w)
 have H : ((voices_fits.f k l0 l1).bind fun t152 => (if t152 = true then ((api_Box.f l0).bind fun t153 => (voices_Row.l0 k a2 t153 ([] : List Int) l1 (l1.length : Int) 0)) else (some (([] : List Int), 2)))) = some (r1, r2) := h
 clear h
 replace H := ob_ H
 obtain ⟨t152, A40, H⟩ := H
 replace H : (if t152 = true then ((api_Box.f l0).bind fun t153 => (voices_Row.l0 k a2 t153 ([] : List Int) l1 (l1.length : Int) 0)) else (some (([] : List Int), 2))) = some (r1, r2) := H
 have A4 := sd_ A40
 clear A40
 by_cases c5 : t152 = true
 ·subst c5
  have H1 : ((api_Box.f l0).bind fun t153 => (voices_Row.l0 k a2 t153 ([] : List Int) l1 (l1.length : Int) 0)) = some (r1, r2) := by rw [if_pos rfl] at H; exact H
  clear H; have H := H1; clear H1
  replace H := ob_ H
  obtain ⟨t153, A60, H⟩ := H
  replace H : (voices_Row.l0 k a2 t153 ([] : List Int) l1 (l1.length : Int) 0) = some (r1, r2) := H
  have A6 := sd_ A60
  clear A60
  have H' := sd_ H
  clear H
  go_enter Try.func8, Try.ntmps8
  go_wp2_with (first | ((with_reducible refine gate_callee (f := 19) rfl ?_); refine goesL_ (some 18) rfl rfl Try.func19 (by kernel_rfl) rfl #[.slice A0 l0.length c0, .slice A1 l1.length c1] rfl (by (try simp only [lm_, lq_, lx_]); first | done | rfl | (simp only [ld_, lt_]; rfl)) ?_; (with_reducible refine (voices_fits.calls k _ _ l0 _ _ l1 true _ ?side1 ?side2 ?side3 ?side4 A4.out).mono ?_); (case side1 => repeat (first | exact HR0.out | (with_reducible refine Kd.C_alloc ?_ _) | (with_reducible refine Kd.C_drewN ?_ _) | (with_reducible refine Kd.C_drew ?_))); (case side2 => exact HC0.out); (case side3 => repeat (first | exact HR1.out | (with_reducible refine Kd.C_alloc ?_ _) | (with_reducible refine Kd.C_drewN ?_ _) | (with_reducible refine Kd.C_drew ?_))); (case side4 => exact HC1.out); rintro e w7 ⟨rfl, hb⟩; refine ⟨_, rfl, ?_⟩; replace HB := hb_ HB e0_ hb; (try clear hb); (try clear hb2); (try clear hk); (try clear hi)) | ((with_reducible refine gate_callee (f := 20) rfl ?_); refine goesL_ (some 21) rfl rfl Try.func20 (by kernel_rfl) rfl #[.slice A0 l0.length c0] rfl (by (try simp only [lm_, lq_, lx_]); first | done | rfl | (simp only [ld_, lt_]; rfl)) ?_; (with_reducible refine (api_Box.calls _ _ l0 t153 _ ?side1 ?side2 A6.out).mono ?_); (case side1 => repeat (first | exact (Kd.C_below HR0.out HB.out) | (with_reducible refine Kd.C_alloc ?_ _) | (with_reducible refine Kd.C_drewN ?_ _) | (with_reducible refine Kd.C_drew ?_))); (case side2 => exact HC0.out); rintro e w8 ⟨v154, rfl, ho0, hb⟩; refine ⟨_, rfl, ?_⟩; have HO155 := sd_ (Kd.R_lower ho0 (bz_ (bb_ HB.out e0_))); replace HB := hb_ HB e0_ hb; (try clear hb); (try clear hb2); (try clear hk); (try clear hi); (try clear ho0)))
  go_loopg [8, 9, 24] k (fun kq v8 v9 v24 w' => ∃ (x8_1 : List (S45)) (x9_1 : List Int) (x24_1 : Int), v24 = .int .i64 x24_1 ∧ Aside0 (voices_Row.l0 kq a2 x8_1 x9_1 l1 (l1.length : Int) x24_1 = some (r1, r2)) ∧ Aside0 (kq ≤ k) ∧ Aside0 (Kd.R k45 45 w' w.heap.size (fun _ => True) v8 x8_1) ∧ Aside0 (Kd.R (Kd.int .i64) 3 w' w.heap.size (fun _ => True) v9 x9_1) ∧ Aside0 (Below w.heap.size w w'))
  case atStart => exact ⟨(t153), (([] : List Int)), (0), (by first | rfl | (simp; done) | (simp [*]; done) | (simp [bne]; done)), H', ⟨Nat.le_refl _⟩, ⟨by (with_reducible repeat (first | apply Kd.R_alloc | apply Kd.R_drewN | apply Kd.R_drew)); exact HO155.out⟩, ⟨by first | exact Kd.R_nil _ _ _ _ _ | exact Kd.N_nil _ _ _ _ _ | exact Kd.V_nil _ _ _ _ _ | exact Kd.Q_nil _ _ _ _ _ | exact Kd.S_nil _ _ _ _ _⟩, ⟨by repeat (first | (with_reducible first | exact HB.out | apply ba_ | apply pd_ | apply d1_) | exact HB.out)⟩⟩
  case round =>
   clear H'
   try clear c1; try clear c2; try clear p2; try clear c5; try clear c8
   obtain ⟨x8_1, x9_1, x24_1, rfl, HA, HK1, HO_8, HO_9, HB⟩ := hrel
   cases gk with
   | zero => exact absurd HA.out (by simp [voices_Row.l0])
   | succ k1 =>
    have H := HA.out
    clear HA
    simp only [voices_Row.l0] at H
    by_cases c9 : x24_1 < (l1.length : Int)
    ·rw [if_pos c9] at H
     have c9b0 : decide (x24_1 < (l1.length : Int)) = true := dt_ c9
     clear c9
     by_cases c10 : 0 ≤ x24_1
     ·rw [if_pos c10] at H
      have c10b0 : decide (0 ≤ x24_1) = true := dt_ c10
      clear c10
      by_cases c11 : x24_1 < (l1.length : Int)
      ·rw [if_pos c11] at H
       have c11b0 : decide (x24_1 < (l1.length : Int)) = true := dt_ c11
       clear c11
       replace H := ob_ H
       obtain ⟨⟨t157, t158⟩, A120, H⟩ := H
       replace H : (if t158 = 0 then (if x9_1.length < 17592186044416 then (voices_Row.l1 k1 a2 x8_1 (x9_1 ++ [t157]) t157 l1 (l1.length : Int) x24_1 (rd_L2 l1 x24_1) ((rd_L2 l1 x24_1).length : Int) 0) else (none)) else (some (([] : List Int), t158))) = some (r1, r2) := H
       have A12 := sd_ A120
       clear A120
       by_cases c13 : t158 = 0
       ·rw [if_pos c13] at H
        have c13b0 : (t158 == 0) = true := beq_iff_eq.mpr c13
        have c13b1 : (t158 != 0) = false := bne_eq_false_iff_eq.mpr c13
        clear c13
        by_cases c14 : x9_1.length < 17592186044416
        ·rw [if_pos c14] at H
         have LMc14 := sd_ c14
         clear c14
         obtain ⟨y159, hy159⟩ : ∃ y_ : List Int, y_ = (x9_1 ++ [t157]) := ⟨_, rfl⟩
         replace H : (voices_Row.l1 k1 a2 x8_1 y159 t157 l1 (l1.length : Int) x24_1 (rd_L2 l1 x24_1) ((rd_L2 l1 x24_1).length : Int) 0) = some (r1, r2) := by first | (rw [hy159]; with_reducible exact H) | (have H2_ := (Option.bind_some _ _).symm.trans H; rw [hy159]; with_reducible exact H2_) | (have H2_ := (Option.bind_some _ _).symm.trans H; with_reducible exact H2_) | with_reducible exact H | (rw [hy159]; exact H) | exact H
         have Ny159 := sd_ hy159
         clear hy159
         have H' := sd_ H
         clear H
         have p156 : 0 ≤ (x24_1 : Int) := od_ (by first | (with_reducible assumption) | assumption)
         have q156 : x24_1 < (l1.length : Int) := od_ (by first | (with_reducible assumption) | assumption)
         obtain ⟨ad156, A156_0, c156_0, e156, hx156_0, hl156_0, hi156_0⟩ := at_L2 HR1.out x24_1 p156 q156
         cases e156
         replace hx156_0 := (HB.out.cell (wb_ w _ hx156_0)).trans hx156_0
         have HR156_0 := sd_ hi156_0
         have HC156_0 := sd_ hl156_0
         clear hi156_0 hl156_0
         replace p156 := eq_true p156
         replace q156 := eq_true q156
         obtain ⟨Ao15, co15, eo15⟩ := Kd.R_slice HO_8.out
         subst eo15
         go_wp2_with (first | ((with_reducible refine gate_callee (f := 21) rfl ?_); refine goesL_ (some 32) rfl rfl Try.func21 (by kernel_rfl) rfl #[.slice Ao15 x8_1.length co15, .slice A156_0 (rd_L2 l1 x24_1).length c156_0, .bool a2] rfl (by (try simp only [lm_, lq_, lx_]); first | done | rfl | (simp only [ld_, lt_]; rfl)) ?_; (with_reducible refine (voices_push.calls k1 _ _ x8_1 _ _ (rd_L2 l1 x24_1) a2 t157 t158 _ ?side1 ?side2 ?side3 ?side4 A12.out).mono ?_); (case side1 => repeat (first | exact (Kd.R_reads' HO_8.out).2.2 | (with_reducible refine Kd.C_alloc ?_ _) | (with_reducible refine Kd.C_drewN ?_ _) | (with_reducible refine Kd.C_drew ?_))); (case side2 => exact (Kd.R_reads' HO_8.out).2.1); (case side3 => repeat (first | exact (Kd.C_below HR156_0.out HB.out) | (with_reducible refine Kd.C_alloc ?_ _) | (with_reducible refine Kd.C_drewN ?_ _) | (with_reducible refine Kd.C_drew ?_))); (case side4 => exact HC156_0.out); rintro e w16 ⟨rfl, hb⟩; refine ⟨_, rfl, ?_⟩; replace HO_8 := sd_ (Kd.R_below (by (with_reducible repeat (first | apply Kd.R_alloc | apply Kd.R_drewN | apply Kd.R_drew)); exact HO_8.out) hb); replace HO_9 := sd_ (Kd.R_below (by (with_reducible repeat (first | apply Kd.R_alloc | apply Kd.R_drewN | apply Kd.R_drew)); exact HO_9.out) hb); replace HB := hb_ HB e0_ hb; (try clear hb); (try clear hb2); (try clear hk); (try clear hi)) | ((with_reducible refine gate_builtin (b := .append) (xs := #[.tmp 38, .tmp 40]) rfl ?_); at_builtin; refine Kd.R_append (Kd.int .i64) (w0 := w) w.heap.size rfl (.tmp 38) (.tmp 40) 26 3 (.int .i64 0) 8 rfl Try.underlying26 info3 rfl (by decide) (by omega) u9 x9_1 t157 [.int .i64 t157] (fun _ => True) (fun _ => False) rfl rfl ?aP (fun _ hk => hk.elim) ?aF ?aO ?aB ?aS ?aL ?_; (case aP => exact rfl); (case aB => exact (bb_ HB.out e0_)); (case aF => exact (fun _ _ => trivial)); (case aO => exact (by (with_reducible repeat (first | apply Kd.R_alloc | apply Kd.R_drewN | apply Kd.R_drew)); exact HO_9.out)); (case aS => exact (bz_ (bb_ HB.out e0_))); (case aL => have := LMc14.out; omega); intro v160 w17 ho hb hg hat; rw [← Ny159.out] at ho; have n0_ := sd_ (Kd.R_over' (by (with_reducible repeat (first | apply Kd.R_alloc | apply Kd.R_drewN | apply Kd.R_drew)); exact HO_8.out) (Kd.R_typed (by (with_reducible repeat (first | apply Kd.R_alloc | apply Kd.R_drewN | apply Kd.R_drew)); exact HO_9.out)) (by decide) hg); have n1_ := sd_ (hb); have n2_ := sd_ (ho); clear HO_8; clear HB; clear HO_9; have HO_8 := n0_; have HB := n1_; have HO161 := n2_; clear n0_ n1_ n2_; clear ho hb hg hat))
         go_loopg [8, 44] k1 (fun kq v8 v44 w' => ∃ (x8_2 : List (S45)) (x44_2 : Int), v44 = .int .i64 x44_2 ∧ Aside0 (voices_Row.l1 kq a2 x8_2 y159 t157 l1 (l1.length : Int) x24_1 (rd_L2 l1 x24_1) ((rd_L2 l1 x24_1).length : Int) x44_2 = some (r1, r2)) ∧ Aside0 (kq ≤ k1) ∧ Aside0 (Kd.R k45 45 w' w.heap.size (fun _ => True) v8 x8_2) ∧ Aside0 (Kd.R (Kd.int .i64) 3 w' w.heap.size (fun _ => True) v160 y159) ∧ Aside0 (Below w.heap.size w w'))
         case atStart => exact ⟨(x8_1), (0), (by first | rfl | (simp; done) | (simp [*]; done) | (simp [bne]; done)), H', ⟨Nat.le_refl _⟩, ⟨by (with_reducible repeat (first | apply Kd.R_alloc | apply Kd.R_drewN | apply Kd.R_drew)); exact HO_8.out⟩, ⟨by (with_reducible repeat (first | apply Kd.R_alloc | apply Kd.R_drewN | apply Kd.R_drew)); exact HO161.out⟩, ⟨by repeat (first | (with_reducible first | exact HB.out | apply ba_ | apply pd_ | apply d1_) | exact HB.out)⟩⟩
         case round =>
          clear H'
          try clear c1; try clear p1; try clear q1; try clear hx1; try clear c2; try clear p2; try clear c5; try clear c8; try clear c9; try clear c9b0; try clear c10; try clear c10b0; try clear c11; try clear c11b0; try clear c13; try clear c13b0; try clear c13b1; try clear c14; try clear c15; try clear p15; try clear q15; try clear hx15; try clear hx156_0; try clear p156; try clear p2; try clear q156
          obtain ⟨x8_2, x44_2, rfl, HA, HK2, HO_8, HO_9, HB⟩ := hrel
          cases gk with
          | zero => exact absurd HA.out (by simp [voices_Row.l1])
          | succ k2 =>
           have H := HA.out
           clear HA
           simp only [voices_Row.l1] at H
           by_cases c18 : x44_2 < ((rd_L2 l1 x24_1).length : Int)
           ·rw [if_pos c18] at H
            have c18b0 : decide (x44_2 < ((rd_L2 l1 x24_1).length : Int)) = true := dt_ c18
            clear c18
            by_cases c19 : 0 ≤ x44_2
            ·rw [if_pos c19] at H
             have c19b0 : decide (0 ≤ x44_2) = true := dt_ c19
             clear c19
             by_cases c20 : x44_2 < ((rd_L2 l1 x24_1).length : Int)
             ·rw [if_pos c20] at H
              have c20b0 : decide (x44_2 < ((rd_L2 l1 x24_1).length : Int)) = true := dt_ c20
              clear c20
              replace H := ob_ H
              obtain ⟨⟨t164, t165, t166, t167⟩, A210, H⟩ := H
              replace H : (if x8_2.length < 4398046511104 then (voices_Row.l1 k2 a2 (x8_2 ++ [(⟨t164, t165, t166, t167⟩ : S45)]) y159 t157 l1 (l1.length : Int) x24_1 (rd_L2 l1 x24_1) ((rd_L2 l1 x24_1).length : Int) (wrap64 (x44_2 + 1))) else (none)) = some (r1, r2) := H
              have A21 := sd_ A210
              clear A210
              by_cases c22 : x8_2.length < 4398046511104
              ·rw [if_pos c22] at H
               have LMc22 := sd_ c22
               clear c22
               obtain ⟨y168, hy168⟩ : ∃ y_ : List (S45), y_ = (x8_2 ++ [(⟨t164, t165, t166, t167⟩ : S45)]) := ⟨_, rfl⟩
               replace H : (voices_Row.l1 k2 a2 y168 y159 t157 l1 (l1.length : Int) x24_1 (rd_L2 l1 x24_1) ((rd_L2 l1 x24_1).length : Int) (wrap64 (x44_2 + 1))) = some (r1, r2) := by first | (rw [hy168]; with_reducible exact H) | (have H2_ := (Option.bind_some _ _).symm.trans H; rw [hy168]; with_reducible exact H2_) | (have H2_ := (Option.bind_some _ _).symm.trans H; with_reducible exact H2_) | with_reducible exact H | (rw [hy168]; exact H) | exact H
               have Ny168 := sd_ hy168
               clear hy168
               have H' := sd_ H
               clear H
               have p162 : 0 ≤ (x44_2 : Int) := od_ (by first | (with_reducible assumption) | assumption)
               have q162 : x44_2 < ((rd_L2 l1 x24_1).length : Int) := od_ (by first | (with_reducible assumption) | assumption)
               obtain ⟨ad162, e162, hx162_0, hx162_1, hx162_2, hx162_3⟩ := at_T45 HR156_0.out x44_2 p162 q162
               cases e162
               replace hx162_0 := (HB.out.cell (wb_ w _ hx162_0)).trans hx162_0
               replace hx162_1 := (HB.out.cell (wb_ w _ hx162_1)).trans hx162_1
               replace hx162_2 := (HB.out.cell (wb_ w _ hx162_2)).trans hx162_2
               replace hx162_3 := (HB.out.cell (wb_ w _ hx162_3)).trans hx162_3
               replace p162 := eq_true p162
               replace q162 := eq_true q162
               go_wp2_with (first | ((with_reducible refine gate_dst (N := 15) rfl ?_); refine box_event ?hg (N := 15) ?hd (cs := #[.int .i64 0, .int .i64 0, .int .i64 0, .int .i64 0]) (t := 45) ?hr ?_; (case hd => rfl); (case hg => rfl); (case hr => first | (go_simp; done) | (go_simp; rfl)); intro gb163 hg w23 hbox hb; have BK163 := sd_ hbox; have GW163 := gw_ HB e0_ hg; have GE163 := GW163; replace HO_8 := sd_ (Kd.R_below (Kd.R_elderB (by (with_reducible repeat (first | apply Kd.R_alloc | apply Kd.R_drewN | apply Kd.R_drew)); exact HO_8.out) gb163 (Nat.le_of_eq hg.symm)) hb); replace HO_9 := sd_ (Kd.R_below (by (with_reducible repeat (first | apply Kd.R_alloc | apply Kd.R_drewN | apply Kd.R_drew)); exact HO_9.out) hb); replace HB := hb_ HB e0_ hb; clear hb hbox hg; have hcz24_0 : w23.cell? ⟨gb163, 0, none⟩ = some (.int .i64 0) := (kc_ BK163.out 0).trans rfl; have hcz24_1 : w23.cell? ⟨gb163, 1, none⟩ = some (.int .i64 0) := (kc_ BK163.out 1).trans rfl; have hcz24_2 : w23.cell? ⟨gb163, 2, none⟩ = some (.int .i64 0) := (kc_ BK163.out 2).trans rfl; have hcz24_3 : w23.cell? ⟨gb163, 3, none⟩ = some (.int .i64 0) := (kc_ BK163.out 3).trans rfl; have hfz24_0 := kf_ BK163.out 0; have hfz24_1 := kf_ BK163.out 1; have hfz24_2 := kf_ BK163.out 2; have hfz24_3 := kf_ BK163.out 3) | ((with_reducible refine gate_callee (f := 22) rfl ?_); refine goesL_ (some 51) rfl rfl Try.func22 (by kernel_rfl) rfl #[.agg #[.int .i64 ((rd_T45 (rd_L2 l1 x24_1) x44_2).f0), .int .i64 ((rd_T45 (rd_L2 l1 x24_1) x44_2).f1), .int .i64 ((rd_T45 (rd_L2 l1 x24_1) x44_2).f2), .int .i64 ((rd_T45 (rd_L2 l1 x24_1) x44_2).f3)], .int .i64 t157] rfl (by (try simp only [lm_, lq_, lx_]); first | done | rfl | (simp only [ld_, lt_]; rfl)) ?_; (with_reducible refine (voices_moved.calls ((rd_T45 (rd_L2 l1 x24_1) x44_2).f0) ((rd_T45 (rd_L2 l1 x24_1) x44_2).f1) ((rd_T45 (rd_L2 l1 x24_1) x44_2).f2) ((rd_T45 (rd_L2 l1 x24_1) x44_2).f3) t157 t164 t165 t166 t167 _ A21.out).mono ?_); rintro e w25 ⟨rfl, hb⟩; refine ⟨_, rfl, ?_⟩; have n0_ := sd_ (Kd.R_below (by (with_reducible repeat (first | apply Kd.R_alloc | apply Kd.R_drewN | apply Kd.R_drew)); exact (Kd.R_mono (Kd.R_far (p := ⟨gb163, 3, none⟩) (Kd.R_far (p := ⟨gb163, 2, none⟩) (Kd.R_far (p := ⟨gb163, 1, none⟩) (Kd.R_far (p := ⟨gb163, 0, none⟩) (Kd.R_mono HO_8.out (fun k_ hk => (⟨hk, hk.2⟩ : _ ∧ k_ ≠ gb163))) (fun _ hk => hk.2) (.int .i64 ((rd_T45 (rd_L2 l1 x24_1) x44_2).f0))) (fun _ hk => hk.2) (.int .i64 ((rd_T45 (rd_L2 l1 x24_1) x44_2).f1))) (fun _ hk => hk.2) (.int .i64 ((rd_T45 (rd_L2 l1 x24_1) x44_2).f2))) (fun _ hk => hk.2) (.int .i64 ((rd_T45 (rd_L2 l1 x24_1) x44_2).f3))) (fun _ h_ => h_.1))) hb); have n1_ := sd_ (Kd.R_below (by (with_reducible repeat (first | apply Kd.R_alloc | apply Kd.R_drewN | apply Kd.R_drew)); exact (Kd.R_mono (Kd.R_far (p := ⟨gb163, 3, none⟩) (Kd.R_far (p := ⟨gb163, 2, none⟩) (Kd.R_far (p := ⟨gb163, 1, none⟩) (Kd.R_far (p := ⟨gb163, 0, none⟩) (Kd.R_types HO_9.out BK163.out (by decide)) (fun _ hk => hk.2) (.int .i64 ((rd_T45 (rd_L2 l1 x24_1) x44_2).f0))) (fun _ hk => hk.2) (.int .i64 ((rd_T45 (rd_L2 l1 x24_1) x44_2).f1))) (fun _ hk => hk.2) (.int .i64 ((rd_T45 (rd_L2 l1 x24_1) x44_2).f2))) (fun _ hk => hk.2) (.int .i64 ((rd_T45 (rd_L2 l1 x24_1) x44_2).f3))) (fun _ h_ => h_.1))) hb); have n2_ := sd_ (blk_below (g := gb163) (o := .cells #[.int .i64 ((rd_T45 (rd_L2 l1 x24_1) x44_2).f0), .int .i64 ((rd_T45 (rd_L2 l1 x24_1) x44_2).f1), .int .i64 ((rd_T45 (rd_L2 l1 x24_1) x44_2).f2), .int .i64 ((rd_T45 (rd_L2 l1 x24_1) x44_2).f3)] 45 (0, 0)) (by (with_reducible repeat first | apply kn_ | apply kd_ | apply ka_); refine blk_put (cs := #[.int .i64 ((rd_T45 (rd_L2 l1 x24_1) x44_2).f0), .int .i64 ((rd_T45 (rd_L2 l1 x24_1) x44_2).f1), .int .i64 ((rd_T45 (rd_L2 l1 x24_1) x44_2).f2), .int .i64 0]) ?_ 3 _ rfl; (with_reducible repeat first | apply kn_ | apply kd_ | apply ka_); refine blk_put (cs := #[.int .i64 ((rd_T45 (rd_L2 l1 x24_1) x44_2).f0), .int .i64 ((rd_T45 (rd_L2 l1 x24_1) x44_2).f1), .int .i64 0, .int .i64 0]) ?_ 2 _ rfl; (with_reducible repeat first | apply kn_ | apply kd_ | apply ka_); refine blk_put (cs := #[.int .i64 ((rd_T45 (rd_L2 l1 x24_1) x44_2).f0), .int .i64 0, .int .i64 0, .int .i64 0]) ?_ 1 _ rfl; (with_reducible repeat first | apply kn_ | apply kd_ | apply ka_); refine blk_put (cs := #[.int .i64 0, .int .i64 0, .int .i64 0, .int .i64 0]) ?_ 0 _ rfl; (with_reducible repeat first | apply kn_ | apply kd_ | apply ka_); exact BK163.out) hb); have n3_ := hb_ HB (e_ GE163 e0_) hb; clear HO_8; clear HO_9; clear BK163; clear HB; have HO_8 := n0_; have HO_9 := n1_; have BK163 := n2_; have HB := n3_; clear n0_ n1_ n2_ n3_; (try clear hb); (try clear hb2); (try clear hk); (try clear hi)) | ((with_reducible refine gate_builtin (b := .append) (xs := #[.tmp 48, .tmp 52]) rfl ?_); at_builtin; refine Kd.R_append k45 (w0 := w) w.heap.size rfl (.tmp 48) (.tmp 52) 22 45 (.agg #[(.int .i64 0), (.int .i64 0), (.int .i64 0), (.int .i64 0)]) 32 rfl Try.underlying22 info45 rfl (by decide) (by omega) u8 x8_2 (⟨t164, t165, t166, t167⟩ : S45) [.int .i64 t164, .int .i64 t165, .int .i64 t166, .int .i64 t167] (fun k_ => k_ ≠ gb163) (fun _ => False) rfl rfl ?aP (fun _ hk => hk.elim) ?aF ?aO ?aB ?aS ?aL ?_; (case aP => exact k45_mkM _ _ _ (⟨t164, t165, t166, t167⟩ : S45)); (case aB => exact (bb_ HB.out (e_ GE163 e0_))); (case aF => exact (fun k_ hk => Kd.freshB (kk_ BK163.out) k_ hk)); (case aO => exact (by (with_reducible repeat (first | apply Kd.R_alloc | apply Kd.R_drewN | apply Kd.R_drew)); exact Kd.R_mono HO_8.out (fun _ hk => hk.2))); (case aS => exact (bz_ (bb_ HB.out (e_ GE163 e0_)))); (case aL => have := LMc22.out; omega); intro v169 w26 ho hb hg hat; rw [← Ny168.out] at ho; have n0_ := sd_ (Kd.R_over' (by (with_reducible repeat (first | apply Kd.R_alloc | apply Kd.R_drewN | apply Kd.R_drew)); exact HO_9.out) (Kd.R_typed (by (with_reducible repeat (first | apply Kd.R_alloc | apply Kd.R_drewN | apply Kd.R_drew)); exact HO_8.out)) (by decide) hg); have n1_ := sd_ (blk_grown (kk_ BK163.out) hg (Kd.R_away HO_8.out (fun _ hk => hk.2))); have n2_ := sd_ (hb); have n3_ := sd_ (ho); clear HO_9; clear BK163; clear HB; clear HO_8; have HO_9 := n0_; have BK163 := n1_; have HB := n2_; have HO170 := n3_; clear n0_ n1_ n2_ n3_; clear ho hb hg hat))
               go_roundg k2
               case measure => have := HK1.out; have := HK2.out; omega
               case rel => exact ⟨(y168), (wrap64 (x44_2 + 1)), (by first | rfl | (simp; done) | (simp [*]; done) | (simp [bne]; done)), H', ⟨by have := HK1.out; have := HK2.out; omega⟩, ⟨by (with_reducible repeat (first | apply Kd.R_alloc | apply Kd.R_drewN | apply Kd.R_drew)); exact Kd.R_mono HO170.out (fun _ hk => trivial)⟩, ⟨by (with_reducible repeat (first | apply Kd.R_alloc | apply Kd.R_drewN | apply Kd.R_drew)); exact HO_9.out⟩, ⟨by repeat (first | (with_reducible first | exact HB.out | apply ba_ | apply pd_ | apply d1_ | refine bs_ ?_ GE163.out) | exact HB.out)⟩⟩
              ·rw [if_neg c22] at H
               exact absurd H (by simp)
             ·rw [if_neg c20] at H
              exact absurd H (by simp)
            ·rw [if_neg c19] at H
             exact absurd H (by simp)
           ·rw [if_neg c18] at H
            have c18b0 : decide (x44_2 < ((rd_L2 l1 x24_1).length : Int)) = false := df_ c18
            clear c18
            have H' := sd_ H
            clear H
            go_wp2
            go_roundg k2
            case measure => have := HK1.out; have := HK2.out; omega
            case rel => exact ⟨(x8_2), (y159), (wrap64 (x24_1 + 1)), (by first | rfl | (simp; done) | (simp [*]; done) | (simp [bne]; done)), H', ⟨by have := HK1.out; have := HK2.out; omega⟩, ⟨by (with_reducible repeat (first | apply Kd.R_alloc | apply Kd.R_drewN | apply Kd.R_drew)); exact HO_8.out⟩, ⟨by (with_reducible repeat (first | apply Kd.R_alloc | apply Kd.R_drewN | apply Kd.R_drew)); exact HO_9.out⟩, ⟨by repeat (first | (with_reducible first | exact HB.out | apply ba_ | apply pd_ | apply d1_) | exact HB.out)⟩⟩
        ·rw [if_neg c14] at H
         exact absurd H (by simp)
       ·rw [if_neg c13] at H
        have c13b0 : (t158 == 0) = false := beq_eq_false_iff_ne.mpr c13
        have c13b1 : (t158 != 0) = true := bne_iff_ne.mpr c13
        simp only [Option.some.injEq, Prod.mk.injEq] at H
        obtain ⟨rfl, rfl⟩ := H
        have p156 : 0 ≤ (x24_1 : Int) := od_ (by first | (with_reducible assumption) | assumption)
        have q156 : x24_1 < (l1.length : Int) := od_ (by first | (with_reducible assumption) | assumption)
        obtain ⟨ad156, A156_0, c156_0, e156, hx156_0, hl156_0, hi156_0⟩ := at_L2 HR1.out x24_1 p156 q156
        cases e156
        replace hx156_0 := (HB.out.cell (wb_ w _ hx156_0)).trans hx156_0
        have HR156_0 := sd_ hi156_0
        have HC156_0 := sd_ hl156_0
        clear hi156_0 hl156_0
        replace p156 := eq_true p156
        replace q156 := eq_true q156
        obtain ⟨Ao27, co27, eo27⟩ := Kd.R_slice HO_8.out
        subst eo27
        go_wp2_with (first | ((with_reducible refine gate_callee (f := 21) rfl ?_); refine goesL_ (some 32) rfl rfl Try.func21 (by kernel_rfl) rfl #[.slice Ao27 x8_1.length co27, .slice A156_0 (rd_L2 l1 x24_1).length c156_0, .bool a2] rfl (by (try simp only [lm_, lq_, lx_]); first | done | rfl | (simp only [ld_, lt_]; rfl)) ?_; (with_reducible refine (voices_push.calls k1 _ _ x8_1 _ _ (rd_L2 l1 x24_1) a2 t157 t158 _ ?side1 ?side2 ?side3 ?side4 A12.out).mono ?_); (case side1 => repeat (first | exact (Kd.R_reads' HO_8.out).2.2 | (with_reducible refine Kd.C_alloc ?_ _) | (with_reducible refine Kd.C_drewN ?_ _) | (with_reducible refine Kd.C_drew ?_))); (case side2 => exact (Kd.R_reads' HO_8.out).2.1); (case side3 => repeat (first | exact (Kd.C_below HR156_0.out HB.out) | (with_reducible refine Kd.C_alloc ?_ _) | (with_reducible refine Kd.C_drewN ?_ _) | (with_reducible refine Kd.C_drew ?_))); (case side4 => exact HC156_0.out); rintro e w28 ⟨rfl, hb⟩; refine ⟨_, rfl, ?_⟩; replace HO_8 := sd_ (Kd.R_below (by (with_reducible repeat (first | apply Kd.R_alloc | apply Kd.R_drewN | apply Kd.R_drew)); exact HO_8.out) hb); replace HO_9 := sd_ (Kd.R_below (by (with_reducible repeat (first | apply Kd.R_alloc | apply Kd.R_drewN | apply Kd.R_drew)); exact HO_9.out) hb); replace HB := hb_ HB e0_ hb; (try clear hb); (try clear hb2); (try clear hk); (try clear hi)))
        go_ret2
        exact ⟨_, by first | rfl | (simp [errW_none, errW_some] <;> rfl) | (simp [*, errW_none, errW_some] <;> rfl), by first | exact Kd.R_nil _ _ _ _ _ | exact Kd.N_nil _ _ _ _ _ | exact Kd.V_nil _ _ _ _ _ | exact Kd.Q_nil _ _ _ _ _ | exact Kd.S_nil _ _ _ _ _, by repeat (first | (with_reducible first | exact HB.out | apply ba_ | apply pd_ | apply d1_) | exact HB.out)⟩
      ·rw [if_neg c11] at H
       exact absurd H (by simp)
     ·rw [if_neg c10] at H
      exact absurd H (by simp)
    ·rw [if_neg c9] at H
     have c9b0 : decide (x24_1 < (l1.length : Int)) = false := df_ c9
     clear c9
     simp only [Option.some.injEq, Prod.mk.injEq] at H
     obtain ⟨rfl, rfl⟩ := H
     go_wp2
     go_ret2
     exact ⟨_, by first | rfl | (simp [errW_none, errW_some] <;> rfl) | (simp [*, errW_none, errW_some] <;> rfl), by (with_reducible repeat (first | apply Kd.R_alloc | apply Kd.R_drewN | apply Kd.R_drew)); exact HO_9.out, by repeat (first | (with_reducible first | exact HB.out | apply ba_ | apply pd_ | apply d1_) | exact HB.out)⟩
 ·replace c5 := bf_ c5
  subst c5
  have H1 : (some (([] : List Int), 2)) = some (r1, r2) := by rw [if_neg (show ¬ (false = true) by decide)] at H; exact H
  clear H; have H := H1; clear H1
  simp only [Option.some.injEq, Prod.mk.injEq] at H
  obtain ⟨rfl, rfl⟩ := H
  go_enter Try.func8, Try.ntmps8
  go_wp2_with (first | ((with_reducible refine gate_callee (f := 19) rfl ?_); refine goesL_ (some 18) rfl rfl Try.func19 (by kernel_rfl) rfl #[.slice A0 l0.length c0, .slice A1 l1.length c1] rfl (by (try simp only [lm_, lq_, lx_]); first | done | rfl | (simp only [ld_, lt_]; rfl)) ?_; (with_reducible refine (voices_fits.calls k _ _ l0 _ _ l1 false _ ?side1 ?side2 ?side3 ?side4 A4.out).mono ?_); (case side1 => repeat (first | exact HR0.out | (with_reducible refine Kd.C_alloc ?_ _) | (with_reducible refine Kd.C_drewN ?_ _) | (with_reducible refine Kd.C_drew ?_))); (case side2 => exact HC0.out); (case side3 => repeat (first | exact HR1.out | (with_reducible refine Kd.C_alloc ?_ _) | (with_reducible refine Kd.C_drewN ?_ _) | (with_reducible refine Kd.C_drew ?_))); (case side4 => exact HC1.out); rintro e w29 ⟨rfl, hb⟩; refine ⟨_, rfl, ?_⟩; replace HB := hb_ HB e0_ hb; (try clear hb); (try clear hb2); (try clear hk); (try clear hi)))
  go_ret2
  exact ⟨_, by first | rfl | (simp [errW_none, errW_some] <;> rfl) | (simp [*, errW_none, errW_some] <;> rfl), by first | exact Kd.R_nil _ _ _ _ _ | exact Kd.N_nil _ _ _ _ _ | exact Kd.V_nil _ _ _ _ _ | exact Kd.Q_nil _ _ _ _ _ | exact Kd.S_nil _ _ _ _ _, by repeat (first | (with_reducible first | exact HB.out | apply ba_ | apply pd_ | apply d1_) | exact HB.out)⟩

/-! ### voices_Shifts: function 10 -/
def voices_Shifts.f (k : Nat) (l0 : List (List (S45))) : Option (List Int × Int) := (voices_Row.f k ([] : List (S45)) l0 true).bind fun bt171 => (some (bt171.1, bt171.2))
theorem voices_Shifts.mono : ∀ a0 k, LeO (voices_Shifts.f k a0) (voices_Shifts.f (k + 1) a0) := by
 intro a0 k
 unfold voices_Shifts.f
 repeat' first
   | (with_reducible exact voices_Row.mono _ _ _ _)
   | (with_reducible exact LeO.refl _)
   | (with_reducible exact LeO.none _)
   | (with_reducible refine LeO.ite ?_ ?_)
   | (with_reducible refine LeO.bind ?_ (fun _ => ?_))
   | exact voices_Row.mono _ _ _ _
   | exact LeO.none _
   | refine LeO.ite ?_ ?_
   | refine LeO.bind ?_ (fun _ => ?_)
set_option maxHeartbeats 8000000 in
set_option maxRecDepth 100000 in
theorem voices_Shifts.calls (k : Nat) (A0 : Option Addr) (c0 : Nat) (l0 : List (List (S45))) (r1 : List Int) (r2 : Int) (w : World) (hr0 : Kd.C (Kd.slice 45 k45) w A0 l0.length l0) (hc0 : l0.length ≤ c0) (h : voices_Shifts.f k l0 = some (r1, r2)) :
  Calls Try.prog 10 #[.slice A0 l0.length c0] w fun e w' => ∃ v0_ : Value, e = .returned (.tuple #[v0_, .int .i64 r2]) ∧ Kd.R (Kd.int .i64) 3 w' w.heap.size (fun _ => True) v0_ r1 ∧ Below w.heap.size w w' := by
 have HR0 := sd_ hr0
 have HC0 := sd_ hc0
 clear hr0 hc0
 have HB := sd_ (Below.refl w.heap.size w)
 have H : ((voices_Row.f k ([] : List (S45)) l0 true).bind fun bt171 => (some (bt171.1, bt171.2))) = some (r1, r2) := h
 clear h
 replace H := ob_ H
 obtain ⟨⟨t171, t172⟩, A20, H⟩ := H
 replace H : (some (t171, t172)) = some (r1, r2) := H
 have A2 := sd_ A20
 clear A20
 simp only [Option.some.injEq, Prod.mk.injEq] at H
 obtain ⟨rfl, rfl⟩ := H
 go_enter Try.func10, Try.ntmps10
 go_wp2_with (first | ((with_reducible refine gate_callee (f := 8) rfl ?_); refine goesL_ (some 5) rfl rfl Try.func8 (by kernel_rfl) rfl #[.slice none 0 0, .slice A0 l0.length c0, .bool true] rfl (by (try simp only [lm_, lq_, lx_]); first | done | rfl | (simp only [ld_, lt_]; rfl)) ?_; (refine (voices_Row.calls k _ _ ([] : List (S45)) _ _ l0 true t171 t172 _ ?side1 ?side2 ?side3 ?side4 A2.out).mono ?_); (case side1 => exact Kd.C_nil _ _); (case side2 => exact Nat.le_refl _); (case side3 => repeat (first | exact HR0.out | (with_reducible refine Kd.C_alloc ?_ _) | (with_reducible refine Kd.C_drewN ?_ _) | (with_reducible refine Kd.C_drew ?_))); (case side4 => exact HC0.out); rintro e w3 ⟨v173, rfl, ho0, hb⟩; refine ⟨_, rfl, ?_⟩; have HO174 := sd_ (Kd.R_lower ho0 (bz_ (bb_ HB.out e0_))); replace HB := hb_ HB e0_ hb; (try clear hb); (try clear hb2); (try clear hk); (try clear hi); (try clear ho0)))
 go_ret2
 exact ⟨_, by first | rfl | (simp [errW_none, errW_some] <;> rfl) | (simp [*, errW_none, errW_some] <;> rfl), by (with_reducible repeat (first | apply Kd.R_alloc | apply Kd.R_drewN | apply Kd.R_drew)); exact HO174.out, by repeat (first | (with_reducible first | exact HB.out | apply ba_ | apply pd_ | apply d1_) | exact HB.out)⟩

end Go.Proofs.Ytchmcljinkemaaa.P
