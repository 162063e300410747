-- Written by a program of this session (wip/tools/xprint.py, over the kit's print): Lean checks it.
import Derived.Test.YteecpeggnejeaaaDoorPx0
namespace Go.Proofs.YteecpeggnejeaaaDoor.P
open Go.RowKit Go.Proofs.YteecpeggnejeaaaDoorW.PrintWords Go.Proofs.YteecpeggnejeaaaDoorW.PrintLast Go.Proofs.YteecpeggnejeaaaDoorW.PrintMore
attribute [local go_sem] max2_int min2_int max_two min_two max_three min_three max_four min_four   -- for this text's walks alone
set_option linter.unusedVariables false
set_option linter.unusedSimpArgs false

/-! ### fix_Ok: function 27 -/
def fix_Ok.f (a0 : Int) : Option (Bool) := if (-1099511627776) ≤ a0 then (some (decide (a0 ≤ 1099511627776))) else (some false)
set_option maxHeartbeats 8000000 in
set_option maxRecDepth 100000 in
theorem fix_Ok.calls (a0 : Int) (r : Bool) (w : World) (h : fix_Ok.f a0 = some r) :
  Calls Tryd.prog 27 #[.int .i64 a0] w fun e w' => e = .returned (.bool r) ∧ Drawn0 w w' := by
 have H : (if (-1099511627776) ≤ a0 then (some (decide (a0 ≤ 1099511627776))) else (some false)) = some r := h
 clear h
 by_cases c2 : (-1099511627776) ≤ a0
 ·rw [if_pos c2] at H
  have c2b0 : decide ((-1099511627776) ≤ a0) = true := dt_ c2
  clear c2
  obtain rfl := Option.some.inj H
  go_enter Tryd.func27, Tryd.ntmps27
  go_wp2
  go_ret
  exact ⟨by first | rfl | (simp; done) | (simp [*]; done), by repeat (first | exact Drawn0.refl _ | apply Drawn0.step)⟩
 ·rw [if_neg c2] at H
  have c2b0 : decide ((-1099511627776) ≤ a0) = false := df_ c2
  clear c2
  obtain rfl := Option.some.inj H
  go_enter Tryd.func27, Tryd.ntmps27
  go_wp2
  go_ret
  exact ⟨by first | rfl | (simp; done) | (simp [*]; done), by repeat (first | exact Drawn0.refl _ | apply Drawn0.step)⟩

/-! ### fix_all: function 33 -/
theorem fx_R {w : World} {g base : Nat} {k : IntKind} {e : TypeId} {l : List Int} (h : w.heap[g]? = some (.cells (nums k l).toArray e (0, 0))) (hb : base ≤ g) (hl : l.length ≤ 9223372036854775807) : Kd.R (Kd.int k) e w base (fun _ => True) (.slice (some ⟨g, 0, none⟩) l.length l.length) l :=
 Kd.R_of_own ⟨by simp [encs], .inr ⟨g, l.length, (nums k l).toArray, rfl, hb, h, Nat.le_refl _, by simpa [maxLen] using hl, by simp [nums], by simp [nums, encs, List.take_of_length_le]⟩⟩ (fun _ _ => trivial)
theorem fx_C (W : World) (l : List Int) (hl : l.length ≤ 9223372036854775807) : Kd.C (Kd.int .i64) (W.alloc (.cells (nums .i64 l).toArray 3)) (some ⟨W.heap.size, 0, none⟩) l.length l := by
 have h : (W.alloc (.cells (nums .i64 l).toArray 3)).heap[W.heap.size]? = some (.cells (nums .i64 l).toArray 3 (0, 0)) := heap_alloc_new W _
 obtain ⟨A, c, e, _, hC⟩ := Kd.R_reads (fx_R (base := 0) h (Nat.zero_le _) hl)
 cases e
 exact hC
/-- Is a number a length? -/
def fx_ok (x : Int) : Bool := decide (-1099511627776 ≤ x ∧ x ≤ 1099511627776)
theorem fx_ret {a b : Bool} (h : a = b) : Ending.returned (.bool a) = .returned (.bool b) := by rw [h]
theorem fx_Ok (x : Int) (w : World) : Calls Tryd.prog 27 #[.int .i64 x] w fun e w' => e = .returned (.bool (fx_ok x)) ∧ w' = w := by
 unfold fx_ok
 by_cases c : -1099511627776 ≤ x
 ·go_enter Tryd.func27, Tryd.ntmps27
  go_wp2
  go_ret
  exact ⟨fx_ret (by simp [c]), rfl⟩
 ·go_enter Tryd.func27, Tryd.ntmps27
  go_wp2
  go_ret
  exact ⟨fx_ret (by have q : decide (-1099511627776 ≤ x) = false := df_ (by omega); rw [q]; rfl), rfl⟩
theorem fx_at (l : List Int) (j : Nat) (h : j < l.length) : rd l (j : Int) = l[j] := by
 unfold rd
 rw [Int.toNat_natCast, List.getD_eq_getElem?_getD, List.getElem?_eq_getElem h]
 rfl
theorem fx_none {l : List Int} {j : Nat} (hb : (l.drop j).all fx_ok = true) (hlt : j < l.length) : fx_ok (rd l (j : Int)) = true ∧ (l.drop (j + 1)).all fx_ok = true := by
 rw [List.drop_eq_getElem_cons hlt, List.all_cons, Bool.and_eq_true] at hb
 rw [fx_at l j hlt]
 exact hb
/-- No number is out of bounds: no error. -/
theorem fix_all_ok (A0 : Option Addr) (c0 : Nat) (l0 : List Int) (w : World) (hr0 : Kd.C (Kd.int .i64) w A0 l0.length l0) (hb : l0.all fx_ok = true) :
  Calls Tryd.prog 33 #[.slice A0 l0.length c0] w fun e w' => e = .returned .nilIface ∧ w' = w := by
 have hlen : l0.length ≤ 9223372036854775807 := hr0.2.1
 have HR0 := sd_ hr0
 have HB := sd_ (show (l0.drop 0).all fx_ok = true from hb)
 clear hr0 hb
 go_enter Tryd.func33, Tryd.ntmps33
 go_wp2
 go_loop [7] (fun v7 => ∃ j : Nat, j ≤ l0.length ∧ v7 = .int .i64 j ∧ Aside0 ((l0.drop j).all fx_ok = true)) (fun v7 => l0.length - (intOf v7).toNat)
 case atStart => exact ⟨0, Nat.zero_le _, rfl, HB⟩
 case round =>
  obtain ⟨j, hj, rfl, hA⟩ := hrel
  clear HB
  by_cases hlt : j < l0.length
  ·obtain ⟨ad, e, hcell⟩ := Kd.at_int HR0.out (j : Int) (by omega) (by omega)
   cases e
   obtain ⟨hx, hA2⟩ := fx_none hA.out hlt
   have HA2 := sd_ hA2
   clear hA hA2
   generalize rd l0 (j : Int) = x at hcell hx
   simp only [Int.toNat_natCast] at hcell
   have HO := sd_ (fx_Ok x)
   rw [hx] at HO
   clear hx
   go_wp2_with (go_at_call 27; refine (HO.out _).mono ?_; rintro e w' ⟨rfl, rfl⟩)
   go_round
   case rel => exact ⟨j + 1, by omega, by go_num, HA2⟩
   case measure => simp [intOf]; omega
  ·go_wp2
   go_ret
   exact ⟨rfl, rfl⟩
/-- Some number is out of bounds: an error that holds its code. -/
theorem fix_all_bad (A0 : Option Addr) (c0 : Nat) (l0 : List Int) (w : World) (hr0 : Kd.C (Kd.int .i64) w A0 l0.length l0) (hb : l0.all fx_ok = false) :
  Calls Tryd.prog 33 #[.slice A0 l0.length c0] w fun e w' => e = .returned (.iface 60 (.pointer (some ⟨w.heap.size, 0, none⟩))) ∧ w' = w.alloc (.cells #[.int .i64 3] 62) := by
 have hlen : l0.length ≤ 9223372036854775807 := hr0.2.1
 have HR0 := sd_ hr0
 have HB := sd_ (show (l0.drop 0).all fx_ok = false from hb)
 clear hr0 hb
 go_enter Tryd.func33, Tryd.ntmps33
 go_wp2
 go_loop [7] (fun v7 => ∃ j : Nat, j ≤ l0.length ∧ v7 = .int .i64 j ∧ Aside0 ((l0.drop j).all fx_ok = false)) (fun v7 => l0.length - (intOf v7).toNat)
 case atStart => exact ⟨0, Nat.zero_le _, rfl, HB⟩
 case round =>
  obtain ⟨j, hj, rfl, hA⟩ := hrel
  clear HB
  by_cases hlt : j < l0.length
  ·obtain ⟨ad, e, hcell⟩ := Kd.at_int HR0.out (j : Int) (by omega) (by omega)
   cases e
   have hA2 := hA.out
   rw [List.drop_eq_getElem_cons hlt, List.all_cons, ← fx_at l0 j hlt] at hA2
   clear hA
   generalize rd l0 (j : Int) = x at hcell hA2
   simp only [Int.toNat_natCast] at hcell
   have HO := sd_ (fx_Ok x)
   have HA2 := sd_ hA2
   clear hA2
   cases hx : fx_ok x with
   | true =>
    rw [hx] at HO HA2
    have HA3 := sd_ (show (l0.drop (j + 1)).all fx_ok = false by simpa using HA2.out)
    clear hx HA2
    go_wp2_with (go_at_call 27; refine (HO.out _).mono ?_; rintro e w' ⟨rfl, rfl⟩)
    go_round
    case rel => exact ⟨j + 1, by omega, by go_num, HA3⟩
    case measure => simp [intOf]; omega
   | false =>
    rw [hx] at HO
    clear hx HA2
    go_wp2_with (go_at_call 27; refine (HO.out _).mono ?_; rintro e w' ⟨rfl, rfl⟩)
    go_ret
    exact ⟨rfl, rfl⟩
  ·exfalso
   have := hA.out
   rw [List.drop_eq_nil_of_le (by omega)] at this
   cases this

/-! ### box_Check: function 12 -/
def box_ok (x0 x1 x2 x3 : Int) : Bool := fx_ok x0 && fx_ok x1 && fx_ok x2 && fx_ok x3 && decide (x0 ≤ x2) && decide (x1 ≤ x3)
def box_Check.f (x0 x1 x2 x3 : Int) : Option Bool := some (box_ok x0 x1 x2 x3)
def box_nth (x0 x1 x2 x3 i : Int) : Int := if i = 0 then x0 else if i = 1 then x1 else if i = 2 then x2 else x3
theorem bx_ret {a b : Bool} (h : a = b) : Ending.returned (.bool a) = .returned (.bool b) := by rw [h]
set_option maxHeartbeats 4000000 in
set_option maxRecDepth 100000 in
theorem box_Check.calls (x0 x1 x2 x3 : Int) (r : Bool) (w : World) (h : box_Check.f x0 x1 x2 x3 = some r) :
  Calls Tryd.prog 12 #[.agg #[.int .i64 x0, .int .i64 x1, .int .i64 x2, .int .i64 x3]] w fun e w' => e = .returned (.bool r) ∧ Below w.heap.size w w' := by
 have hu := Tryd.underlying23
 have k : ∀ W : World, ∀ i x : Int, 0 ≤ i → i < 4 → box_nth x0 x1 x2 x3 i = x → (Instr.index 47 (.agg #[.int .i64 x0, .int .i64 x1, .int .i64 x2, .int .i64 x3]) (.int .i64 i)).run Tryd.prog W = .ok (.int .i64 x) W := by
  intro W i x h0 h4 hx
  obtain rfl | rfl | rfl | rfl : i = 0 ∨ i = 1 ∨ i = 2 ∨ i = 3 := by omega
  all_goals (subst hx; kernel_rfl)
 have H := sd_ (show box_ok x0 x1 x2 x3 = r from Option.some.inj h)
 have HK := sd_ k
 clear h k
 go_enter Tryd.func12, Tryd.ntmps12
 go_wp2
 go_loop [14] (fun v14 => ∃ i : Int, 0 ≤ i ∧ i ≤ 4 ∧ v14 = .int .i64 i ∧ Aside0 (∀ j : Int, 0 ≤ j → j < i → fx_ok (box_nth x0 x1 x2 x3 j) = true)) (fun v14 => (4 - intOf v14).toNat)
 case atStart => exact ⟨0, by omega, by omega, rfl, ⟨fun j h0 h1 => by omega⟩⟩
 case round =>
  obtain ⟨i, hi0, hi4, rfl, hA⟩ := hrel
  by_cases hlt : i < 4
  ·obtain ⟨x, hx⟩ : ∃ x, box_nth x0 x1 x2 x3 i = x := ⟨_, rfl⟩
   have ki := fun W => HK.out W i x hi0 hlt hx
   have HO := sd_ (fx_Ok x)
   have HX := sd_ hx
   clear hx
   cases hb : fx_ok x with
   | true =>
    have HA := sd_ (show ∀ j : Int, 0 ≤ j → j < i + 1 → fx_ok (box_nth x0 x1 x2 x3 j) = true from fun j h0 h1 => by
     by_cases e : j = i
     ·rw [e, HX.out, hb]
     ·exact hA.out j h0 (by omega))
    rw [hb] at HO
    clear hb hA HX HK
    go_wp2_with (go_at_call 27; refine (HO.out _).mono ?_; rintro e w' ⟨rfl, rfl⟩)
    go_round
    case rel => exact ⟨i + 1, by omega, by omega, by go_num, HA⟩
    case measure => simp [intOf]; omega
   | false =>
    have HR := sd_ (show false = r by
     rw [← H.out]
     unfold box_ok
     have q := HX.out
     unfold box_nth at q
     obtain rfl | rfl | rfl | rfl : i = 0 ∨ i = 1 ∨ i = 2 ∨ i = 3 := by omega
     all_goals
      simp at q
      subst q
      rw [hb]
      simp)
    rw [hb] at HO
    clear hb hA HX HK H
    go_wp2_with (go_at_call 27; refine (HO.out _).mono ?_; rintro e w' ⟨rfl, rfl⟩)
    go_ret
    exact ⟨bx_ret HR.out, ba_ (Below.refl _ _) _⟩
  ·obtain rfl : i = 4 := by omega
   have HR := sd_ (show (decide (x0 ≤ x2) && decide (x1 ≤ x3)) = r by
    rw [← H.out]
    unfold box_ok
    have q0 : fx_ok x0 = true := hA.out 0 (by omega) (by omega)
    have q1 : fx_ok x1 = true := hA.out 1 (by omega) (by omega)
    have q2 : fx_ok x2 = true := hA.out 2 (by omega) (by omega)
    have q3 : fx_ok x3 = true := hA.out 3 (by omega) (by omega)
    rw [q0, q1, q2, q3]
    simp)
   clear hA HK H
   by_cases c : x0 ≤ x2
   ·have cb : decide (x0 ≤ x2) = true := dt_ c
    rw [cb] at HR
    go_wp2
    go_ret
    exact ⟨bx_ret (by rw [← HR.out, Bool.true_and]), ba_ (Below.refl _ _) _⟩
   ·have cb : decide (x0 ≤ x2) = false := df_ c
    rw [cb] at HR
    go_wp2
    go_ret
    exact ⟨bx_ret (by rw [← HR.out, Bool.false_and]), ba_ (Below.refl _ _) _⟩

/-! ### box_Join: function 14 -/
def box_Join.j0 : Nat → Int → Int → Int → Int → Int → Int → Int → Int → Option (Int × Int × Int × Int)
 | 0, _, _, _, _, _, _, _, _ => none
 | k + 1, x159000, x159001, x159002, x159003, x160000, x160001, x160002, x160003 => (box_Check.f x160000 x160001 x160002 x160003).bind fun t162 => (if t162 = true then ((box_Check.f x159000 x159001 x159002 x159003).bind fun t163 => (if t163 = true then (some (mn x159000 x160000, mn x159001 x160001, mx x159002 x160002, mx x159003 x160003)) else (some (0, 0, 0, 0)))) else ((box_Check.f x159000 x159001 x159002 x159003).bind fun t164 => (if t164 = true then (some (x159000, x159001, x159002, x159003)) else (some (0, 0, 0, 0)))))
def box_Join.f (k : Nat) (a0_0 : Int) (a0_1 : Int) (a0_2 : Int) (a0_3 : Int) (a1_0 : Int) (a1_1 : Int) (a1_2 : Int) (a1_3 : Int) : Option (Int × Int × Int × Int) := (box_Check.f a0_0 a0_1 a0_2 a0_3).bind fun t161 => (if t161 = true then (box_Join.j0 k a0_0 a0_1 a0_2 a0_3 a1_0 a1_1 a1_2 a1_3) else (box_Join.j0 k a1_0 a1_1 a1_2 a1_3 a1_0 a1_1 a1_2 a1_3))
theorem box_Join.mono_l : ∀ k, (∀ y0 y1 y2 y3 y4 y5 y6 y7, LeO (box_Join.j0 k y0 y1 y2 y3 y4 y5 y6 y7) (box_Join.j0 (k + 1) y0 y1 y2 y3 y4 y5 y6 y7))
 | 0 => fun _ _ _ _ _ _ _ _ r h => by simp [box_Join.j0] at h
 | k + 1 => by
  have ih0 := box_Join.mono_l k
  ·intro y0 y1 y2 y3 y4 y5 y6 y7
   unfold box_Join.j0
   repeat' first
   | (with_reducible exact ih0 _ _ _ _ _ _ _ _)
   | (with_reducible exact LeO.refl _)
   | (with_reducible exact LeO.none _)
   | (with_reducible refine LeO.ite ?_ ?_)
   | (with_reducible refine LeO.bind ?_ (fun _ => ?_))
   | exact ih0 _ _ _ _ _ _ _ _
   | exact LeO.none _
   | refine LeO.ite ?_ ?_
   | refine LeO.bind ?_ (fun _ => ?_)
theorem box_Join.mono : ∀ a0 a1 a2 a3 a4 a5 a6 a7 k, LeO (box_Join.f k a0 a1 a2 a3 a4 a5 a6 a7) (box_Join.f (k + 1) a0 a1 a2 a3 a4 a5 a6 a7) := by
 intro a0 a1 a2 a3 a4 a5 a6 a7 k
 have ih0 := box_Join.mono_l k
 unfold box_Join.f
 repeat' first
   | (with_reducible exact ih0 _ _ _ _ _ _ _ _)
   | (with_reducible exact LeO.refl _)
   | (with_reducible exact LeO.none _)
   | (with_reducible refine LeO.ite ?_ ?_)
   | (with_reducible refine LeO.bind ?_ (fun _ => ?_))
   | exact ih0 _ _ _ _ _ _ _ _
   | exact LeO.none _
   | refine LeO.ite ?_ ?_
   | refine LeO.bind ?_ (fun _ => ?_)
set_option maxHeartbeats 8000000 in
set_option maxRecDepth 100000 in
theorem box_Join.calls (k : Nat) (a0_0 : Int) (a0_1 : Int) (a0_2 : Int) (a0_3 : Int) (a1_0 : Int) (a1_1 : Int) (a1_2 : Int) (a1_3 : Int) (r1 : Int) (r2 : Int) (r3 : Int) (r4 : Int) (w : World) (h : box_Join.f k a0_0 a0_1 a0_2 a0_3 a1_0 a1_1 a1_2 a1_3 = some (r1, r2, r3, r4)) :
  Calls Tryd.prog 14 #[.agg #[.int .i64 a0_0, .int .i64 a0_1, .int .i64 a0_2, .int .i64 a0_3], .agg #[.int .i64 a1_0, .int .i64 a1_1, .int .i64 a1_2, .int .i64 a1_3]] w fun e w' => e = .returned (.agg #[.int .i64 r1, .int .i64 r2, .int .i64 r3, .int .i64 r4]) ∧ Below w.heap.size w w' := by
 have hu23 := Tryd.underlying23
 have HB := sd_ (Below.refl w.heap.size w)
 have H : ((box_Check.f a0_0 a0_1 a0_2 a0_3).bind fun t161 => (if t161 = true then (box_Join.j0 k a0_0 a0_1 a0_2 a0_3 a1_0 a1_1 a1_2 a1_3) else (box_Join.j0 k a1_0 a1_1 a1_2 a1_3 a1_0 a1_1 a1_2 a1_3))) = some (r1, r2, r3, r4) := h
 clear h
 replace H := ob_ H
 obtain ⟨t161, A30, H⟩ := H
 replace H : (if t161 = true then (box_Join.j0 k a0_0 a0_1 a0_2 a0_3 a1_0 a1_1 a1_2 a1_3) else (box_Join.j0 k a1_0 a1_1 a1_2 a1_3 a1_0 a1_1 a1_2 a1_3)) = some (r1, r2, r3, r4) := H
 have A3 := sd_ A30
 clear A30
 have HC4 := sd_ H
 clear H
 go_enter Tryd.func14, Tryd.ntmps14
 go_upto_if 7 with (first | ((with_reducible refine gate_dst (N := 2) rfl ?_); refine box_event ?hg (N := 2) ?hd (cs := #[.int .i64 a0_0, .int .i64 a0_1, .int .i64 a0_2, .int .i64 a0_3]) (t := 23) ?hr ?_; (case hd => rfl); (case hg => rfl); (case hr => first | (go_simp; done) | (go_simp; rfl)); intro gb158 hg w5 hbox hb; have n0_ := sd_ (bt_ (by repeat (first | (with_reducible first | exact HB.out | apply ba_ | apply pd_ | apply d1_) | exact HB.out)) hb); have n1_ := sd_ (hbox); have n2_ := sd_ ((by rw [hg]; exact (bz_ (by repeat (first | (with_reducible first | exact HB.out | apply ba_ | apply pd_ | apply d1_) | exact HB.out))) : w.heap.size ≤ gb158)); have n3_ := sd_ ((by rw [hg]; exact (bz_ (by repeat (first | (with_reducible first | exact HB.out | apply ba_ | apply pd_ | apply d1_) | exact HB.out))) : w.heap.size ≤ gb158)); clear HB; have HB := n0_; have BK158 := n1_; have GW158 := n2_; have GE158 := n3_; clear n0_ n1_ n2_ n3_; clear hb hbox hg) | ((with_reducible refine gate_dst (N := 3) rfl ?_); refine box_event ?hg (N := 3) ?hd (cs := #[.int .i64 a1_0, .int .i64 a1_1, .int .i64 a1_2, .int .i64 a1_3]) (t := 23) ?hr ?_; (case hd => rfl); (case hg => rfl); (case hr => first | (go_simp; done) | (go_simp; rfl)); intro gb159 hg w6 hbox hb; have n0_ := sd_ (blk_below (g := gb158) (o := .cells #[.int .i64 a0_0, .int .i64 a0_1, .int .i64 a0_2, .int .i64 a0_3] 23 (0, 0)) (by (with_reducible repeat (first | refine kn_ ?_ _ | refine kd_ ?_ | refine ka_ ?_ _)); exact BK158.out) hb); have n1_ := sd_ (bt_ (by repeat (first | (with_reducible first | exact HB.out | apply ba_ | apply pd_ | apply d1_ | refine bs_ ?_ GE158.out) | exact HB.out)) hb); have n2_ := sd_ (hbox); have n3_ := sd_ ((by rw [hg]; exact (bz_ (by repeat (first | (with_reducible first | exact HB.out | apply ba_ | apply pd_ | apply d1_ | refine bs_ ?_ GE158.out) | exact HB.out))) : w.heap.size ≤ gb159)); have n4_ := sd_ ((by rw [hg]; exact (bz_ (by repeat (first | (with_reducible first | exact HB.out | apply ba_ | apply pd_ | apply d1_ | refine bs_ ?_ GE158.out) | exact HB.out))) : w.heap.size ≤ gb159)); have n5_ := sd_ ((by rw [hg]; exact nn_ (blk_lt (g := gb158) (o := .cells #[.int .i64 a0_0, .int .i64 a0_1, .int .i64 a0_2, .int .i64 a0_3] 23 (0, 0)) (by (with_reducible repeat (first | refine kn_ ?_ _ | refine kd_ ?_ | refine ka_ ?_ _)); exact BK158.out)) : gb158 ≠ gb159)); have n6_ := sd_ ((by rw [hg]; exact Nat.ne_of_gt (blk_lt (g := gb158) (o := .cells #[.int .i64 a0_0, .int .i64 a0_1, .int .i64 a0_2, .int .i64 a0_3] 23 (0, 0)) (by (with_reducible repeat (first | refine kn_ ?_ _ | refine kd_ ?_ | refine ka_ ?_ _)); exact BK158.out)) : gb159 ≠ gb158)); clear BK158; clear HB; have BK158 := n0_; have HB := n1_; have BK159 := n2_; have GW159 := n3_; have GE159 := n4_; have NB158_159 := n5_; have NB159_158 := n6_; clear n0_ n1_ n2_ n3_ n4_ n5_ n6_; clear hb hbox hg) | ((with_reducible refine gate_dst (N := 4) rfl ?_); refine box_event ?hg (N := 4) ?hd (cs := #[.int .i64 0, .int .i64 0, .int .i64 0, .int .i64 0]) (t := 23) ?hr ?_; (case hd => rfl); (case hg => rfl); (case hr => first | (go_simp; done) | (go_simp; rfl)); intro gb160 hg w7 hbox hb; have n0_ := sd_ (blk_below (g := gb158) (o := .cells #[.int .i64 a0_0, .int .i64 a0_1, .int .i64 a0_2, .int .i64 a0_3] 23 (0, 0)) (by (with_reducible repeat (first | refine kn_ ?_ _ | refine kd_ ?_ | refine ka_ ?_ _)); exact BK158.out) hb); have n1_ := sd_ (blk_below (g := gb159) (o := .cells #[.int .i64 a1_0, .int .i64 a1_1, .int .i64 a1_2, .int .i64 a1_3] 23 (0, 0)) (by (with_reducible repeat (first | refine kn_ ?_ _ | refine kd_ ?_ | refine ka_ ?_ _)); exact BK159.out) hb); have n2_ := sd_ (bt_ (by repeat (first | (with_reducible first | exact HB.out | apply ba_ | apply pd_ | apply d1_ | refine bs_ ?_ GE158.out | refine bs_ ?_ GE159.out) | exact HB.out)) hb); have n3_ := sd_ (hbox); have n4_ := sd_ ((by rw [hg]; exact (bz_ (by repeat (first | (with_reducible first | exact HB.out | apply ba_ | apply pd_ | apply d1_ | refine bs_ ?_ GE158.out | refine bs_ ?_ GE159.out) | exact HB.out))) : w.heap.size ≤ gb160)); have n5_ := sd_ ((by rw [hg]; exact (bz_ (by repeat (first | (with_reducible first | exact HB.out | apply ba_ | apply pd_ | apply d1_ | refine bs_ ?_ GE158.out | refine bs_ ?_ GE159.out) | exact HB.out))) : w.heap.size ≤ gb160)); have n6_ := sd_ ((by rw [hg]; exact nn_ (blk_lt (g := gb158) (o := .cells #[.int .i64 a0_0, .int .i64 a0_1, .int .i64 a0_2, .int .i64 a0_3] 23 (0, 0)) (by (with_reducible repeat (first | refine kn_ ?_ _ | refine kd_ ?_ | refine ka_ ?_ _)); exact BK158.out)) : gb158 ≠ gb160)); have n7_ := sd_ ((by rw [hg]; exact Nat.ne_of_gt (blk_lt (g := gb158) (o := .cells #[.int .i64 a0_0, .int .i64 a0_1, .int .i64 a0_2, .int .i64 a0_3] 23 (0, 0)) (by (with_reducible repeat (first | refine kn_ ?_ _ | refine kd_ ?_ | refine ka_ ?_ _)); exact BK158.out)) : gb160 ≠ gb158)); have n8_ := sd_ ((by rw [hg]; exact nn_ (blk_lt (g := gb159) (o := .cells #[.int .i64 a1_0, .int .i64 a1_1, .int .i64 a1_2, .int .i64 a1_3] 23 (0, 0)) (by (with_reducible repeat (first | refine kn_ ?_ _ | refine kd_ ?_ | refine ka_ ?_ _)); exact BK159.out)) : gb159 ≠ gb160)); have n9_ := sd_ ((by rw [hg]; exact Nat.ne_of_gt (blk_lt (g := gb159) (o := .cells #[.int .i64 a1_0, .int .i64 a1_1, .int .i64 a1_2, .int .i64 a1_3] 23 (0, 0)) (by (with_reducible repeat (first | refine kn_ ?_ _ | refine kd_ ?_ | refine ka_ ?_ _)); exact BK159.out)) : gb160 ≠ gb159)); clear BK158; clear BK159; clear HB; have BK158 := n0_; have BK159 := n1_; have HB := n2_; have BK160 := n3_; have GW160 := n4_; have GE160 := n5_; have NB158_160 := n6_; have NB160_158 := n7_; have NB159_160 := n8_; have NB160_159 := n9_; clear n0_ n1_ n2_ n3_ n4_ n5_ n6_ n7_ n8_ n9_; clear hb hbox hg; have hnb8 := NB158_159.out; have hnc8 := NB159_158.out; have hnb9 := NB158_160.out; have hnc9 := NB160_158.out; have hcz10_0 : w7.cell? ⟨gb158, 0, none⟩ = some (.int .i64 a0_0) := (kc_ BK158.out 0).trans rfl; have hcz10_1 : w7.cell? ⟨gb158, 1, none⟩ = some (.int .i64 a0_1) := (kc_ BK158.out 1).trans rfl; have hcz10_2 : w7.cell? ⟨gb158, 2, none⟩ = some (.int .i64 a0_2) := (kc_ BK158.out 2).trans rfl; have hcz10_3 : w7.cell? ⟨gb158, 3, none⟩ = some (.int .i64 a0_3) := (kc_ BK158.out 3).trans rfl; have hfz10_0 := kf_ BK158.out 0; have hfz10_1 := kf_ BK158.out 1; have hfz10_2 := kf_ BK158.out 2; have hfz10_3 := kf_ BK158.out 3) | ((with_reducible refine gate_callee (f := 12) rfl ?_); refine goesL_ (some 6) rfl rfl Tryd.func12 (by kernel_rfl) rfl #[.agg #[.int .i64 a0_0, .int .i64 a0_1, .int .i64 a0_2, .int .i64 a0_3]] rfl (by (try simp only [lm_, lq_, lx_]); first | done | rfl | (simp only [ld_, lt_]; rfl)) ?_; (with_reducible refine (box_Check.calls a0_0 a0_1 a0_2 a0_3 t161 _ A3.out).mono ?_); rintro e w11 ⟨rfl, hb⟩; refine ⟨_, rfl, ?_⟩; have n0_ := sd_ (blk_below (g := gb158) (o := .cells #[.int .i64 a0_0, .int .i64 a0_1, .int .i64 a0_2, .int .i64 a0_3] 23 (0, 0)) (by (with_reducible repeat (first | refine kn_ ?_ _ | refine kd_ ?_ | refine ka_ ?_ _)); exact BK158.out) hb); have n1_ := sd_ (blk_below (g := gb159) (o := .cells #[.int .i64 a1_0, .int .i64 a1_1, .int .i64 a1_2, .int .i64 a1_3] 23 (0, 0)) (by (with_reducible repeat (first | refine kn_ ?_ _ | refine kd_ ?_ | refine ka_ ?_ _)); exact BK159.out) hb); have n2_ := sd_ (blk_below (g := gb160) (o := .cells #[.int .i64 0, .int .i64 0, .int .i64 0, .int .i64 0] 23 (0, 0)) (by (with_reducible repeat (first | refine kn_ ?_ _ | refine kd_ ?_ | refine ka_ ?_ _)); exact BK160.out) hb); have n3_ := sd_ (bt_ (by repeat (first | (with_reducible first | exact HB.out | apply ba_ | apply pd_ | apply d1_ | refine bs_ ?_ GE158.out | refine bs_ ?_ GE159.out | refine bs_ ?_ GE160.out) | exact HB.out)) hb); clear BK158; clear BK159; clear BK160; clear HB; have BK158 := n0_; have BK159 := n1_; have BK160 := n2_; have HB := n3_; clear n0_ n1_ n2_ n3_; (try clear hb); (try clear hb2); (try clear hk); (try clear hi)))
 (try simp only [Act.put, ls_, lz_, lc_])
 go_cut [] (fun wc => ∃ (kq : Nat) (x159000_3 : Int) (x159001_3 : Int) (x159002_3 : Int) (x159003_3 : Int), Aside0 (box_Join.j0 kq x159000_3 x159001_3 x159002_3 x159003_3 a1_0 a1_1 a1_2 a1_3 = some (r1, r2, r3, r4)) ∧ Aside0 (kq ≤ k) ∧ Aside0 (wc.heap[gb158]? = some (.cells #[.int .i64 x159000_3, .int .i64 x159001_3, .int .i64 x159002_3, .int .i64 x159003_3] 23 (0, 0))) ∧ Aside0 (wc.heap[gb159]? = some (.cells #[.int .i64 a1_0, .int .i64 a1_1, .int .i64 a1_2, .int .i64 a1_3] 23 (0, 0))) ∧ Aside0 (wc.heap[gb160]? = some (.cells #[.int .i64 0, .int .i64 0, .int .i64 0, .int .i64 0] 23 (0, 0))) ∧ Aside0 (Below w.heap.size w wc))
 case first =>
  have H := HC4.out
  clear HC4
  by_cases c12 : t161 = true
  ·subst c12
   have H1 : (box_Join.j0 k a0_0 a0_1 a0_2 a0_3 a1_0 a1_1 a1_2 a1_3) = some (r1, r2, r3, r4) := by rw [if_pos rfl] at H; exact H
   clear H; have H := H1; clear H1
   have H' := sd_ H
   clear H
   go_wp2
   go_meet
   case rel => exact ⟨_, (a0_0), (a0_1), (a0_2), (a0_3), H', ⟨by first | omega | exact Nat.le_refl _⟩, ⟨by (with_reducible repeat (first | refine kn_ ?_ _ | refine kd_ ?_ | refine ka_ ?_ _)); exact BK158.out⟩, ⟨by (with_reducible repeat (first | refine kn_ ?_ _ | refine kd_ ?_ | refine ka_ ?_ _)); exact BK159.out⟩, ⟨by (with_reducible repeat (first | refine kn_ ?_ _ | refine kd_ ?_ | refine ka_ ?_ _)); exact BK160.out⟩, ⟨by repeat (first | (with_reducible first | exact HB.out | apply ba_ | apply pd_ | apply d1_ | refine bs_ ?_ GE158.out | refine bs_ ?_ GE159.out | refine bs_ ?_ GE160.out) | exact HB.out)⟩⟩
  ·replace c12 := bf_ c12
   subst c12
   have H1 : (box_Join.j0 k a1_0 a1_1 a1_2 a1_3 a1_0 a1_1 a1_2 a1_3) = some (r1, r2, r3, r4) := by rw [if_neg (show ¬ (false = true) by decide)] at H; exact H
   clear H; have H := H1; clear H1
   have H' := sd_ H
   clear H
   have hnb13 := NB159_158.out
   have hnc13 := NB158_159.out
   have hnb14 := NB159_160.out
   have hnc14 := NB160_159.out
   have hcz15_0 : w11.cell? ⟨gb159, 0, none⟩ = some (.int .i64 a1_0) := (kc_ BK159.out 0).trans rfl
   have hcz15_1 : w11.cell? ⟨gb159, 1, none⟩ = some (.int .i64 a1_1) := (kc_ BK159.out 1).trans rfl
   have hcz15_2 : w11.cell? ⟨gb159, 2, none⟩ = some (.int .i64 a1_2) := (kc_ BK159.out 2).trans rfl
   have hcz15_3 : w11.cell? ⟨gb159, 3, none⟩ = some (.int .i64 a1_3) := (kc_ BK159.out 3).trans rfl
   have hfz15_0 := kf_ BK159.out 0
   have hfz15_1 := kf_ BK159.out 1
   have hfz15_2 := kf_ BK159.out 2
   have hfz15_3 := kf_ BK159.out 3
   have hnb16 := NB158_160.out
   have hnc16 := NB160_158.out
   have hcz17_0 : w11.cell? ⟨gb158, 0, none⟩ = some (.int .i64 a0_0) := (kc_ BK158.out 0).trans rfl
   have hcz17_1 : w11.cell? ⟨gb158, 1, none⟩ = some (.int .i64 a0_1) := (kc_ BK158.out 1).trans rfl
   have hcz17_2 : w11.cell? ⟨gb158, 2, none⟩ = some (.int .i64 a0_2) := (kc_ BK158.out 2).trans rfl
   have hcz17_3 : w11.cell? ⟨gb158, 3, none⟩ = some (.int .i64 a0_3) := (kc_ BK158.out 3).trans rfl
   have hfz17_0 := kf_ BK158.out 0
   have hfz17_1 := kf_ BK158.out 1
   have hfz17_2 := kf_ BK158.out 2
   have hfz17_3 := kf_ BK158.out 3
   go_wp2
   go_meet
   case rel => exact ⟨_, (a1_0), (a1_1), (a1_2), (a1_3), H', ⟨by first | omega | exact Nat.le_refl _⟩, ⟨by (with_reducible repeat (first | refine kn_ ?_ _ | refine kd_ ?_ | refine ka_ ?_ _)); refine blk_put (cs := #[.int .i64 a1_0, .int .i64 a1_1, .int .i64 a1_2, .int .i64 a0_3]) ?_ 3 _ rfl; (with_reducible repeat (first | refine kn_ ?_ _ | refine kd_ ?_ | refine ka_ ?_ _)); refine blk_put (cs := #[.int .i64 a1_0, .int .i64 a1_1, .int .i64 a0_2, .int .i64 a0_3]) ?_ 2 _ rfl; (with_reducible repeat (first | refine kn_ ?_ _ | refine kd_ ?_ | refine ka_ ?_ _)); refine blk_put (cs := #[.int .i64 a1_0, .int .i64 a0_1, .int .i64 a0_2, .int .i64 a0_3]) ?_ 1 _ rfl; (with_reducible repeat (first | refine kn_ ?_ _ | refine kd_ ?_ | refine ka_ ?_ _)); refine blk_put (cs := #[.int .i64 a0_0, .int .i64 a0_1, .int .i64 a0_2, .int .i64 a0_3]) ?_ 0 _ rfl; (with_reducible repeat (first | refine kn_ ?_ _ | refine kd_ ?_ | refine ka_ ?_ _)); exact BK158.out⟩, ⟨by (with_reducible repeat (first | refine kn_ ?_ _ | refine kd_ ?_ | refine ka_ ?_ _)); refine blk_far ?_ NB159_158.out _; (with_reducible repeat (first | refine kn_ ?_ _ | refine kd_ ?_ | refine ka_ ?_ _)); refine blk_far ?_ NB159_158.out _; (with_reducible repeat (first | refine kn_ ?_ _ | refine kd_ ?_ | refine ka_ ?_ _)); refine blk_far ?_ NB159_158.out _; (with_reducible repeat (first | refine kn_ ?_ _ | refine kd_ ?_ | refine ka_ ?_ _)); refine blk_far ?_ NB159_158.out _; (with_reducible repeat (first | refine kn_ ?_ _ | refine kd_ ?_ | refine ka_ ?_ _)); exact BK159.out⟩, ⟨by (with_reducible repeat (first | refine kn_ ?_ _ | refine kd_ ?_ | refine ka_ ?_ _)); refine blk_far ?_ NB160_158.out _; (with_reducible repeat (first | refine kn_ ?_ _ | refine kd_ ?_ | refine ka_ ?_ _)); refine blk_far ?_ NB160_158.out _; (with_reducible repeat (first | refine kn_ ?_ _ | refine kd_ ?_ | refine ka_ ?_ _)); refine blk_far ?_ NB160_158.out _; (with_reducible repeat (first | refine kn_ ?_ _ | refine kd_ ?_ | refine ka_ ?_ _)); refine blk_far ?_ NB160_158.out _; (with_reducible repeat (first | refine kn_ ?_ _ | refine kd_ ?_ | refine ka_ ?_ _)); exact BK160.out⟩, ⟨by repeat (first | (with_reducible first | exact HB.out | apply ba_ | apply pd_ | apply d1_ | refine bs_ ?_ GE158.out | refine bs_ ?_ GE159.out | refine bs_ ?_ GE160.out) | exact HB.out)⟩⟩
 case rest =>
  clear HC4
  try clear c1; try clear p2; try clear c8; try clear c9; try clear c12; try clear c13; try clear c14; try clear c16; try clear hcz10_0; try clear hcz10_1; try clear hcz10_2; try clear hcz10_3; try clear hcz15_0; try clear hcz15_1; try clear hcz15_2; try clear hcz15_3; try clear hcz17_0; try clear hcz17_1; try clear hcz17_2; try clear hcz17_3; try clear hfz10_0; try clear hfz10_1; try clear hfz10_2; try clear hfz10_3; try clear hfz15_0; try clear hfz15_1; try clear hfz15_2; try clear hfz15_3; try clear hfz17_0; try clear hfz17_1; try clear hfz17_2; try clear hfz17_3
  obtain ⟨kq, x159000_3, x159001_3, x159002_3, x159003_3, HA, HJ3, BK158, BK159, BK160, HB⟩ := hcut
  cases kq with
  | zero => exact absurd HA.out (by simp [box_Join.j0])
  | succ kj3 =>
   have H := HA.out
   clear HA
   simp only [box_Join.j0] at H
   replace H := ob_ H
   obtain ⟨t162, A180, H⟩ := H
   replace H : (if t162 = true then ((box_Check.f x159000_3 x159001_3 x159002_3 x159003_3).bind fun t163 => (if t163 = true then (some (mn x159000_3 a1_0, mn x159001_3 a1_1, mx x159002_3 a1_2, mx x159003_3 a1_3)) else (some (0, 0, 0, 0)))) else ((box_Check.f x159000_3 x159001_3 x159002_3 x159003_3).bind fun t164 => (if t164 = true then (some (x159000_3, x159001_3, x159002_3, x159003_3)) else (some (0, 0, 0, 0))))) = some (r1, r2, r3, r4) := H
   have A18 := sd_ A180
   clear A180
   by_cases c19 : t162 = true
   ·subst c19
    have H1 : ((box_Check.f x159000_3 x159001_3 x159002_3 x159003_3).bind fun t163 => (if t163 = true then (some (mn x159000_3 a1_0, mn x159001_3 a1_1, mx x159002_3 a1_2, mx x159003_3 a1_3)) else (some (0, 0, 0, 0)))) = some (r1, r2, r3, r4) := by rw [if_pos rfl] at H; exact H
    clear H; have H := H1; clear H1
    replace H := ob_ H
    obtain ⟨t163, A200, H⟩ := H
    replace H : (if t163 = true then (some (mn x159000_3 a1_0, mn x159001_3 a1_1, mx x159002_3 a1_2, mx x159003_3 a1_3)) else (some (0, 0, 0, 0))) = some (r1, r2, r3, r4) := H
    have A20 := sd_ A200
    clear A200
    by_cases c21 : t163 = true
    ·subst c21
     have H1 : (some (mn x159000_3 a1_0, mn x159001_3 a1_1, mx x159002_3 a1_2, mx x159003_3 a1_3)) = some (r1, r2, r3, r4) := by rw [if_pos rfl] at H; exact H
     clear H; have H := H1; clear H1
     obtain ⟨ji22, hji22⟩ : ∃ j_ : Int, (mn x159000_3 a1_0) = j_ := ⟨_, rfl⟩
     replace H : (some (ji22, mn x159001_3 a1_1, mx x159002_3 a1_2, mx x159003_3 a1_3)) = some (r1, r2, r3, r4) := by first | (rw [hji22] at H; exact H) | (simp only [hji22] at H ⊢; exact H)
     (try rw [hji22] at A18)
     (try rw [hji22] at A20)
     have hji22_ : (if a1_0 < x159000_3 then a1_0 else x159000_3) = ji22 := hji22
     obtain ⟨ji23, hji23⟩ : ∃ j_ : Int, (mn x159001_3 a1_1) = j_ := ⟨_, rfl⟩
     replace H : (some (ji22, ji23, mx x159002_3 a1_2, mx x159003_3 a1_3)) = some (r1, r2, r3, r4) := by first | (rw [hji23] at H; exact H) | (simp only [hji23] at H ⊢; exact H)
     (try rw [hji23] at A18)
     (try rw [hji23] at A20)
     have hji23_ : (if a1_1 < x159001_3 then a1_1 else x159001_3) = ji23 := hji23
     obtain ⟨ji24, hji24⟩ : ∃ j_ : Int, (mx x159002_3 a1_2) = j_ := ⟨_, rfl⟩
     replace H : (some (ji22, ji23, ji24, mx x159003_3 a1_3)) = some (r1, r2, r3, r4) := by first | (rw [hji24] at H; exact H) | (simp only [hji24] at H ⊢; exact H)
     (try rw [hji24] at A18)
     (try rw [hji24] at A20)
     have hji24_ : (if x159002_3 < a1_2 then a1_2 else x159002_3) = ji24 := hji24
     obtain ⟨ji25, hji25⟩ : ∃ j_ : Int, (mx x159003_3 a1_3) = j_ := ⟨_, rfl⟩
     replace H : (some (ji22, ji23, ji24, ji25)) = some (r1, r2, r3, r4) := by first | (rw [hji25] at H; exact H) | (simp only [hji25] at H ⊢; exact H)
     (try rw [hji25] at A18)
     (try rw [hji25] at A20)
     have hji25_ : (if x159003_3 < a1_3 then a1_3 else x159003_3) = ji25 := hji25
     simp only [Option.some.injEq, Prod.mk.injEq] at H
     obtain ⟨rfl, rfl, rfl, rfl⟩ := H
     have hnb26 := NB159_158.out
     have hnc26 := NB158_159.out
     have hnb27 := NB159_160.out
     have hnc27 := NB160_159.out
     have hcz28_0 : wc.cell? ⟨gb159, 0, none⟩ = some (.int .i64 a1_0) := (kc_ BK159.out 0).trans rfl
     have hcz28_1 : wc.cell? ⟨gb159, 1, none⟩ = some (.int .i64 a1_1) := (kc_ BK159.out 1).trans rfl
     have hcz28_2 : wc.cell? ⟨gb159, 2, none⟩ = some (.int .i64 a1_2) := (kc_ BK159.out 2).trans rfl
     have hcz28_3 : wc.cell? ⟨gb159, 3, none⟩ = some (.int .i64 a1_3) := (kc_ BK159.out 3).trans rfl
     have hfz28_0 := kf_ BK159.out 0
     have hfz28_1 := kf_ BK159.out 1
     have hfz28_2 := kf_ BK159.out 2
     have hfz28_3 := kf_ BK159.out 3
     go_wp2_with (first | ((with_reducible refine gate_callee (f := 12) rfl ?_); refine goesL_ (some 10) rfl rfl Tryd.func12 (by kernel_rfl) rfl #[.agg #[.int .i64 a1_0, .int .i64 a1_1, .int .i64 a1_2, .int .i64 a1_3]] rfl (by (try simp only [lm_, lq_, lx_]); first | done | rfl | (simp only [ld_, lt_]; rfl)) ?_; (with_reducible refine (box_Check.calls a1_0 a1_1 a1_2 a1_3 true _ A18.out).mono ?_); rintro e w29 ⟨rfl, hb⟩; refine ⟨_, rfl, ?_⟩; have n0_ := sd_ (blk_below (g := gb158) (o := .cells #[.int .i64 x159000_3, .int .i64 x159001_3, .int .i64 x159002_3, .int .i64 x159003_3] 23 (0, 0)) (by (with_reducible repeat (first | refine kn_ ?_ _ | refine kd_ ?_ | refine ka_ ?_ _)); exact BK158.out) hb); have n1_ := sd_ (blk_below (g := gb159) (o := .cells #[.int .i64 a1_0, .int .i64 a1_1, .int .i64 a1_2, .int .i64 a1_3] 23 (0, 0)) (by (with_reducible repeat (first | refine kn_ ?_ _ | refine kd_ ?_ | refine ka_ ?_ _)); exact BK159.out) hb); have n2_ := sd_ (blk_below (g := gb160) (o := .cells #[.int .i64 0, .int .i64 0, .int .i64 0, .int .i64 0] 23 (0, 0)) (by (with_reducible repeat (first | refine kn_ ?_ _ | refine kd_ ?_ | refine ka_ ?_ _)); exact BK160.out) hb); have n3_ := sd_ (bt_ (by repeat (first | (with_reducible first | exact HB.out | apply ba_ | apply pd_ | apply d1_ | refine bs_ ?_ GE158.out | refine bs_ ?_ GE159.out | refine bs_ ?_ GE160.out) | exact HB.out)) hb); clear BK158; clear BK159; clear BK160; clear HB; have BK158 := n0_; have BK159 := n1_; have BK160 := n2_; have HB := n3_; clear n0_ n1_ n2_ n3_; (try clear hb); (try clear hb2); (try clear hk); (try clear hi); have hnb30 := NB158_160.out; have hnc30 := NB160_158.out; have hcz31_0 : w29.cell? ⟨gb158, 0, none⟩ = some (.int .i64 x159000_3) := (kc_ BK158.out 0).trans rfl; have hcz31_1 : w29.cell? ⟨gb158, 1, none⟩ = some (.int .i64 x159001_3) := (kc_ BK158.out 1).trans rfl; have hcz31_2 : w29.cell? ⟨gb158, 2, none⟩ = some (.int .i64 x159002_3) := (kc_ BK158.out 2).trans rfl; have hcz31_3 : w29.cell? ⟨gb158, 3, none⟩ = some (.int .i64 x159003_3) := (kc_ BK158.out 3).trans rfl; have hfz31_0 := kf_ BK158.out 0; have hfz31_1 := kf_ BK158.out 1; have hfz31_2 := kf_ BK158.out 2; have hfz31_3 := kf_ BK158.out 3) | ((with_reducible refine gate_callee (f := 12) rfl ?_); refine goesL_ (some 14) rfl rfl Tryd.func12 (by kernel_rfl) rfl #[.agg #[.int .i64 x159000_3, .int .i64 x159001_3, .int .i64 x159002_3, .int .i64 x159003_3]] rfl (by (try simp only [lm_, lq_, lx_]); first | done | rfl | (simp only [ld_, lt_]; rfl)) ?_; (with_reducible refine (box_Check.calls x159000_3 x159001_3 x159002_3 x159003_3 true _ A20.out).mono ?_); rintro e w32 ⟨rfl, hb⟩; refine ⟨_, rfl, ?_⟩; have n0_ := sd_ (blk_below (g := gb158) (o := .cells #[.int .i64 x159000_3, .int .i64 x159001_3, .int .i64 x159002_3, .int .i64 x159003_3] 23 (0, 0)) (by (with_reducible repeat (first | refine kn_ ?_ _ | refine kd_ ?_ | refine ka_ ?_ _)); exact BK158.out) hb); have n1_ := sd_ (blk_below (g := gb159) (o := .cells #[.int .i64 a1_0, .int .i64 a1_1, .int .i64 a1_2, .int .i64 a1_3] 23 (0, 0)) (by (with_reducible repeat (first | refine kn_ ?_ _ | refine kd_ ?_ | refine ka_ ?_ _)); exact BK159.out) hb); have n2_ := sd_ (blk_below (g := gb160) (o := .cells #[.int .i64 0, .int .i64 0, .int .i64 0, .int .i64 0] 23 (0, 0)) (by (with_reducible repeat (first | refine kn_ ?_ _ | refine kd_ ?_ | refine ka_ ?_ _)); exact BK160.out) hb); have n3_ := sd_ (bt_ (by repeat (first | (with_reducible first | exact HB.out | apply ba_ | apply pd_ | apply d1_ | refine bs_ ?_ GE158.out | refine bs_ ?_ GE159.out | refine bs_ ?_ GE160.out) | exact HB.out)) hb); clear BK158; clear BK159; clear BK160; clear HB; have BK158 := n0_; have BK159 := n1_; have BK160 := n2_; have HB := n3_; clear n0_ n1_ n2_ n3_; (try clear hb); (try clear hb2); (try clear hk); (try clear hi); have hcz33_0 : w32.cell? ⟨gb158, 0, none⟩ = some (.int .i64 x159000_3) := (kc_ BK158.out 0).trans rfl; have hcz33_1 : w32.cell? ⟨gb158, 1, none⟩ = some (.int .i64 x159001_3) := (kc_ BK158.out 1).trans rfl; have hcz33_2 : w32.cell? ⟨gb158, 2, none⟩ = some (.int .i64 x159002_3) := (kc_ BK158.out 2).trans rfl; have hcz33_3 : w32.cell? ⟨gb158, 3, none⟩ = some (.int .i64 x159003_3) := (kc_ BK158.out 3).trans rfl; have hfz33_0 := kf_ BK158.out 0; have hfz33_1 := kf_ BK158.out 1; have hfz33_2 := kf_ BK158.out 2; have hfz33_3 := kf_ BK158.out 3; have hcz34_0 : w32.cell? ⟨gb159, 0, none⟩ = some (.int .i64 a1_0) := (kc_ BK159.out 0).trans rfl; have hcz34_1 : w32.cell? ⟨gb159, 1, none⟩ = some (.int .i64 a1_1) := (kc_ BK159.out 1).trans rfl; have hcz34_2 : w32.cell? ⟨gb159, 2, none⟩ = some (.int .i64 a1_2) := (kc_ BK159.out 2).trans rfl; have hcz34_3 : w32.cell? ⟨gb159, 3, none⟩ = some (.int .i64 a1_3) := (kc_ BK159.out 3).trans rfl; have hfz34_0 := kf_ BK159.out 0; have hfz34_1 := kf_ BK159.out 1; have hfz34_2 := kf_ BK159.out 2; have hfz34_3 := kf_ BK159.out 3; have hcz35_0 : w32.cell? ⟨gb160, 0, none⟩ = some (.int .i64 0) := (kc_ BK160.out 0).trans rfl; have hcz35_1 : w32.cell? ⟨gb160, 1, none⟩ = some (.int .i64 0) := (kc_ BK160.out 1).trans rfl; have hcz35_2 : w32.cell? ⟨gb160, 2, none⟩ = some (.int .i64 0) := (kc_ BK160.out 2).trans rfl; have hcz35_3 : w32.cell? ⟨gb160, 3, none⟩ = some (.int .i64 0) := (kc_ BK160.out 3).trans rfl; have hfz35_0 := kf_ BK160.out 0; have hfz35_1 := kf_ BK160.out 1; have hfz35_2 := kf_ BK160.out 2; have hfz35_3 := kf_ BK160.out 3))
     refine bodyPost_ret (results_cell_row rfl _ _ gb160 23 #[.int .i64 ji22, .int .i64 ji23, .int .i64 ji24, .int .i64 ji25] (0, 0) _ rfl (by (with_reducible repeat (first | refine kn_ ?_ _ | refine kd_ ?_ | refine ka_ ?_ _)); refine blk_put (cs := #[.int .i64 ji22, .int .i64 ji23, .int .i64 ji24, .int .i64 0]) ?_ 3 _ rfl; (with_reducible repeat (first | refine kn_ ?_ _ | refine kd_ ?_ | refine ka_ ?_ _)); refine blk_put (cs := #[.int .i64 ji22, .int .i64 ji23, .int .i64 0, .int .i64 0]) ?_ 2 _ rfl; (with_reducible repeat (first | refine kn_ ?_ _ | refine kd_ ?_ | refine ka_ ?_ _)); refine blk_put (cs := #[.int .i64 ji22, .int .i64 0, .int .i64 0, .int .i64 0]) ?_ 1 _ rfl; (with_reducible repeat (first | refine kn_ ?_ _ | refine kd_ ?_ | refine ka_ ?_ _)); refine blk_put (cs := #[.int .i64 0, .int .i64 0, .int .i64 0, .int .i64 0]) ?_ 0 _ rfl; (with_reducible repeat (first | refine kn_ ?_ _ | refine kd_ ?_ | refine ka_ ?_ _)); exact BK160.out) Tryd.underlying23 rfl (by kernel_rfl)) rfl ?_
     exact ⟨by first | rfl | (simp [errW_none, errW_some] <;> rfl) | (simp only [← hji22, ← hji23, ← hji24, ← hji25]; first | rfl | (simp [errW_none, errW_some] <;> rfl)) | (simp [*, errW_none, errW_some] <;> rfl), by repeat (first | (with_reducible first | exact HB.out | apply ba_ | apply pd_ | apply d1_ | refine bs_ ?_ GE158.out | refine bs_ ?_ GE159.out | refine bs_ ?_ GE160.out) | exact HB.out)⟩
    ·replace c21 := bf_ c21
     subst c21
     have H1 : (some (0, 0, 0, 0)) = some (r1, r2, r3, r4) := by rw [if_neg (show ¬ (false = true) by decide)] at H; exact H
     clear H; have H := H1; clear H1
     simp only [Option.some.injEq, Prod.mk.injEq] at H
     obtain ⟨rfl, rfl, rfl, rfl⟩ := H
     have hnb36 := NB159_158.out
     have hnc36 := NB158_159.out
     have hnb37 := NB159_160.out
     have hnc37 := NB160_159.out
     have hcz38_0 : wc.cell? ⟨gb159, 0, none⟩ = some (.int .i64 a1_0) := (kc_ BK159.out 0).trans rfl
     have hcz38_1 : wc.cell? ⟨gb159, 1, none⟩ = some (.int .i64 a1_1) := (kc_ BK159.out 1).trans rfl
     have hcz38_2 : wc.cell? ⟨gb159, 2, none⟩ = some (.int .i64 a1_2) := (kc_ BK159.out 2).trans rfl
     have hcz38_3 : wc.cell? ⟨gb159, 3, none⟩ = some (.int .i64 a1_3) := (kc_ BK159.out 3).trans rfl
     have hfz38_0 := kf_ BK159.out 0
     have hfz38_1 := kf_ BK159.out 1
     have hfz38_2 := kf_ BK159.out 2
     have hfz38_3 := kf_ BK159.out 3
     go_wp2_with (first | ((with_reducible refine gate_callee (f := 12) rfl ?_); refine goesL_ (some 10) rfl rfl Tryd.func12 (by kernel_rfl) rfl #[.agg #[.int .i64 a1_0, .int .i64 a1_1, .int .i64 a1_2, .int .i64 a1_3]] rfl (by (try simp only [lm_, lq_, lx_]); first | done | rfl | (simp only [ld_, lt_]; rfl)) ?_; (with_reducible refine (box_Check.calls a1_0 a1_1 a1_2 a1_3 true _ A18.out).mono ?_); rintro e w39 ⟨rfl, hb⟩; refine ⟨_, rfl, ?_⟩; have n0_ := sd_ (blk_below (g := gb158) (o := .cells #[.int .i64 x159000_3, .int .i64 x159001_3, .int .i64 x159002_3, .int .i64 x159003_3] 23 (0, 0)) (by (with_reducible repeat (first | refine kn_ ?_ _ | refine kd_ ?_ | refine ka_ ?_ _)); exact BK158.out) hb); have n1_ := sd_ (blk_below (g := gb159) (o := .cells #[.int .i64 a1_0, .int .i64 a1_1, .int .i64 a1_2, .int .i64 a1_3] 23 (0, 0)) (by (with_reducible repeat (first | refine kn_ ?_ _ | refine kd_ ?_ | refine ka_ ?_ _)); exact BK159.out) hb); have n2_ := sd_ (blk_below (g := gb160) (o := .cells #[.int .i64 0, .int .i64 0, .int .i64 0, .int .i64 0] 23 (0, 0)) (by (with_reducible repeat (first | refine kn_ ?_ _ | refine kd_ ?_ | refine ka_ ?_ _)); exact BK160.out) hb); have n3_ := sd_ (bt_ (by repeat (first | (with_reducible first | exact HB.out | apply ba_ | apply pd_ | apply d1_ | refine bs_ ?_ GE158.out | refine bs_ ?_ GE159.out | refine bs_ ?_ GE160.out) | exact HB.out)) hb); clear BK158; clear BK159; clear BK160; clear HB; have BK158 := n0_; have BK159 := n1_; have BK160 := n2_; have HB := n3_; clear n0_ n1_ n2_ n3_; (try clear hb); (try clear hb2); (try clear hk); (try clear hi); have hnb40 := NB158_160.out; have hnc40 := NB160_158.out; have hcz41_0 : w39.cell? ⟨gb158, 0, none⟩ = some (.int .i64 x159000_3) := (kc_ BK158.out 0).trans rfl; have hcz41_1 : w39.cell? ⟨gb158, 1, none⟩ = some (.int .i64 x159001_3) := (kc_ BK158.out 1).trans rfl; have hcz41_2 : w39.cell? ⟨gb158, 2, none⟩ = some (.int .i64 x159002_3) := (kc_ BK158.out 2).trans rfl; have hcz41_3 : w39.cell? ⟨gb158, 3, none⟩ = some (.int .i64 x159003_3) := (kc_ BK158.out 3).trans rfl; have hfz41_0 := kf_ BK158.out 0; have hfz41_1 := kf_ BK158.out 1; have hfz41_2 := kf_ BK158.out 2; have hfz41_3 := kf_ BK158.out 3) | ((with_reducible refine gate_callee (f := 12) rfl ?_); refine goesL_ (some 14) rfl rfl Tryd.func12 (by kernel_rfl) rfl #[.agg #[.int .i64 x159000_3, .int .i64 x159001_3, .int .i64 x159002_3, .int .i64 x159003_3]] rfl (by (try simp only [lm_, lq_, lx_]); first | done | rfl | (simp only [ld_, lt_]; rfl)) ?_; (with_reducible refine (box_Check.calls x159000_3 x159001_3 x159002_3 x159003_3 false _ A20.out).mono ?_); rintro e w42 ⟨rfl, hb⟩; refine ⟨_, rfl, ?_⟩; have n0_ := sd_ (blk_below (g := gb158) (o := .cells #[.int .i64 x159000_3, .int .i64 x159001_3, .int .i64 x159002_3, .int .i64 x159003_3] 23 (0, 0)) (by (with_reducible repeat (first | refine kn_ ?_ _ | refine kd_ ?_ | refine ka_ ?_ _)); exact BK158.out) hb); have n1_ := sd_ (blk_below (g := gb159) (o := .cells #[.int .i64 a1_0, .int .i64 a1_1, .int .i64 a1_2, .int .i64 a1_3] 23 (0, 0)) (by (with_reducible repeat (first | refine kn_ ?_ _ | refine kd_ ?_ | refine ka_ ?_ _)); exact BK159.out) hb); have n2_ := sd_ (blk_below (g := gb160) (o := .cells #[.int .i64 0, .int .i64 0, .int .i64 0, .int .i64 0] 23 (0, 0)) (by (with_reducible repeat (first | refine kn_ ?_ _ | refine kd_ ?_ | refine ka_ ?_ _)); exact BK160.out) hb); have n3_ := sd_ (bt_ (by repeat (first | (with_reducible first | exact HB.out | apply ba_ | apply pd_ | apply d1_ | refine bs_ ?_ GE158.out | refine bs_ ?_ GE159.out | refine bs_ ?_ GE160.out) | exact HB.out)) hb); clear BK158; clear BK159; clear BK160; clear HB; have BK158 := n0_; have BK159 := n1_; have BK160 := n2_; have HB := n3_; clear n0_ n1_ n2_ n3_; (try clear hb); (try clear hb2); (try clear hk); (try clear hi); have hcz43_0 : w42.cell? ⟨gb160, 0, none⟩ = some (.int .i64 0) := (kc_ BK160.out 0).trans rfl; have hcz43_1 : w42.cell? ⟨gb160, 1, none⟩ = some (.int .i64 0) := (kc_ BK160.out 1).trans rfl; have hcz43_2 : w42.cell? ⟨gb160, 2, none⟩ = some (.int .i64 0) := (kc_ BK160.out 2).trans rfl; have hcz43_3 : w42.cell? ⟨gb160, 3, none⟩ = some (.int .i64 0) := (kc_ BK160.out 3).trans rfl; have hfz43_0 := kf_ BK160.out 0; have hfz43_1 := kf_ BK160.out 1; have hfz43_2 := kf_ BK160.out 2; have hfz43_3 := kf_ BK160.out 3))
     refine bodyPost_ret (results_cell_row rfl _ _ gb160 23 #[.int .i64 0, .int .i64 0, .int .i64 0, .int .i64 0] (0, 0) _ rfl (by (with_reducible repeat (first | refine kn_ ?_ _ | refine kd_ ?_ | refine ka_ ?_ _)); refine blk_put (cs := #[.int .i64 0, .int .i64 0, .int .i64 0, .int .i64 0]) ?_ 3 _ rfl; (with_reducible repeat (first | refine kn_ ?_ _ | refine kd_ ?_ | refine ka_ ?_ _)); refine blk_put (cs := #[.int .i64 0, .int .i64 0, .int .i64 0, .int .i64 0]) ?_ 2 _ rfl; (with_reducible repeat (first | refine kn_ ?_ _ | refine kd_ ?_ | refine ka_ ?_ _)); refine blk_put (cs := #[.int .i64 0, .int .i64 0, .int .i64 0, .int .i64 0]) ?_ 1 _ rfl; (with_reducible repeat (first | refine kn_ ?_ _ | refine kd_ ?_ | refine ka_ ?_ _)); refine blk_put (cs := #[.int .i64 0, .int .i64 0, .int .i64 0, .int .i64 0]) ?_ 0 _ rfl; (with_reducible repeat (first | refine kn_ ?_ _ | refine kd_ ?_ | refine ka_ ?_ _)); exact BK160.out) Tryd.underlying23 rfl (by kernel_rfl)) rfl ?_
     exact ⟨by first | rfl | (simp [errW_none, errW_some] <;> rfl) | (simp [*, errW_none, errW_some] <;> rfl), by repeat (first | (with_reducible first | exact HB.out | apply ba_ | apply pd_ | apply d1_ | refine bs_ ?_ GE158.out | refine bs_ ?_ GE159.out | refine bs_ ?_ GE160.out) | exact HB.out)⟩
   ·replace c19 := bf_ c19
    subst c19
    have H1 : ((box_Check.f x159000_3 x159001_3 x159002_3 x159003_3).bind fun t164 => (if t164 = true then (some (x159000_3, x159001_3, x159002_3, x159003_3)) else (some (0, 0, 0, 0)))) = some (r1, r2, r3, r4) := by rw [if_neg (show ¬ (false = true) by decide)] at H; exact H
    clear H; have H := H1; clear H1
    replace H := ob_ H
    obtain ⟨t164, A440, H⟩ := H
    replace H : (if t164 = true then (some (x159000_3, x159001_3, x159002_3, x159003_3)) else (some (0, 0, 0, 0))) = some (r1, r2, r3, r4) := H
    have A44 := sd_ A440
    clear A440
    by_cases c45 : t164 = true
    ·subst c45
     have H1 : (some (x159000_3, x159001_3, x159002_3, x159003_3)) = some (r1, r2, r3, r4) := by rw [if_pos rfl] at H; exact H
     clear H; have H := H1; clear H1
     simp only [Option.some.injEq, Prod.mk.injEq] at H
     obtain ⟨rfl, rfl, rfl, rfl⟩ := H
     have hnb46 := NB159_158.out
     have hnc46 := NB158_159.out
     have hnb47 := NB159_160.out
     have hnc47 := NB160_159.out
     have hcz48_0 : wc.cell? ⟨gb159, 0, none⟩ = some (.int .i64 a1_0) := (kc_ BK159.out 0).trans rfl
     have hcz48_1 : wc.cell? ⟨gb159, 1, none⟩ = some (.int .i64 a1_1) := (kc_ BK159.out 1).trans rfl
     have hcz48_2 : wc.cell? ⟨gb159, 2, none⟩ = some (.int .i64 a1_2) := (kc_ BK159.out 2).trans rfl
     have hcz48_3 : wc.cell? ⟨gb159, 3, none⟩ = some (.int .i64 a1_3) := (kc_ BK159.out 3).trans rfl
     have hfz48_0 := kf_ BK159.out 0
     have hfz48_1 := kf_ BK159.out 1
     have hfz48_2 := kf_ BK159.out 2
     have hfz48_3 := kf_ BK159.out 3
     go_wp2_with (first | ((with_reducible refine gate_callee (f := 12) rfl ?_); refine goesL_ (some 10) rfl rfl Tryd.func12 (by kernel_rfl) rfl #[.agg #[.int .i64 a1_0, .int .i64 a1_1, .int .i64 a1_2, .int .i64 a1_3]] rfl (by (try simp only [lm_, lq_, lx_]); first | done | rfl | (simp only [ld_, lt_]; rfl)) ?_; (with_reducible refine (box_Check.calls a1_0 a1_1 a1_2 a1_3 false _ A18.out).mono ?_); rintro e w49 ⟨rfl, hb⟩; refine ⟨_, rfl, ?_⟩; have n0_ := sd_ (blk_below (g := gb158) (o := .cells #[.int .i64 x159000_3, .int .i64 x159001_3, .int .i64 x159002_3, .int .i64 x159003_3] 23 (0, 0)) (by (with_reducible repeat (first | refine kn_ ?_ _ | refine kd_ ?_ | refine ka_ ?_ _)); exact BK158.out) hb); have n1_ := sd_ (blk_below (g := gb159) (o := .cells #[.int .i64 a1_0, .int .i64 a1_1, .int .i64 a1_2, .int .i64 a1_3] 23 (0, 0)) (by (with_reducible repeat (first | refine kn_ ?_ _ | refine kd_ ?_ | refine ka_ ?_ _)); exact BK159.out) hb); have n2_ := sd_ (blk_below (g := gb160) (o := .cells #[.int .i64 0, .int .i64 0, .int .i64 0, .int .i64 0] 23 (0, 0)) (by (with_reducible repeat (first | refine kn_ ?_ _ | refine kd_ ?_ | refine ka_ ?_ _)); exact BK160.out) hb); have n3_ := sd_ (bt_ (by repeat (first | (with_reducible first | exact HB.out | apply ba_ | apply pd_ | apply d1_ | refine bs_ ?_ GE158.out | refine bs_ ?_ GE159.out | refine bs_ ?_ GE160.out) | exact HB.out)) hb); clear BK158; clear BK159; clear BK160; clear HB; have BK158 := n0_; have BK159 := n1_; have BK160 := n2_; have HB := n3_; clear n0_ n1_ n2_ n3_; (try clear hb); (try clear hb2); (try clear hk); (try clear hi); have hnb50 := NB158_160.out; have hnc50 := NB160_158.out; have hcz51_0 : w49.cell? ⟨gb158, 0, none⟩ = some (.int .i64 x159000_3) := (kc_ BK158.out 0).trans rfl; have hcz51_1 : w49.cell? ⟨gb158, 1, none⟩ = some (.int .i64 x159001_3) := (kc_ BK158.out 1).trans rfl; have hcz51_2 : w49.cell? ⟨gb158, 2, none⟩ = some (.int .i64 x159002_3) := (kc_ BK158.out 2).trans rfl; have hcz51_3 : w49.cell? ⟨gb158, 3, none⟩ = some (.int .i64 x159003_3) := (kc_ BK158.out 3).trans rfl; have hfz51_0 := kf_ BK158.out 0; have hfz51_1 := kf_ BK158.out 1; have hfz51_2 := kf_ BK158.out 2; have hfz51_3 := kf_ BK158.out 3; have hcz52_0 : w49.cell? ⟨gb159, 0, none⟩ = some (.int .i64 a1_0) := (kc_ BK159.out 0).trans rfl; have hcz52_1 : w49.cell? ⟨gb159, 1, none⟩ = some (.int .i64 a1_1) := (kc_ BK159.out 1).trans rfl; have hcz52_2 : w49.cell? ⟨gb159, 2, none⟩ = some (.int .i64 a1_2) := (kc_ BK159.out 2).trans rfl; have hcz52_3 : w49.cell? ⟨gb159, 3, none⟩ = some (.int .i64 a1_3) := (kc_ BK159.out 3).trans rfl; have hfz52_0 := kf_ BK159.out 0; have hfz52_1 := kf_ BK159.out 1; have hfz52_2 := kf_ BK159.out 2; have hfz52_3 := kf_ BK159.out 3) | ((with_reducible refine gate_callee (f := 12) rfl ?_); refine goesL_ (some 14) rfl rfl Tryd.func12 (by kernel_rfl) rfl #[.agg #[.int .i64 x159000_3, .int .i64 x159001_3, .int .i64 x159002_3, .int .i64 x159003_3]] rfl (by (try simp only [lm_, lq_, lx_]); first | done | rfl | (simp only [ld_, lt_]; rfl)) ?_; (with_reducible refine (box_Check.calls x159000_3 x159001_3 x159002_3 x159003_3 true _ A44.out).mono ?_); rintro e w53 ⟨rfl, hb⟩; refine ⟨_, rfl, ?_⟩; have n0_ := sd_ (blk_below (g := gb158) (o := .cells #[.int .i64 x159000_3, .int .i64 x159001_3, .int .i64 x159002_3, .int .i64 x159003_3] 23 (0, 0)) (by (with_reducible repeat (first | refine kn_ ?_ _ | refine kd_ ?_ | refine ka_ ?_ _)); refine blk_far ?_ NB158_159.out _; (with_reducible repeat (first | refine kn_ ?_ _ | refine kd_ ?_ | refine ka_ ?_ _)); refine blk_far ?_ NB158_159.out _; (with_reducible repeat (first | refine kn_ ?_ _ | refine kd_ ?_ | refine ka_ ?_ _)); refine blk_far ?_ NB158_159.out _; (with_reducible repeat (first | refine kn_ ?_ _ | refine kd_ ?_ | refine ka_ ?_ _)); refine blk_far ?_ NB158_159.out _; (with_reducible repeat (first | refine kn_ ?_ _ | refine kd_ ?_ | refine ka_ ?_ _)); exact BK158.out) hb); have n1_ := sd_ (blk_below (g := gb159) (o := .cells #[.int .i64 x159000_3, .int .i64 x159001_3, .int .i64 x159002_3, .int .i64 x159003_3] 23 (0, 0)) (by (with_reducible repeat (first | refine kn_ ?_ _ | refine kd_ ?_ | refine ka_ ?_ _)); refine blk_put (cs := #[.int .i64 x159000_3, .int .i64 x159001_3, .int .i64 x159002_3, .int .i64 a1_3]) ?_ 3 _ rfl; (with_reducible repeat (first | refine kn_ ?_ _ | refine kd_ ?_ | refine ka_ ?_ _)); refine blk_put (cs := #[.int .i64 x159000_3, .int .i64 x159001_3, .int .i64 a1_2, .int .i64 a1_3]) ?_ 2 _ rfl; (with_reducible repeat (first | refine kn_ ?_ _ | refine kd_ ?_ | refine ka_ ?_ _)); refine blk_put (cs := #[.int .i64 x159000_3, .int .i64 a1_1, .int .i64 a1_2, .int .i64 a1_3]) ?_ 1 _ rfl; (with_reducible repeat (first | refine kn_ ?_ _ | refine kd_ ?_ | refine ka_ ?_ _)); refine blk_put (cs := #[.int .i64 a1_0, .int .i64 a1_1, .int .i64 a1_2, .int .i64 a1_3]) ?_ 0 _ rfl; (with_reducible repeat (first | refine kn_ ?_ _ | refine kd_ ?_ | refine ka_ ?_ _)); exact BK159.out) hb); have n2_ := sd_ (blk_below (g := gb160) (o := .cells #[.int .i64 0, .int .i64 0, .int .i64 0, .int .i64 0] 23 (0, 0)) (by (with_reducible repeat (first | refine kn_ ?_ _ | refine kd_ ?_ | refine ka_ ?_ _)); refine blk_far ?_ NB160_159.out _; (with_reducible repeat (first | refine kn_ ?_ _ | refine kd_ ?_ | refine ka_ ?_ _)); refine blk_far ?_ NB160_159.out _; (with_reducible repeat (first | refine kn_ ?_ _ | refine kd_ ?_ | refine ka_ ?_ _)); refine blk_far ?_ NB160_159.out _; (with_reducible repeat (first | refine kn_ ?_ _ | refine kd_ ?_ | refine ka_ ?_ _)); refine blk_far ?_ NB160_159.out _; (with_reducible repeat (first | refine kn_ ?_ _ | refine kd_ ?_ | refine ka_ ?_ _)); exact BK160.out) hb); have n3_ := sd_ (bt_ (by repeat (first | (with_reducible first | exact HB.out | apply ba_ | apply pd_ | apply d1_ | refine bs_ ?_ GE158.out | refine bs_ ?_ GE159.out | refine bs_ ?_ GE160.out) | exact HB.out)) hb); clear BK158; clear BK159; clear BK160; clear HB; have BK158 := n0_; have BK159 := n1_; have BK160 := n2_; have HB := n3_; clear n0_ n1_ n2_ n3_; (try clear hb); (try clear hb2); (try clear hk); (try clear hi); have hcz54_0 : w53.cell? ⟨gb158, 0, none⟩ = some (.int .i64 x159000_3) := (kc_ BK158.out 0).trans rfl; have hcz54_1 : w53.cell? ⟨gb158, 1, none⟩ = some (.int .i64 x159001_3) := (kc_ BK158.out 1).trans rfl; have hcz54_2 : w53.cell? ⟨gb158, 2, none⟩ = some (.int .i64 x159002_3) := (kc_ BK158.out 2).trans rfl; have hcz54_3 : w53.cell? ⟨gb158, 3, none⟩ = some (.int .i64 x159003_3) := (kc_ BK158.out 3).trans rfl; have hfz54_0 := kf_ BK158.out 0; have hfz54_1 := kf_ BK158.out 1; have hfz54_2 := kf_ BK158.out 2; have hfz54_3 := kf_ BK158.out 3; have hcz55_0 : w53.cell? ⟨gb159, 0, none⟩ = some (.int .i64 x159000_3) := (kc_ BK159.out 0).trans rfl; have hcz55_1 : w53.cell? ⟨gb159, 1, none⟩ = some (.int .i64 x159001_3) := (kc_ BK159.out 1).trans rfl; have hcz55_2 : w53.cell? ⟨gb159, 2, none⟩ = some (.int .i64 x159002_3) := (kc_ BK159.out 2).trans rfl; have hcz55_3 : w53.cell? ⟨gb159, 3, none⟩ = some (.int .i64 x159003_3) := (kc_ BK159.out 3).trans rfl; have hfz55_0 := kf_ BK159.out 0; have hfz55_1 := kf_ BK159.out 1; have hfz55_2 := kf_ BK159.out 2; have hfz55_3 := kf_ BK159.out 3; have hcz56_0 : w53.cell? ⟨gb160, 0, none⟩ = some (.int .i64 0) := (kc_ BK160.out 0).trans rfl; have hcz56_1 : w53.cell? ⟨gb160, 1, none⟩ = some (.int .i64 0) := (kc_ BK160.out 1).trans rfl; have hcz56_2 : w53.cell? ⟨gb160, 2, none⟩ = some (.int .i64 0) := (kc_ BK160.out 2).trans rfl; have hcz56_3 : w53.cell? ⟨gb160, 3, none⟩ = some (.int .i64 0) := (kc_ BK160.out 3).trans rfl; have hfz56_0 := kf_ BK160.out 0; have hfz56_1 := kf_ BK160.out 1; have hfz56_2 := kf_ BK160.out 2; have hfz56_3 := kf_ BK160.out 3))
     refine bodyPost_ret (results_cell_row rfl _ _ gb160 23 #[.int .i64 x159000_3, .int .i64 x159001_3, .int .i64 x159002_3, .int .i64 x159003_3] (0, 0) _ rfl (by (with_reducible repeat (first | refine kn_ ?_ _ | refine kd_ ?_ | refine ka_ ?_ _)); refine blk_put (cs := #[.int .i64 x159000_3, .int .i64 x159001_3, .int .i64 x159002_3, .int .i64 0]) ?_ 3 _ rfl; (with_reducible repeat (first | refine kn_ ?_ _ | refine kd_ ?_ | refine ka_ ?_ _)); refine blk_put (cs := #[.int .i64 x159000_3, .int .i64 x159001_3, .int .i64 0, .int .i64 0]) ?_ 2 _ rfl; (with_reducible repeat (first | refine kn_ ?_ _ | refine kd_ ?_ | refine ka_ ?_ _)); refine blk_put (cs := #[.int .i64 x159000_3, .int .i64 0, .int .i64 0, .int .i64 0]) ?_ 1 _ rfl; (with_reducible repeat (first | refine kn_ ?_ _ | refine kd_ ?_ | refine ka_ ?_ _)); refine blk_put (cs := #[.int .i64 0, .int .i64 0, .int .i64 0, .int .i64 0]) ?_ 0 _ rfl; (with_reducible repeat (first | refine kn_ ?_ _ | refine kd_ ?_ | refine ka_ ?_ _)); exact BK160.out) Tryd.underlying23 rfl (by kernel_rfl)) rfl ?_
     exact ⟨by first | rfl | (simp [errW_none, errW_some] <;> rfl) | (simp [*, errW_none, errW_some] <;> rfl), by repeat (first | (with_reducible first | exact HB.out | apply ba_ | apply pd_ | apply d1_ | refine bs_ ?_ GE158.out | refine bs_ ?_ GE159.out | refine bs_ ?_ GE160.out) | exact HB.out)⟩
    ·replace c45 := bf_ c45
     subst c45
     have H1 : (some (0, 0, 0, 0)) = some (r1, r2, r3, r4) := by rw [if_neg (show ¬ (false = true) by decide)] at H; exact H
     clear H; have H := H1; clear H1
     simp only [Option.some.injEq, Prod.mk.injEq] at H
     obtain ⟨rfl, rfl, rfl, rfl⟩ := H
     have hnb57 := NB159_158.out
     have hnc57 := NB158_159.out
     have hnb58 := NB159_160.out
     have hnc58 := NB160_159.out
     have hcz59_0 : wc.cell? ⟨gb159, 0, none⟩ = some (.int .i64 a1_0) := (kc_ BK159.out 0).trans rfl
     have hcz59_1 : wc.cell? ⟨gb159, 1, none⟩ = some (.int .i64 a1_1) := (kc_ BK159.out 1).trans rfl
     have hcz59_2 : wc.cell? ⟨gb159, 2, none⟩ = some (.int .i64 a1_2) := (kc_ BK159.out 2).trans rfl
     have hcz59_3 : wc.cell? ⟨gb159, 3, none⟩ = some (.int .i64 a1_3) := (kc_ BK159.out 3).trans rfl
     have hfz59_0 := kf_ BK159.out 0
     have hfz59_1 := kf_ BK159.out 1
     have hfz59_2 := kf_ BK159.out 2
     have hfz59_3 := kf_ BK159.out 3
     go_wp2_with (first | ((with_reducible refine gate_callee (f := 12) rfl ?_); refine goesL_ (some 10) rfl rfl Tryd.func12 (by kernel_rfl) rfl #[.agg #[.int .i64 a1_0, .int .i64 a1_1, .int .i64 a1_2, .int .i64 a1_3]] rfl (by (try simp only [lm_, lq_, lx_]); first | done | rfl | (simp only [ld_, lt_]; rfl)) ?_; (with_reducible refine (box_Check.calls a1_0 a1_1 a1_2 a1_3 false _ A18.out).mono ?_); rintro e w60 ⟨rfl, hb⟩; refine ⟨_, rfl, ?_⟩; have n0_ := sd_ (blk_below (g := gb158) (o := .cells #[.int .i64 x159000_3, .int .i64 x159001_3, .int .i64 x159002_3, .int .i64 x159003_3] 23 (0, 0)) (by (with_reducible repeat (first | refine kn_ ?_ _ | refine kd_ ?_ | refine ka_ ?_ _)); exact BK158.out) hb); have n1_ := sd_ (blk_below (g := gb159) (o := .cells #[.int .i64 a1_0, .int .i64 a1_1, .int .i64 a1_2, .int .i64 a1_3] 23 (0, 0)) (by (with_reducible repeat (first | refine kn_ ?_ _ | refine kd_ ?_ | refine ka_ ?_ _)); exact BK159.out) hb); have n2_ := sd_ (blk_below (g := gb160) (o := .cells #[.int .i64 0, .int .i64 0, .int .i64 0, .int .i64 0] 23 (0, 0)) (by (with_reducible repeat (first | refine kn_ ?_ _ | refine kd_ ?_ | refine ka_ ?_ _)); exact BK160.out) hb); have n3_ := sd_ (bt_ (by repeat (first | (with_reducible first | exact HB.out | apply ba_ | apply pd_ | apply d1_ | refine bs_ ?_ GE158.out | refine bs_ ?_ GE159.out | refine bs_ ?_ GE160.out) | exact HB.out)) hb); clear BK158; clear BK159; clear BK160; clear HB; have BK158 := n0_; have BK159 := n1_; have BK160 := n2_; have HB := n3_; clear n0_ n1_ n2_ n3_; (try clear hb); (try clear hb2); (try clear hk); (try clear hi); have hnb61 := NB158_160.out; have hnc61 := NB160_158.out; have hcz62_0 : w60.cell? ⟨gb158, 0, none⟩ = some (.int .i64 x159000_3) := (kc_ BK158.out 0).trans rfl; have hcz62_1 : w60.cell? ⟨gb158, 1, none⟩ = some (.int .i64 x159001_3) := (kc_ BK158.out 1).trans rfl; have hcz62_2 : w60.cell? ⟨gb158, 2, none⟩ = some (.int .i64 x159002_3) := (kc_ BK158.out 2).trans rfl; have hcz62_3 : w60.cell? ⟨gb158, 3, none⟩ = some (.int .i64 x159003_3) := (kc_ BK158.out 3).trans rfl; have hfz62_0 := kf_ BK158.out 0; have hfz62_1 := kf_ BK158.out 1; have hfz62_2 := kf_ BK158.out 2; have hfz62_3 := kf_ BK158.out 3; have hcz63_0 : w60.cell? ⟨gb159, 0, none⟩ = some (.int .i64 a1_0) := (kc_ BK159.out 0).trans rfl; have hcz63_1 : w60.cell? ⟨gb159, 1, none⟩ = some (.int .i64 a1_1) := (kc_ BK159.out 1).trans rfl; have hcz63_2 : w60.cell? ⟨gb159, 2, none⟩ = some (.int .i64 a1_2) := (kc_ BK159.out 2).trans rfl; have hcz63_3 : w60.cell? ⟨gb159, 3, none⟩ = some (.int .i64 a1_3) := (kc_ BK159.out 3).trans rfl; have hfz63_0 := kf_ BK159.out 0; have hfz63_1 := kf_ BK159.out 1; have hfz63_2 := kf_ BK159.out 2; have hfz63_3 := kf_ BK159.out 3) | ((with_reducible refine gate_callee (f := 12) rfl ?_); refine goesL_ (some 14) rfl rfl Tryd.func12 (by kernel_rfl) rfl #[.agg #[.int .i64 x159000_3, .int .i64 x159001_3, .int .i64 x159002_3, .int .i64 x159003_3]] rfl (by (try simp only [lm_, lq_, lx_]); first | done | rfl | (simp only [ld_, lt_]; rfl)) ?_; (with_reducible refine (box_Check.calls x159000_3 x159001_3 x159002_3 x159003_3 false _ A44.out).mono ?_); rintro e w64 ⟨rfl, hb⟩; refine ⟨_, rfl, ?_⟩; have n0_ := sd_ (blk_below (g := gb158) (o := .cells #[.int .i64 x159000_3, .int .i64 x159001_3, .int .i64 x159002_3, .int .i64 x159003_3] 23 (0, 0)) (by (with_reducible repeat (first | refine kn_ ?_ _ | refine kd_ ?_ | refine ka_ ?_ _)); refine blk_far ?_ NB158_159.out _; (with_reducible repeat (first | refine kn_ ?_ _ | refine kd_ ?_ | refine ka_ ?_ _)); refine blk_far ?_ NB158_159.out _; (with_reducible repeat (first | refine kn_ ?_ _ | refine kd_ ?_ | refine ka_ ?_ _)); refine blk_far ?_ NB158_159.out _; (with_reducible repeat (first | refine kn_ ?_ _ | refine kd_ ?_ | refine ka_ ?_ _)); refine blk_far ?_ NB158_159.out _; (with_reducible repeat (first | refine kn_ ?_ _ | refine kd_ ?_ | refine ka_ ?_ _)); exact BK158.out) hb); have n1_ := sd_ (blk_below (g := gb159) (o := .cells #[.int .i64 x159000_3, .int .i64 x159001_3, .int .i64 x159002_3, .int .i64 x159003_3] 23 (0, 0)) (by (with_reducible repeat (first | refine kn_ ?_ _ | refine kd_ ?_ | refine ka_ ?_ _)); refine blk_put (cs := #[.int .i64 x159000_3, .int .i64 x159001_3, .int .i64 x159002_3, .int .i64 a1_3]) ?_ 3 _ rfl; (with_reducible repeat (first | refine kn_ ?_ _ | refine kd_ ?_ | refine ka_ ?_ _)); refine blk_put (cs := #[.int .i64 x159000_3, .int .i64 x159001_3, .int .i64 a1_2, .int .i64 a1_3]) ?_ 2 _ rfl; (with_reducible repeat (first | refine kn_ ?_ _ | refine kd_ ?_ | refine ka_ ?_ _)); refine blk_put (cs := #[.int .i64 x159000_3, .int .i64 a1_1, .int .i64 a1_2, .int .i64 a1_3]) ?_ 1 _ rfl; (with_reducible repeat (first | refine kn_ ?_ _ | refine kd_ ?_ | refine ka_ ?_ _)); refine blk_put (cs := #[.int .i64 a1_0, .int .i64 a1_1, .int .i64 a1_2, .int .i64 a1_3]) ?_ 0 _ rfl; (with_reducible repeat (first | refine kn_ ?_ _ | refine kd_ ?_ | refine ka_ ?_ _)); exact BK159.out) hb); have n2_ := sd_ (blk_below (g := gb160) (o := .cells #[.int .i64 0, .int .i64 0, .int .i64 0, .int .i64 0] 23 (0, 0)) (by (with_reducible repeat (first | refine kn_ ?_ _ | refine kd_ ?_ | refine ka_ ?_ _)); refine blk_far ?_ NB160_159.out _; (with_reducible repeat (first | refine kn_ ?_ _ | refine kd_ ?_ | refine ka_ ?_ _)); refine blk_far ?_ NB160_159.out _; (with_reducible repeat (first | refine kn_ ?_ _ | refine kd_ ?_ | refine ka_ ?_ _)); refine blk_far ?_ NB160_159.out _; (with_reducible repeat (first | refine kn_ ?_ _ | refine kd_ ?_ | refine ka_ ?_ _)); refine blk_far ?_ NB160_159.out _; (with_reducible repeat (first | refine kn_ ?_ _ | refine kd_ ?_ | refine ka_ ?_ _)); exact BK160.out) hb); have n3_ := sd_ (bt_ (by repeat (first | (with_reducible first | exact HB.out | apply ba_ | apply pd_ | apply d1_ | refine bs_ ?_ GE158.out | refine bs_ ?_ GE159.out | refine bs_ ?_ GE160.out) | exact HB.out)) hb); clear BK158; clear BK159; clear BK160; clear HB; have BK158 := n0_; have BK159 := n1_; have BK160 := n2_; have HB := n3_; clear n0_ n1_ n2_ n3_; (try clear hb); (try clear hb2); (try clear hk); (try clear hi); have hcz65_0 : w64.cell? ⟨gb160, 0, none⟩ = some (.int .i64 0) := (kc_ BK160.out 0).trans rfl; have hcz65_1 : w64.cell? ⟨gb160, 1, none⟩ = some (.int .i64 0) := (kc_ BK160.out 1).trans rfl; have hcz65_2 : w64.cell? ⟨gb160, 2, none⟩ = some (.int .i64 0) := (kc_ BK160.out 2).trans rfl; have hcz65_3 : w64.cell? ⟨gb160, 3, none⟩ = some (.int .i64 0) := (kc_ BK160.out 3).trans rfl; have hfz65_0 := kf_ BK160.out 0; have hfz65_1 := kf_ BK160.out 1; have hfz65_2 := kf_ BK160.out 2; have hfz65_3 := kf_ BK160.out 3))
     refine bodyPost_ret (results_cell_row rfl _ _ gb160 23 #[.int .i64 0, .int .i64 0, .int .i64 0, .int .i64 0] (0, 0) _ rfl (by (with_reducible repeat (first | refine kn_ ?_ _ | refine kd_ ?_ | refine ka_ ?_ _)); refine blk_put (cs := #[.int .i64 0, .int .i64 0, .int .i64 0, .int .i64 0]) ?_ 3 _ rfl; (with_reducible repeat (first | refine kn_ ?_ _ | refine kd_ ?_ | refine ka_ ?_ _)); refine blk_put (cs := #[.int .i64 0, .int .i64 0, .int .i64 0, .int .i64 0]) ?_ 2 _ rfl; (with_reducible repeat (first | refine kn_ ?_ _ | refine kd_ ?_ | refine ka_ ?_ _)); refine blk_put (cs := #[.int .i64 0, .int .i64 0, .int .i64 0, .int .i64 0]) ?_ 1 _ rfl; (with_reducible repeat (first | refine kn_ ?_ _ | refine kd_ ?_ | refine ka_ ?_ _)); refine blk_put (cs := #[.int .i64 0, .int .i64 0, .int .i64 0, .int .i64 0]) ?_ 0 _ rfl; (with_reducible repeat (first | refine kn_ ?_ _ | refine kd_ ?_ | refine ka_ ?_ _)); exact BK160.out) Tryd.underlying23 rfl (by kernel_rfl)) rfl ?_
     exact ⟨by first | rfl | (simp [errW_none, errW_some] <;> rfl) | (simp [*, errW_none, errW_some] <;> rfl), by repeat (first | (with_reducible first | exact HB.out | apply ba_ | apply pd_ | apply d1_ | refine bs_ ?_ GE158.out | refine bs_ ?_ GE159.out | refine bs_ ?_ GE160.out) | exact HB.out)⟩

/-! ### box_overlap: function 29 -/
def box_overlap.f (a0 : Int) (a1 : Int) (a2 : Int) (a3 : Int) : Option (Bool) := some (decide ((mx a0 a2) < (mn a1 a3)))
set_option maxHeartbeats 8000000 in
set_option maxRecDepth 100000 in
theorem box_overlap.calls (a0 : Int) (a1 : Int) (a2 : Int) (a3 : Int) (r : Bool) (w : World) (h : box_overlap.f a0 a1 a2 a3 = some r) :
  Calls Tryd.prog 29 #[.int .i64 a0, .int .i64 a1, .int .i64 a2, .int .i64 a3] w fun e w' => e = .returned (.bool r) ∧ Below w.heap.size w w' := by
 have HB := sd_ (Below.refl w.heap.size w)
 have H : (some (decide ((mx a0 a2) < (mn a1 a3)))) = some r := h
 clear h
 obtain ⟨ji5, hji5⟩ : ∃ j_ : Int, (mx a0 a2) = j_ := ⟨_, rfl⟩
 replace H : (some (decide ((ji5) < (mn a1 a3)))) = some r := by first | (rw [hji5] at H; exact H) | (simp only [hji5] at H ⊢; exact H)
 have hji5_ : (if a0 < a2 then a2 else a0) = ji5 := hji5
 obtain ⟨ji6, hji6⟩ : ∃ j_ : Int, (mn a1 a3) = j_ := ⟨_, rfl⟩
 replace H : (some (decide ((ji5) < (ji6)))) = some r := by first | (rw [hji6] at H; exact H) | (simp only [hji6] at H ⊢; exact H)
 have hji6_ : (if a3 < a1 then a3 else a1) = ji6 := hji6
 obtain rfl := Option.some.inj H
 go_enter Tryd.func29, Tryd.ntmps29
 go_wp2
 go_ret
 exact ⟨by first | rfl | (simp [errW_none, errW_some] <;> rfl) | (simp only [← hji5, ← hji6]; first | rfl | (simp [errW_none, errW_some] <;> rfl)) | (simp [*, errW_none, errW_some] <;> rfl), by repeat (first | (with_reducible first | exact HB.out | apply ba_ | apply pd_ | apply d1_) | exact HB.out)⟩

/-! ### box_Meet: function 16 -/
def box_Meet.f (a0_0 : Int) (a0_1 : Int) (a0_2 : Int) (a0_3 : Int) (a1_0 : Int) (a1_1 : Int) (a1_2 : Int) (a1_3 : Int) : Option (Bool) := (box_Check.f a0_0 a0_1 a0_2 a0_3).bind fun t174 => (if t174 = true then ((box_Check.f a1_0 a1_1 a1_2 a1_3).bind fun t175 => (if t175 = true then ((box_overlap.f a0_0 a0_2 a1_0 a1_2).bind fun t176 => (if t176 = true then ((box_overlap.f a0_1 a0_3 a1_1 a1_3).bind fun t177 => (some t177)) else (some false))) else (some false))) else (some false))
set_option maxHeartbeats 8000000 in
set_option maxRecDepth 100000 in
theorem box_Meet.calls (a0_0 : Int) (a0_1 : Int) (a0_2 : Int) (a0_3 : Int) (a1_0 : Int) (a1_1 : Int) (a1_2 : Int) (a1_3 : Int) (r : Bool) (w : World) (h : box_Meet.f a0_0 a0_1 a0_2 a0_3 a1_0 a1_1 a1_2 a1_3 = some r) :
  Calls Tryd.prog 16 #[.agg #[.int .i64 a0_0, .int .i64 a0_1, .int .i64 a0_2, .int .i64 a0_3], .agg #[.int .i64 a1_0, .int .i64 a1_1, .int .i64 a1_2, .int .i64 a1_3]] w fun e w' => e = .returned (.bool r) ∧ Below w.heap.size w w' := by
 have hu23 := Tryd.underlying23
 have HB := sd_ (Below.refl w.heap.size w)
 have H : ((box_Check.f a0_0 a0_1 a0_2 a0_3).bind fun t174 => (if t174 = true then ((box_Check.f a1_0 a1_1 a1_2 a1_3).bind fun t175 => (if t175 = true then ((box_overlap.f a0_0 a0_2 a1_0 a1_2).bind fun t176 => (if t176 = true then ((box_overlap.f a0_1 a0_3 a1_1 a1_3).bind fun t177 => (some t177)) else (some false))) else (some false))) else (some false))) = some r := h
 clear h
 replace H := ob_ H
 obtain ⟨t174, A30, H⟩ := H
 replace H : (if t174 = true then ((box_Check.f a1_0 a1_1 a1_2 a1_3).bind fun t175 => (if t175 = true then ((box_overlap.f a0_0 a0_2 a1_0 a1_2).bind fun t176 => (if t176 = true then ((box_overlap.f a0_1 a0_3 a1_1 a1_3).bind fun t177 => (some t177)) else (some false))) else (some false))) else (some false)) = some r := H
 have A3 := sd_ A30
 clear A30
 by_cases c4 : t174 = true
 ·subst c4
  have H1 : ((box_Check.f a1_0 a1_1 a1_2 a1_3).bind fun t175 => (if t175 = true then ((box_overlap.f a0_0 a0_2 a1_0 a1_2).bind fun t176 => (if t176 = true then ((box_overlap.f a0_1 a0_3 a1_1 a1_3).bind fun t177 => (some t177)) else (some false))) else (some false))) = some r := by rw [if_pos rfl] at H; exact H
  clear H; have H := H1; clear H1
  replace H := ob_ H
  obtain ⟨t175, A50, H⟩ := H
  replace H : (if t175 = true then ((box_overlap.f a0_0 a0_2 a1_0 a1_2).bind fun t176 => (if t176 = true then ((box_overlap.f a0_1 a0_3 a1_1 a1_3).bind fun t177 => (some t177)) else (some false))) else (some false)) = some r := H
  have A5 := sd_ A50
  clear A50
  by_cases c6 : t175 = true
  ·subst c6
   have H1 : ((box_overlap.f a0_0 a0_2 a1_0 a1_2).bind fun t176 => (if t176 = true then ((box_overlap.f a0_1 a0_3 a1_1 a1_3).bind fun t177 => (some t177)) else (some false))) = some r := by rw [if_pos rfl] at H; exact H
   clear H; have H := H1; clear H1
   replace H := ob_ H
   obtain ⟨t176, A70, H⟩ := H
   replace H : (if t176 = true then ((box_overlap.f a0_1 a0_3 a1_1 a1_3).bind fun t177 => (some t177)) else (some false)) = some r := H
   have A7 := sd_ A70
   clear A70
   by_cases c8 : t176 = true
   ·subst c8
    have H1 : ((box_overlap.f a0_1 a0_3 a1_1 a1_3).bind fun t177 => (some t177)) = some r := by rw [if_pos rfl] at H; exact H
    clear H; have H := H1; clear H1
    replace H := ob_ H
    obtain ⟨t177, A90, H⟩ := H
    replace H : (some t177) = some r := H
    have A9 := sd_ A90
    clear A90
    obtain rfl := Option.some.inj H
    go_enter Tryd.func16, Tryd.ntmps16
    go_wp2_with (first | ((with_reducible refine gate_dst (N := 2) rfl ?_); refine box_event ?hg (N := 2) ?hd (cs := #[.int .i64 a0_0, .int .i64 a0_1, .int .i64 a0_2, .int .i64 a0_3]) (t := 23) ?hr ?_; (case hd => rfl); (case hg => rfl); (case hr => first | (go_simp; done) | (go_simp; rfl)); intro gb172 hg w10 hbox hb; have n0_ := sd_ (bt_ (by repeat (first | (with_reducible first | exact HB.out | apply ba_ | apply pd_ | apply d1_) | exact HB.out)) hb); have n1_ := sd_ (hbox); have n2_ := sd_ ((by rw [hg]; exact (bz_ (by repeat (first | (with_reducible first | exact HB.out | apply ba_ | apply pd_ | apply d1_) | exact HB.out))) : w.heap.size ≤ gb172)); have n3_ := sd_ ((by rw [hg]; exact (bz_ (by repeat (first | (with_reducible first | exact HB.out | apply ba_ | apply pd_ | apply d1_) | exact HB.out))) : w.heap.size ≤ gb172)); clear HB; have HB := n0_; have BK172 := n1_; have GW172 := n2_; have GE172 := n3_; clear n0_ n1_ n2_ n3_; clear hb hbox hg) | ((with_reducible refine gate_dst (N := 3) rfl ?_); refine box_event ?hg (N := 3) ?hd (cs := #[.int .i64 a1_0, .int .i64 a1_1, .int .i64 a1_2, .int .i64 a1_3]) (t := 23) ?hr ?_; (case hd => rfl); (case hg => rfl); (case hr => first | (go_simp; done) | (go_simp; rfl)); intro gb173 hg w11 hbox hb; have n0_ := sd_ (blk_below (g := gb172) (o := .cells #[.int .i64 a0_0, .int .i64 a0_1, .int .i64 a0_2, .int .i64 a0_3] 23 (0, 0)) (by (with_reducible repeat (first | refine kn_ ?_ _ | refine kd_ ?_ | refine ka_ ?_ _)); exact BK172.out) hb); have n1_ := sd_ (bt_ (by repeat (first | (with_reducible first | exact HB.out | apply ba_ | apply pd_ | apply d1_ | refine bs_ ?_ GE172.out) | exact HB.out)) hb); have n2_ := sd_ (hbox); have n3_ := sd_ ((by rw [hg]; exact (bz_ (by repeat (first | (with_reducible first | exact HB.out | apply ba_ | apply pd_ | apply d1_ | refine bs_ ?_ GE172.out) | exact HB.out))) : w.heap.size ≤ gb173)); have n4_ := sd_ ((by rw [hg]; exact (bz_ (by repeat (first | (with_reducible first | exact HB.out | apply ba_ | apply pd_ | apply d1_ | refine bs_ ?_ GE172.out) | exact HB.out))) : w.heap.size ≤ gb173)); have n5_ := sd_ ((by rw [hg]; exact nn_ (blk_lt (g := gb172) (o := .cells #[.int .i64 a0_0, .int .i64 a0_1, .int .i64 a0_2, .int .i64 a0_3] 23 (0, 0)) (by (with_reducible repeat (first | refine kn_ ?_ _ | refine kd_ ?_ | refine ka_ ?_ _)); exact BK172.out)) : gb172 ≠ gb173)); have n6_ := sd_ ((by rw [hg]; exact Nat.ne_of_gt (blk_lt (g := gb172) (o := .cells #[.int .i64 a0_0, .int .i64 a0_1, .int .i64 a0_2, .int .i64 a0_3] 23 (0, 0)) (by (with_reducible repeat (first | refine kn_ ?_ _ | refine kd_ ?_ | refine ka_ ?_ _)); exact BK172.out)) : gb173 ≠ gb172)); clear BK172; clear HB; have BK172 := n0_; have HB := n1_; have BK173 := n2_; have GW173 := n3_; have GE173 := n4_; have NB172_173 := n5_; have NB173_172 := n6_; clear n0_ n1_ n2_ n3_ n4_ n5_ n6_; clear hb hbox hg; have hnb12 := NB172_173.out; have hnc12 := NB173_172.out; have hcz13_0 : w11.cell? ⟨gb172, 0, none⟩ = some (.int .i64 a0_0) := (kc_ BK172.out 0).trans rfl; have hcz13_1 : w11.cell? ⟨gb172, 1, none⟩ = some (.int .i64 a0_1) := (kc_ BK172.out 1).trans rfl; have hcz13_2 : w11.cell? ⟨gb172, 2, none⟩ = some (.int .i64 a0_2) := (kc_ BK172.out 2).trans rfl; have hcz13_3 : w11.cell? ⟨gb172, 3, none⟩ = some (.int .i64 a0_3) := (kc_ BK172.out 3).trans rfl; have hfz13_0 := kf_ BK172.out 0; have hfz13_1 := kf_ BK172.out 1; have hfz13_2 := kf_ BK172.out 2; have hfz13_3 := kf_ BK172.out 3) | ((with_reducible refine gate_callee (f := 12) rfl ?_); refine goesL_ (some 6) rfl rfl Tryd.func12 (by kernel_rfl) rfl #[.agg #[.int .i64 a0_0, .int .i64 a0_1, .int .i64 a0_2, .int .i64 a0_3]] rfl (by (try simp only [lm_, lq_, lx_]); first | done | rfl | (simp only [ld_, lt_]; rfl)) ?_; (with_reducible refine (box_Check.calls a0_0 a0_1 a0_2 a0_3 true _ A3.out).mono ?_); rintro e w14 ⟨rfl, hb⟩; refine ⟨_, rfl, ?_⟩; have n0_ := sd_ (blk_below (g := gb172) (o := .cells #[.int .i64 a0_0, .int .i64 a0_1, .int .i64 a0_2, .int .i64 a0_3] 23 (0, 0)) (by (with_reducible repeat (first | refine kn_ ?_ _ | refine kd_ ?_ | refine ka_ ?_ _)); exact BK172.out) hb); have n1_ := sd_ (blk_below (g := gb173) (o := .cells #[.int .i64 a1_0, .int .i64 a1_1, .int .i64 a1_2, .int .i64 a1_3] 23 (0, 0)) (by (with_reducible repeat (first | refine kn_ ?_ _ | refine kd_ ?_ | refine ka_ ?_ _)); exact BK173.out) hb); have n2_ := sd_ (bt_ (by repeat (first | (with_reducible first | exact HB.out | apply ba_ | apply pd_ | apply d1_ | refine bs_ ?_ GE172.out | refine bs_ ?_ GE173.out) | exact HB.out)) hb); clear BK172; clear BK173; clear HB; have BK172 := n0_; have BK173 := n1_; have HB := n2_; clear n0_ n1_ n2_; (try clear hb); (try clear hb2); (try clear hk); (try clear hi); have hcz15_0 : w14.cell? ⟨gb173, 0, none⟩ = some (.int .i64 a1_0) := (kc_ BK173.out 0).trans rfl; have hcz15_1 : w14.cell? ⟨gb173, 1, none⟩ = some (.int .i64 a1_1) := (kc_ BK173.out 1).trans rfl; have hcz15_2 : w14.cell? ⟨gb173, 2, none⟩ = some (.int .i64 a1_2) := (kc_ BK173.out 2).trans rfl; have hcz15_3 : w14.cell? ⟨gb173, 3, none⟩ = some (.int .i64 a1_3) := (kc_ BK173.out 3).trans rfl; have hfz15_0 := kf_ BK173.out 0; have hfz15_1 := kf_ BK173.out 1; have hfz15_2 := kf_ BK173.out 2; have hfz15_3 := kf_ BK173.out 3) | (go_at_call 12; (with_reducible refine (box_Check.calls a1_0 a1_1 a1_2 a1_3 true _ A5.out).mono ?_); rintro e w16 ⟨rfl, hb⟩; have n0_ := sd_ (blk_below (g := gb172) (o := .cells #[.int .i64 a0_0, .int .i64 a0_1, .int .i64 a0_2, .int .i64 a0_3] 23 (0, 0)) (by (with_reducible repeat (first | refine kn_ ?_ _ | refine kd_ ?_ | refine ka_ ?_ _)); exact BK172.out) hb); have n1_ := sd_ (blk_below (g := gb173) (o := .cells #[.int .i64 a1_0, .int .i64 a1_1, .int .i64 a1_2, .int .i64 a1_3] 23 (0, 0)) (by (with_reducible repeat (first | refine kn_ ?_ _ | refine kd_ ?_ | refine ka_ ?_ _)); exact BK173.out) hb); have n2_ := sd_ (bt_ (by repeat (first | (with_reducible first | exact HB.out | apply ba_ | apply pd_ | apply d1_ | refine bs_ ?_ GE172.out | refine bs_ ?_ GE173.out) | exact HB.out)) hb); clear BK172; clear BK173; clear HB; have BK172 := n0_; have BK173 := n1_; have HB := n2_; clear n0_ n1_ n2_; (try clear hb); (try clear hb2); (try clear hk); (try clear hi); have hcz17_0 : w16.cell? ⟨gb172, 0, none⟩ = some (.int .i64 a0_0) := (kc_ BK172.out 0).trans rfl; have hcz17_1 : w16.cell? ⟨gb172, 1, none⟩ = some (.int .i64 a0_1) := (kc_ BK172.out 1).trans rfl; have hcz17_2 : w16.cell? ⟨gb172, 2, none⟩ = some (.int .i64 a0_2) := (kc_ BK172.out 2).trans rfl; have hcz17_3 : w16.cell? ⟨gb172, 3, none⟩ = some (.int .i64 a0_3) := (kc_ BK172.out 3).trans rfl; have hfz17_0 := kf_ BK172.out 0; have hfz17_1 := kf_ BK172.out 1; have hfz17_2 := kf_ BK172.out 2; have hfz17_3 := kf_ BK172.out 3; have hcz18_0 : w16.cell? ⟨gb173, 0, none⟩ = some (.int .i64 a1_0) := (kc_ BK173.out 0).trans rfl; have hcz18_1 : w16.cell? ⟨gb173, 1, none⟩ = some (.int .i64 a1_1) := (kc_ BK173.out 1).trans rfl; have hcz18_2 : w16.cell? ⟨gb173, 2, none⟩ = some (.int .i64 a1_2) := (kc_ BK173.out 2).trans rfl; have hcz18_3 : w16.cell? ⟨gb173, 3, none⟩ = some (.int .i64 a1_3) := (kc_ BK173.out 3).trans rfl; have hfz18_0 := kf_ BK173.out 0; have hfz18_1 := kf_ BK173.out 1; have hfz18_2 := kf_ BK173.out 2; have hfz18_3 := kf_ BK173.out 3) | (go_at_call 29; (with_reducible refine (box_overlap.calls a0_0 a0_2 a1_0 a1_2 true _ A7.out).mono ?_); rintro e w19 ⟨rfl, hb⟩; have n0_ := sd_ (blk_below (g := gb172) (o := .cells #[.int .i64 a0_0, .int .i64 a0_1, .int .i64 a0_2, .int .i64 a0_3] 23 (0, 0)) (by (with_reducible repeat (first | refine kn_ ?_ _ | refine kd_ ?_ | refine ka_ ?_ _)); exact BK172.out) hb); have n1_ := sd_ (blk_below (g := gb173) (o := .cells #[.int .i64 a1_0, .int .i64 a1_1, .int .i64 a1_2, .int .i64 a1_3] 23 (0, 0)) (by (with_reducible repeat (first | refine kn_ ?_ _ | refine kd_ ?_ | refine ka_ ?_ _)); exact BK173.out) hb); have n2_ := sd_ (bt_ (by repeat (first | (with_reducible first | exact HB.out | apply ba_ | apply pd_ | apply d1_ | refine bs_ ?_ GE172.out | refine bs_ ?_ GE173.out) | exact HB.out)) hb); clear BK172; clear BK173; clear HB; have BK172 := n0_; have BK173 := n1_; have HB := n2_; clear n0_ n1_ n2_; (try clear hb); (try clear hb2); (try clear hk); (try clear hi); have hcz20_0 : w19.cell? ⟨gb172, 0, none⟩ = some (.int .i64 a0_0) := (kc_ BK172.out 0).trans rfl; have hcz20_1 : w19.cell? ⟨gb172, 1, none⟩ = some (.int .i64 a0_1) := (kc_ BK172.out 1).trans rfl; have hcz20_2 : w19.cell? ⟨gb172, 2, none⟩ = some (.int .i64 a0_2) := (kc_ BK172.out 2).trans rfl; have hcz20_3 : w19.cell? ⟨gb172, 3, none⟩ = some (.int .i64 a0_3) := (kc_ BK172.out 3).trans rfl; have hfz20_0 := kf_ BK172.out 0; have hfz20_1 := kf_ BK172.out 1; have hfz20_2 := kf_ BK172.out 2; have hfz20_3 := kf_ BK172.out 3; have hcz21_0 : w19.cell? ⟨gb173, 0, none⟩ = some (.int .i64 a1_0) := (kc_ BK173.out 0).trans rfl; have hcz21_1 : w19.cell? ⟨gb173, 1, none⟩ = some (.int .i64 a1_1) := (kc_ BK173.out 1).trans rfl; have hcz21_2 : w19.cell? ⟨gb173, 2, none⟩ = some (.int .i64 a1_2) := (kc_ BK173.out 2).trans rfl; have hcz21_3 : w19.cell? ⟨gb173, 3, none⟩ = some (.int .i64 a1_3) := (kc_ BK173.out 3).trans rfl; have hfz21_0 := kf_ BK173.out 0; have hfz21_1 := kf_ BK173.out 1; have hfz21_2 := kf_ BK173.out 2; have hfz21_3 := kf_ BK173.out 3) | (go_at_call 29; (with_reducible refine (box_overlap.calls a0_1 a0_3 a1_1 a1_3 t177 _ A9.out).mono ?_); rintro e w22 ⟨rfl, hb⟩; have n0_ := sd_ (blk_below (g := gb172) (o := .cells #[.int .i64 a0_0, .int .i64 a0_1, .int .i64 a0_2, .int .i64 a0_3] 23 (0, 0)) (by (with_reducible repeat (first | refine kn_ ?_ _ | refine kd_ ?_ | refine ka_ ?_ _)); exact BK172.out) hb); have n1_ := sd_ (blk_below (g := gb173) (o := .cells #[.int .i64 a1_0, .int .i64 a1_1, .int .i64 a1_2, .int .i64 a1_3] 23 (0, 0)) (by (with_reducible repeat (first | refine kn_ ?_ _ | refine kd_ ?_ | refine ka_ ?_ _)); exact BK173.out) hb); have n2_ := sd_ (bt_ (by repeat (first | (with_reducible first | exact HB.out | apply ba_ | apply pd_ | apply d1_ | refine bs_ ?_ GE172.out | refine bs_ ?_ GE173.out) | exact HB.out)) hb); clear BK172; clear BK173; clear HB; have BK172 := n0_; have BK173 := n1_; have HB := n2_; clear n0_ n1_ n2_; (try clear hb); (try clear hb2); (try clear hk); (try clear hi)))
    go_ret
    exact ⟨by first | rfl | (simp [errW_none, errW_some] <;> rfl) | (simp [*, errW_none, errW_some] <;> rfl), by repeat (first | (with_reducible first | exact HB.out | apply ba_ | apply pd_ | apply d1_ | refine bs_ ?_ GE172.out | refine bs_ ?_ GE173.out) | exact HB.out)⟩
   ·replace c8 := bf_ c8
    subst c8
    have H1 : (some false) = some r := by rw [if_neg (show ¬ (false = true) by decide)] at H; exact H
    clear H; have H := H1; clear H1
    obtain rfl := Option.some.inj H
    go_enter Tryd.func16, Tryd.ntmps16
    go_wp2_with (first | ((with_reducible refine gate_dst (N := 2) rfl ?_); refine box_event ?hg (N := 2) ?hd (cs := #[.int .i64 a0_0, .int .i64 a0_1, .int .i64 a0_2, .int .i64 a0_3]) (t := 23) ?hr ?_; (case hd => rfl); (case hg => rfl); (case hr => first | (go_simp; done) | (go_simp; rfl)); intro gb172 hg w23 hbox hb; have n0_ := sd_ (bt_ (by repeat (first | (with_reducible first | exact HB.out | apply ba_ | apply pd_ | apply d1_) | exact HB.out)) hb); have n1_ := sd_ (hbox); have n2_ := sd_ ((by rw [hg]; exact (bz_ (by repeat (first | (with_reducible first | exact HB.out | apply ba_ | apply pd_ | apply d1_) | exact HB.out))) : w.heap.size ≤ gb172)); have n3_ := sd_ ((by rw [hg]; exact (bz_ (by repeat (first | (with_reducible first | exact HB.out | apply ba_ | apply pd_ | apply d1_) | exact HB.out))) : w.heap.size ≤ gb172)); clear HB; have HB := n0_; have BK172 := n1_; have GW172 := n2_; have GE172 := n3_; clear n0_ n1_ n2_ n3_; clear hb hbox hg) | ((with_reducible refine gate_dst (N := 3) rfl ?_); refine box_event ?hg (N := 3) ?hd (cs := #[.int .i64 a1_0, .int .i64 a1_1, .int .i64 a1_2, .int .i64 a1_3]) (t := 23) ?hr ?_; (case hd => rfl); (case hg => rfl); (case hr => first | (go_simp; done) | (go_simp; rfl)); intro gb173 hg w24 hbox hb; have n0_ := sd_ (blk_below (g := gb172) (o := .cells #[.int .i64 a0_0, .int .i64 a0_1, .int .i64 a0_2, .int .i64 a0_3] 23 (0, 0)) (by (with_reducible repeat (first | refine kn_ ?_ _ | refine kd_ ?_ | refine ka_ ?_ _)); exact BK172.out) hb); have n1_ := sd_ (bt_ (by repeat (first | (with_reducible first | exact HB.out | apply ba_ | apply pd_ | apply d1_ | refine bs_ ?_ GE172.out) | exact HB.out)) hb); have n2_ := sd_ (hbox); have n3_ := sd_ ((by rw [hg]; exact (bz_ (by repeat (first | (with_reducible first | exact HB.out | apply ba_ | apply pd_ | apply d1_ | refine bs_ ?_ GE172.out) | exact HB.out))) : w.heap.size ≤ gb173)); have n4_ := sd_ ((by rw [hg]; exact (bz_ (by repeat (first | (with_reducible first | exact HB.out | apply ba_ | apply pd_ | apply d1_ | refine bs_ ?_ GE172.out) | exact HB.out))) : w.heap.size ≤ gb173)); have n5_ := sd_ ((by rw [hg]; exact nn_ (blk_lt (g := gb172) (o := .cells #[.int .i64 a0_0, .int .i64 a0_1, .int .i64 a0_2, .int .i64 a0_3] 23 (0, 0)) (by (with_reducible repeat (first | refine kn_ ?_ _ | refine kd_ ?_ | refine ka_ ?_ _)); exact BK172.out)) : gb172 ≠ gb173)); have n6_ := sd_ ((by rw [hg]; exact Nat.ne_of_gt (blk_lt (g := gb172) (o := .cells #[.int .i64 a0_0, .int .i64 a0_1, .int .i64 a0_2, .int .i64 a0_3] 23 (0, 0)) (by (with_reducible repeat (first | refine kn_ ?_ _ | refine kd_ ?_ | refine ka_ ?_ _)); exact BK172.out)) : gb173 ≠ gb172)); clear BK172; clear HB; have BK172 := n0_; have HB := n1_; have BK173 := n2_; have GW173 := n3_; have GE173 := n4_; have NB172_173 := n5_; have NB173_172 := n6_; clear n0_ n1_ n2_ n3_ n4_ n5_ n6_; clear hb hbox hg; have hnb25 := NB172_173.out; have hnc25 := NB173_172.out; have hcz26_0 : w24.cell? ⟨gb172, 0, none⟩ = some (.int .i64 a0_0) := (kc_ BK172.out 0).trans rfl; have hcz26_1 : w24.cell? ⟨gb172, 1, none⟩ = some (.int .i64 a0_1) := (kc_ BK172.out 1).trans rfl; have hcz26_2 : w24.cell? ⟨gb172, 2, none⟩ = some (.int .i64 a0_2) := (kc_ BK172.out 2).trans rfl; have hcz26_3 : w24.cell? ⟨gb172, 3, none⟩ = some (.int .i64 a0_3) := (kc_ BK172.out 3).trans rfl; have hfz26_0 := kf_ BK172.out 0; have hfz26_1 := kf_ BK172.out 1; have hfz26_2 := kf_ BK172.out 2; have hfz26_3 := kf_ BK172.out 3) | ((with_reducible refine gate_callee (f := 12) rfl ?_); refine goesL_ (some 6) rfl rfl Tryd.func12 (by kernel_rfl) rfl #[.agg #[.int .i64 a0_0, .int .i64 a0_1, .int .i64 a0_2, .int .i64 a0_3]] rfl (by (try simp only [lm_, lq_, lx_]); first | done | rfl | (simp only [ld_, lt_]; rfl)) ?_; (with_reducible refine (box_Check.calls a0_0 a0_1 a0_2 a0_3 true _ A3.out).mono ?_); rintro e w27 ⟨rfl, hb⟩; refine ⟨_, rfl, ?_⟩; have n0_ := sd_ (blk_below (g := gb172) (o := .cells #[.int .i64 a0_0, .int .i64 a0_1, .int .i64 a0_2, .int .i64 a0_3] 23 (0, 0)) (by (with_reducible repeat (first | refine kn_ ?_ _ | refine kd_ ?_ | refine ka_ ?_ _)); exact BK172.out) hb); have n1_ := sd_ (blk_below (g := gb173) (o := .cells #[.int .i64 a1_0, .int .i64 a1_1, .int .i64 a1_2, .int .i64 a1_3] 23 (0, 0)) (by (with_reducible repeat (first | refine kn_ ?_ _ | refine kd_ ?_ | refine ka_ ?_ _)); exact BK173.out) hb); have n2_ := sd_ (bt_ (by repeat (first | (with_reducible first | exact HB.out | apply ba_ | apply pd_ | apply d1_ | refine bs_ ?_ GE172.out | refine bs_ ?_ GE173.out) | exact HB.out)) hb); clear BK172; clear BK173; clear HB; have BK172 := n0_; have BK173 := n1_; have HB := n2_; clear n0_ n1_ n2_; (try clear hb); (try clear hb2); (try clear hk); (try clear hi); have hcz28_0 : w27.cell? ⟨gb173, 0, none⟩ = some (.int .i64 a1_0) := (kc_ BK173.out 0).trans rfl; have hcz28_1 : w27.cell? ⟨gb173, 1, none⟩ = some (.int .i64 a1_1) := (kc_ BK173.out 1).trans rfl; have hcz28_2 : w27.cell? ⟨gb173, 2, none⟩ = some (.int .i64 a1_2) := (kc_ BK173.out 2).trans rfl; have hcz28_3 : w27.cell? ⟨gb173, 3, none⟩ = some (.int .i64 a1_3) := (kc_ BK173.out 3).trans rfl; have hfz28_0 := kf_ BK173.out 0; have hfz28_1 := kf_ BK173.out 1; have hfz28_2 := kf_ BK173.out 2; have hfz28_3 := kf_ BK173.out 3) | (go_at_call 12; (with_reducible refine (box_Check.calls a1_0 a1_1 a1_2 a1_3 true _ A5.out).mono ?_); rintro e w29 ⟨rfl, hb⟩; have n0_ := sd_ (blk_below (g := gb172) (o := .cells #[.int .i64 a0_0, .int .i64 a0_1, .int .i64 a0_2, .int .i64 a0_3] 23 (0, 0)) (by (with_reducible repeat (first | refine kn_ ?_ _ | refine kd_ ?_ | refine ka_ ?_ _)); exact BK172.out) hb); have n1_ := sd_ (blk_below (g := gb173) (o := .cells #[.int .i64 a1_0, .int .i64 a1_1, .int .i64 a1_2, .int .i64 a1_3] 23 (0, 0)) (by (with_reducible repeat (first | refine kn_ ?_ _ | refine kd_ ?_ | refine ka_ ?_ _)); exact BK173.out) hb); have n2_ := sd_ (bt_ (by repeat (first | (with_reducible first | exact HB.out | apply ba_ | apply pd_ | apply d1_ | refine bs_ ?_ GE172.out | refine bs_ ?_ GE173.out) | exact HB.out)) hb); clear BK172; clear BK173; clear HB; have BK172 := n0_; have BK173 := n1_; have HB := n2_; clear n0_ n1_ n2_; (try clear hb); (try clear hb2); (try clear hk); (try clear hi); have hcz30_0 : w29.cell? ⟨gb172, 0, none⟩ = some (.int .i64 a0_0) := (kc_ BK172.out 0).trans rfl; have hcz30_1 : w29.cell? ⟨gb172, 1, none⟩ = some (.int .i64 a0_1) := (kc_ BK172.out 1).trans rfl; have hcz30_2 : w29.cell? ⟨gb172, 2, none⟩ = some (.int .i64 a0_2) := (kc_ BK172.out 2).trans rfl; have hcz30_3 : w29.cell? ⟨gb172, 3, none⟩ = some (.int .i64 a0_3) := (kc_ BK172.out 3).trans rfl; have hfz30_0 := kf_ BK172.out 0; have hfz30_1 := kf_ BK172.out 1; have hfz30_2 := kf_ BK172.out 2; have hfz30_3 := kf_ BK172.out 3; have hcz31_0 : w29.cell? ⟨gb173, 0, none⟩ = some (.int .i64 a1_0) := (kc_ BK173.out 0).trans rfl; have hcz31_1 : w29.cell? ⟨gb173, 1, none⟩ = some (.int .i64 a1_1) := (kc_ BK173.out 1).trans rfl; have hcz31_2 : w29.cell? ⟨gb173, 2, none⟩ = some (.int .i64 a1_2) := (kc_ BK173.out 2).trans rfl; have hcz31_3 : w29.cell? ⟨gb173, 3, none⟩ = some (.int .i64 a1_3) := (kc_ BK173.out 3).trans rfl; have hfz31_0 := kf_ BK173.out 0; have hfz31_1 := kf_ BK173.out 1; have hfz31_2 := kf_ BK173.out 2; have hfz31_3 := kf_ BK173.out 3) | (go_at_call 29; (with_reducible refine (box_overlap.calls a0_0 a0_2 a1_0 a1_2 false _ A7.out).mono ?_); rintro e w32 ⟨rfl, hb⟩; have n0_ := sd_ (blk_below (g := gb172) (o := .cells #[.int .i64 a0_0, .int .i64 a0_1, .int .i64 a0_2, .int .i64 a0_3] 23 (0, 0)) (by (with_reducible repeat (first | refine kn_ ?_ _ | refine kd_ ?_ | refine ka_ ?_ _)); exact BK172.out) hb); have n1_ := sd_ (blk_below (g := gb173) (o := .cells #[.int .i64 a1_0, .int .i64 a1_1, .int .i64 a1_2, .int .i64 a1_3] 23 (0, 0)) (by (with_reducible repeat (first | refine kn_ ?_ _ | refine kd_ ?_ | refine ka_ ?_ _)); exact BK173.out) hb); have n2_ := sd_ (bt_ (by repeat (first | (with_reducible first | exact HB.out | apply ba_ | apply pd_ | apply d1_ | refine bs_ ?_ GE172.out | refine bs_ ?_ GE173.out) | exact HB.out)) hb); clear BK172; clear BK173; clear HB; have BK172 := n0_; have BK173 := n1_; have HB := n2_; clear n0_ n1_ n2_; (try clear hb); (try clear hb2); (try clear hk); (try clear hi)))
    go_ret
    exact ⟨by first | rfl | (simp [errW_none, errW_some] <;> rfl) | (simp [*, errW_none, errW_some] <;> rfl), by repeat (first | (with_reducible first | exact HB.out | apply ba_ | apply pd_ | apply d1_ | refine bs_ ?_ GE172.out | refine bs_ ?_ GE173.out) | exact HB.out)⟩
  ·replace c6 := bf_ c6
   subst c6
   have H1 : (some false) = some r := by rw [if_neg (show ¬ (false = true) by decide)] at H; exact H
   clear H; have H := H1; clear H1
   obtain rfl := Option.some.inj H
   go_enter Tryd.func16, Tryd.ntmps16
   go_wp2_with (first | ((with_reducible refine gate_dst (N := 2) rfl ?_); refine box_event ?hg (N := 2) ?hd (cs := #[.int .i64 a0_0, .int .i64 a0_1, .int .i64 a0_2, .int .i64 a0_3]) (t := 23) ?hr ?_; (case hd => rfl); (case hg => rfl); (case hr => first | (go_simp; done) | (go_simp; rfl)); intro gb172 hg w33 hbox hb; have n0_ := sd_ (bt_ (by repeat (first | (with_reducible first | exact HB.out | apply ba_ | apply pd_ | apply d1_) | exact HB.out)) hb); have n1_ := sd_ (hbox); have n2_ := sd_ ((by rw [hg]; exact (bz_ (by repeat (first | (with_reducible first | exact HB.out | apply ba_ | apply pd_ | apply d1_) | exact HB.out))) : w.heap.size ≤ gb172)); have n3_ := sd_ ((by rw [hg]; exact (bz_ (by repeat (first | (with_reducible first | exact HB.out | apply ba_ | apply pd_ | apply d1_) | exact HB.out))) : w.heap.size ≤ gb172)); clear HB; have HB := n0_; have BK172 := n1_; have GW172 := n2_; have GE172 := n3_; clear n0_ n1_ n2_ n3_; clear hb hbox hg) | ((with_reducible refine gate_dst (N := 3) rfl ?_); refine box_event ?hg (N := 3) ?hd (cs := #[.int .i64 a1_0, .int .i64 a1_1, .int .i64 a1_2, .int .i64 a1_3]) (t := 23) ?hr ?_; (case hd => rfl); (case hg => rfl); (case hr => first | (go_simp; done) | (go_simp; rfl)); intro gb173 hg w34 hbox hb; have n0_ := sd_ (blk_below (g := gb172) (o := .cells #[.int .i64 a0_0, .int .i64 a0_1, .int .i64 a0_2, .int .i64 a0_3] 23 (0, 0)) (by (with_reducible repeat (first | refine kn_ ?_ _ | refine kd_ ?_ | refine ka_ ?_ _)); exact BK172.out) hb); have n1_ := sd_ (bt_ (by repeat (first | (with_reducible first | exact HB.out | apply ba_ | apply pd_ | apply d1_ | refine bs_ ?_ GE172.out) | exact HB.out)) hb); have n2_ := sd_ (hbox); have n3_ := sd_ ((by rw [hg]; exact (bz_ (by repeat (first | (with_reducible first | exact HB.out | apply ba_ | apply pd_ | apply d1_ | refine bs_ ?_ GE172.out) | exact HB.out))) : w.heap.size ≤ gb173)); have n4_ := sd_ ((by rw [hg]; exact (bz_ (by repeat (first | (with_reducible first | exact HB.out | apply ba_ | apply pd_ | apply d1_ | refine bs_ ?_ GE172.out) | exact HB.out))) : w.heap.size ≤ gb173)); have n5_ := sd_ ((by rw [hg]; exact nn_ (blk_lt (g := gb172) (o := .cells #[.int .i64 a0_0, .int .i64 a0_1, .int .i64 a0_2, .int .i64 a0_3] 23 (0, 0)) (by (with_reducible repeat (first | refine kn_ ?_ _ | refine kd_ ?_ | refine ka_ ?_ _)); exact BK172.out)) : gb172 ≠ gb173)); have n6_ := sd_ ((by rw [hg]; exact Nat.ne_of_gt (blk_lt (g := gb172) (o := .cells #[.int .i64 a0_0, .int .i64 a0_1, .int .i64 a0_2, .int .i64 a0_3] 23 (0, 0)) (by (with_reducible repeat (first | refine kn_ ?_ _ | refine kd_ ?_ | refine ka_ ?_ _)); exact BK172.out)) : gb173 ≠ gb172)); clear BK172; clear HB; have BK172 := n0_; have HB := n1_; have BK173 := n2_; have GW173 := n3_; have GE173 := n4_; have NB172_173 := n5_; have NB173_172 := n6_; clear n0_ n1_ n2_ n3_ n4_ n5_ n6_; clear hb hbox hg; have hnb35 := NB172_173.out; have hnc35 := NB173_172.out; have hcz36_0 : w34.cell? ⟨gb172, 0, none⟩ = some (.int .i64 a0_0) := (kc_ BK172.out 0).trans rfl; have hcz36_1 : w34.cell? ⟨gb172, 1, none⟩ = some (.int .i64 a0_1) := (kc_ BK172.out 1).trans rfl; have hcz36_2 : w34.cell? ⟨gb172, 2, none⟩ = some (.int .i64 a0_2) := (kc_ BK172.out 2).trans rfl; have hcz36_3 : w34.cell? ⟨gb172, 3, none⟩ = some (.int .i64 a0_3) := (kc_ BK172.out 3).trans rfl; have hfz36_0 := kf_ BK172.out 0; have hfz36_1 := kf_ BK172.out 1; have hfz36_2 := kf_ BK172.out 2; have hfz36_3 := kf_ BK172.out 3) | ((with_reducible refine gate_callee (f := 12) rfl ?_); refine goesL_ (some 6) rfl rfl Tryd.func12 (by kernel_rfl) rfl #[.agg #[.int .i64 a0_0, .int .i64 a0_1, .int .i64 a0_2, .int .i64 a0_3]] rfl (by (try simp only [lm_, lq_, lx_]); first | done | rfl | (simp only [ld_, lt_]; rfl)) ?_; (with_reducible refine (box_Check.calls a0_0 a0_1 a0_2 a0_3 true _ A3.out).mono ?_); rintro e w37 ⟨rfl, hb⟩; refine ⟨_, rfl, ?_⟩; have n0_ := sd_ (blk_below (g := gb172) (o := .cells #[.int .i64 a0_0, .int .i64 a0_1, .int .i64 a0_2, .int .i64 a0_3] 23 (0, 0)) (by (with_reducible repeat (first | refine kn_ ?_ _ | refine kd_ ?_ | refine ka_ ?_ _)); exact BK172.out) hb); have n1_ := sd_ (blk_below (g := gb173) (o := .cells #[.int .i64 a1_0, .int .i64 a1_1, .int .i64 a1_2, .int .i64 a1_3] 23 (0, 0)) (by (with_reducible repeat (first | refine kn_ ?_ _ | refine kd_ ?_ | refine ka_ ?_ _)); exact BK173.out) hb); have n2_ := sd_ (bt_ (by repeat (first | (with_reducible first | exact HB.out | apply ba_ | apply pd_ | apply d1_ | refine bs_ ?_ GE172.out | refine bs_ ?_ GE173.out) | exact HB.out)) hb); clear BK172; clear BK173; clear HB; have BK172 := n0_; have BK173 := n1_; have HB := n2_; clear n0_ n1_ n2_; (try clear hb); (try clear hb2); (try clear hk); (try clear hi); have hcz38_0 : w37.cell? ⟨gb173, 0, none⟩ = some (.int .i64 a1_0) := (kc_ BK173.out 0).trans rfl; have hcz38_1 : w37.cell? ⟨gb173, 1, none⟩ = some (.int .i64 a1_1) := (kc_ BK173.out 1).trans rfl; have hcz38_2 : w37.cell? ⟨gb173, 2, none⟩ = some (.int .i64 a1_2) := (kc_ BK173.out 2).trans rfl; have hcz38_3 : w37.cell? ⟨gb173, 3, none⟩ = some (.int .i64 a1_3) := (kc_ BK173.out 3).trans rfl; have hfz38_0 := kf_ BK173.out 0; have hfz38_1 := kf_ BK173.out 1; have hfz38_2 := kf_ BK173.out 2; have hfz38_3 := kf_ BK173.out 3) | (go_at_call 12; (with_reducible refine (box_Check.calls a1_0 a1_1 a1_2 a1_3 false _ A5.out).mono ?_); rintro e w39 ⟨rfl, hb⟩; have n0_ := sd_ (blk_below (g := gb172) (o := .cells #[.int .i64 a0_0, .int .i64 a0_1, .int .i64 a0_2, .int .i64 a0_3] 23 (0, 0)) (by (with_reducible repeat (first | refine kn_ ?_ _ | refine kd_ ?_ | refine ka_ ?_ _)); exact BK172.out) hb); have n1_ := sd_ (blk_below (g := gb173) (o := .cells #[.int .i64 a1_0, .int .i64 a1_1, .int .i64 a1_2, .int .i64 a1_3] 23 (0, 0)) (by (with_reducible repeat (first | refine kn_ ?_ _ | refine kd_ ?_ | refine ka_ ?_ _)); exact BK173.out) hb); have n2_ := sd_ (bt_ (by repeat (first | (with_reducible first | exact HB.out | apply ba_ | apply pd_ | apply d1_ | refine bs_ ?_ GE172.out | refine bs_ ?_ GE173.out) | exact HB.out)) hb); clear BK172; clear BK173; clear HB; have BK172 := n0_; have BK173 := n1_; have HB := n2_; clear n0_ n1_ n2_; (try clear hb); (try clear hb2); (try clear hk); (try clear hi)))
   go_ret
   exact ⟨by first | rfl | (simp [errW_none, errW_some] <;> rfl) | (simp [*, errW_none, errW_some] <;> rfl), by repeat (first | (with_reducible first | exact HB.out | apply ba_ | apply pd_ | apply d1_ | refine bs_ ?_ GE172.out | refine bs_ ?_ GE173.out) | exact HB.out)⟩
 ·replace c4 := bf_ c4
  subst c4
  have H1 : (some false) = some r := by rw [if_neg (show ¬ (false = true) by decide)] at H; exact H
  clear H; have H := H1; clear H1
  obtain rfl := Option.some.inj H
  go_enter Tryd.func16, Tryd.ntmps16
  go_wp2_with (first | ((with_reducible refine gate_dst (N := 2) rfl ?_); refine box_event ?hg (N := 2) ?hd (cs := #[.int .i64 a0_0, .int .i64 a0_1, .int .i64 a0_2, .int .i64 a0_3]) (t := 23) ?hr ?_; (case hd => rfl); (case hg => rfl); (case hr => first | (go_simp; done) | (go_simp; rfl)); intro gb172 hg w40 hbox hb; have n0_ := sd_ (bt_ (by repeat (first | (with_reducible first | exact HB.out | apply ba_ | apply pd_ | apply d1_) | exact HB.out)) hb); have n1_ := sd_ (hbox); have n2_ := sd_ ((by rw [hg]; exact (bz_ (by repeat (first | (with_reducible first | exact HB.out | apply ba_ | apply pd_ | apply d1_) | exact HB.out))) : w.heap.size ≤ gb172)); have n3_ := sd_ ((by rw [hg]; exact (bz_ (by repeat (first | (with_reducible first | exact HB.out | apply ba_ | apply pd_ | apply d1_) | exact HB.out))) : w.heap.size ≤ gb172)); clear HB; have HB := n0_; have BK172 := n1_; have GW172 := n2_; have GE172 := n3_; clear n0_ n1_ n2_ n3_; clear hb hbox hg) | ((with_reducible refine gate_dst (N := 3) rfl ?_); refine box_event ?hg (N := 3) ?hd (cs := #[.int .i64 a1_0, .int .i64 a1_1, .int .i64 a1_2, .int .i64 a1_3]) (t := 23) ?hr ?_; (case hd => rfl); (case hg => rfl); (case hr => first | (go_simp; done) | (go_simp; rfl)); intro gb173 hg w41 hbox hb; have n0_ := sd_ (blk_below (g := gb172) (o := .cells #[.int .i64 a0_0, .int .i64 a0_1, .int .i64 a0_2, .int .i64 a0_3] 23 (0, 0)) (by (with_reducible repeat (first | refine kn_ ?_ _ | refine kd_ ?_ | refine ka_ ?_ _)); exact BK172.out) hb); have n1_ := sd_ (bt_ (by repeat (first | (with_reducible first | exact HB.out | apply ba_ | apply pd_ | apply d1_ | refine bs_ ?_ GE172.out) | exact HB.out)) hb); have n2_ := sd_ (hbox); have n3_ := sd_ ((by rw [hg]; exact (bz_ (by repeat (first | (with_reducible first | exact HB.out | apply ba_ | apply pd_ | apply d1_ | refine bs_ ?_ GE172.out) | exact HB.out))) : w.heap.size ≤ gb173)); have n4_ := sd_ ((by rw [hg]; exact (bz_ (by repeat (first | (with_reducible first | exact HB.out | apply ba_ | apply pd_ | apply d1_ | refine bs_ ?_ GE172.out) | exact HB.out))) : w.heap.size ≤ gb173)); have n5_ := sd_ ((by rw [hg]; exact nn_ (blk_lt (g := gb172) (o := .cells #[.int .i64 a0_0, .int .i64 a0_1, .int .i64 a0_2, .int .i64 a0_3] 23 (0, 0)) (by (with_reducible repeat (first | refine kn_ ?_ _ | refine kd_ ?_ | refine ka_ ?_ _)); exact BK172.out)) : gb172 ≠ gb173)); have n6_ := sd_ ((by rw [hg]; exact Nat.ne_of_gt (blk_lt (g := gb172) (o := .cells #[.int .i64 a0_0, .int .i64 a0_1, .int .i64 a0_2, .int .i64 a0_3] 23 (0, 0)) (by (with_reducible repeat (first | refine kn_ ?_ _ | refine kd_ ?_ | refine ka_ ?_ _)); exact BK172.out)) : gb173 ≠ gb172)); clear BK172; clear HB; have BK172 := n0_; have HB := n1_; have BK173 := n2_; have GW173 := n3_; have GE173 := n4_; have NB172_173 := n5_; have NB173_172 := n6_; clear n0_ n1_ n2_ n3_ n4_ n5_ n6_; clear hb hbox hg; have hnb42 := NB172_173.out; have hnc42 := NB173_172.out; have hcz43_0 : w41.cell? ⟨gb172, 0, none⟩ = some (.int .i64 a0_0) := (kc_ BK172.out 0).trans rfl; have hcz43_1 : w41.cell? ⟨gb172, 1, none⟩ = some (.int .i64 a0_1) := (kc_ BK172.out 1).trans rfl; have hcz43_2 : w41.cell? ⟨gb172, 2, none⟩ = some (.int .i64 a0_2) := (kc_ BK172.out 2).trans rfl; have hcz43_3 : w41.cell? ⟨gb172, 3, none⟩ = some (.int .i64 a0_3) := (kc_ BK172.out 3).trans rfl; have hfz43_0 := kf_ BK172.out 0; have hfz43_1 := kf_ BK172.out 1; have hfz43_2 := kf_ BK172.out 2; have hfz43_3 := kf_ BK172.out 3) | ((with_reducible refine gate_callee (f := 12) rfl ?_); refine goesL_ (some 6) rfl rfl Tryd.func12 (by kernel_rfl) rfl #[.agg #[.int .i64 a0_0, .int .i64 a0_1, .int .i64 a0_2, .int .i64 a0_3]] rfl (by (try simp only [lm_, lq_, lx_]); first | done | rfl | (simp only [ld_, lt_]; rfl)) ?_; (with_reducible refine (box_Check.calls a0_0 a0_1 a0_2 a0_3 false _ A3.out).mono ?_); rintro e w44 ⟨rfl, hb⟩; refine ⟨_, rfl, ?_⟩; have n0_ := sd_ (blk_below (g := gb172) (o := .cells #[.int .i64 a0_0, .int .i64 a0_1, .int .i64 a0_2, .int .i64 a0_3] 23 (0, 0)) (by (with_reducible repeat (first | refine kn_ ?_ _ | refine kd_ ?_ | refine ka_ ?_ _)); exact BK172.out) hb); have n1_ := sd_ (blk_below (g := gb173) (o := .cells #[.int .i64 a1_0, .int .i64 a1_1, .int .i64 a1_2, .int .i64 a1_3] 23 (0, 0)) (by (with_reducible repeat (first | refine kn_ ?_ _ | refine kd_ ?_ | refine ka_ ?_ _)); exact BK173.out) hb); have n2_ := sd_ (bt_ (by repeat (first | (with_reducible first | exact HB.out | apply ba_ | apply pd_ | apply d1_ | refine bs_ ?_ GE172.out | refine bs_ ?_ GE173.out) | exact HB.out)) hb); clear BK172; clear BK173; clear HB; have BK172 := n0_; have BK173 := n1_; have HB := n2_; clear n0_ n1_ n2_; (try clear hb); (try clear hb2); (try clear hk); (try clear hi)))
  go_ret
  exact ⟨by first | rfl | (simp [errW_none, errW_some] <;> rfl) | (simp [*, errW_none, errW_some] <;> rfl), by repeat (first | (with_reducible first | exact HB.out | apply ba_ | apply pd_ | apply d1_ | refine bs_ ?_ GE172.out | refine bs_ ?_ GE173.out) | exact HB.out)⟩

end Go.Proofs.YteecpeggnejeaaaDoor.P
