-- Written by a program of this session (wip/tools/xprint.py, over the kit's print): Lean checks it.
import Derived.Test.YtchmcljinkemaaaPx0
import Derived.Test.YtchmcljinkemaaaPx1
import Derived.Test.YtchmcljinkemaaaPx4
import Derived.Test.YtchmcljinkemaaaPx5
import Derived.Test.YtchmcljinkemaaaPx10
namespace Go.Proofs.Ytchmcljinkemaaa.P
open Go.RowKit Go.Proofs.YtchmcljinkemaaaW.PrintWords Go.Proofs.YtchmcljinkemaaaW.PrintLast Go.Proofs.YtchmcljinkemaaaW.PrintMore
attribute [local go_sem] max2_int min2_int max_two min_two max_three min_three max_four min_four   -- for this text's walks alone
set_option linter.unusedVariables false
set_option linter.unusedSimpArgs false

/-! ### neumelaw24_VoicesLeast: function 5 -/
section
open Go.Region
variable {P : Program} {ops : Array Oper} {Q : Exit → Act → World → Prop} {md : Region.Mode} {S : World → Prop} {ds : List Nat}
theorem least_lit {ops : Array Oper} {o : Oper} {rest : List Oper} {a : Act} {W : World} (hg : o.guard = none) {N : Tmp} (_hd : o.dst = some N) {vs : Array Value} {t : TypeId} {n : Nat}
  (hr : (execOp a.eval o).run P W = .ok (.value (.slice (some ⟨W.heap.size, 0, none⟩) n n)) (W.alloc (.cells vs t)))
  (h : wpList P ops Q rest (a.put o.dst (.slice (some ⟨W.heap.size, 0, none⟩) n n)) (W.alloc (.cells vs t))) : wpList P ops Q (o :: rest) a W   := Kd.event_run hg hr h
end
theorem least_C {A : Option Addr} {c : Nat} {g : List S45} {w : World} (h : Kd.C k45 w A g.length g) (hc : g.length ≤ c) : Kd.C (Kd.slice 45 k45) (w.alloc (.cells #[.slice A g.length c] 22)) (some ⟨w.heap.size, 0, none⟩) [g].length [g] := by
 refine ⟨rfl, by simp, fun _ => ⟨_, rfl, fun j p hj => ?_⟩⟩
 have hj0 : j = 0 := by have := (List.getElem?_eq_some_iff.1 hj).1; simp at this; exact this
 subst hj0
 obtain rfl : g = p := by simpa using hj
 refine ⟨[.slice A g.length c], rfl, ⟨A, c, rfl, hc, Kd.C_alloc h _⟩, fun i u hu => ?_⟩
 have hi0 : i = 0 := by have := (List.getElem?_eq_some_iff.1 hu).1; simp at this; exact this
 subst hi0
 obtain rfl : (.slice A g.length c : Value) = u := by simpa using hu
 show (w.alloc _).cell? ((⟨w.heap.size, 0, none⟩ : Addr).add 0) = _
 simp [Addr.add]
theorem least_few (k : Nat) (A0 : Option Addr) (c0 : Nat) (l0 : List S45) (A1 : Option Addr) (g : List S45) (r : Bool) (w : World) (hr0 : Kd.C k45 w A0 l0.length l0) (hc0 : l0.length ≤ c0) (hr1 : Kd.C (Kd.slice 45 k45) w A1 [g].length [g]) (h : neumelaw24_few.f k l0 [g] = some r) :
  Calls Try.prog 6 #[.slice A0 l0.length c0, .slice A1 1 1] w fun e w' => e = .returned (.bool r) ∧ Drawn0 w w' := neumelaw24_few.calls k A0 c0 l0 A1 1 [g] r w hr0 hc0 hr1 (Nat.le_refl 1) h
def least_to (a2 : Bool) (s a3 : Int) : Int := if a2 = true then wrap64 (s - a3) else wrap64 (s + mn a3 1099511627776)
def least_tail (k : Nat) (l0 g : List S45) (s t : Int) : Option Bool := (neumelaw24_moved.f k g t).bind fun m => (neumelaw24_meet.f k l0 m).bind fun q => if q = true then ((neumelaw24_moved.f k g s).bind fun m2 => (neumelaw24_meet.f k l0 m2).bind fun q2 => if q2 = true then none else neumelaw24_heads.f k) else none
def neumelaw24_VoicesLeast.f (k : Nat) (l0 g : List S45) (a2 : Bool) (a3 : Int) : Option Bool := (neumelaw24_few.f k l0 [g]).bind fun t => if t = true then (if a3 < 1 then neumelaw24_heads.f k else (voices_Push.f k l0 g a2).bind fun bt => if bt.2 = 0 then (if bt.1 = 0 then neumelaw24_heads.f k else if -1099511627776 ≤ bt.1 ∧ bt.1 ≤ 1099511627776 then (if (if a2 = true then least_to a2 bt.1 a3 < 0 else 0 < least_to a2 bt.1 a3) then neumelaw24_heads.f k else least_tail k l0 g bt.1 (least_to a2 bt.1 a3)) else none) else neumelaw24_heads.f k) else neumelaw24_heads.f k
set_option maxHeartbeats 8000000 in
set_option maxRecDepth 100000 in
theorem neumelaw24_VoicesLeast.calls (k : Nat) (A0 : Option Addr) (c0 : Nat) (l0 : List S45) (A1 : Option Addr) (c1 : Nat) (g : List S45) (a2 : Bool) (a3 : Int) (r : Bool) (w : World) (hr0 : Kd.C k45 w A0 l0.length l0) (hc0 : l0.length ≤ c0) (hr1 : Kd.C k45 w A1 g.length g) (hc1 : g.length ≤ c1) (hxt : Aside0 (r = true)) (h : neumelaw24_VoicesLeast.f k l0 g a2 a3 = some r) :
  Calls Try.prog 5 #[.slice A0 l0.length c0, .slice A1 g.length c1, .bool a2, .int .i64 a3] w fun e w' => e = .returned (.bool r) ∧ Below w.heap.size w w' := by
 obtain rfl := hxt.out
 have HR0 := sd_ hr0
 have HC0 := sd_ hc0
 have HR1 := sd_ hr1
 have HC1 := sd_ hc1
 clear hr0 hc0 hr1 hc1 hxt
 have HB := sd_ (Below.refl w.heap.size w)
 unfold neumelaw24_VoicesLeast.f at h
 replace h := ob_ h
 obtain ⟨tf, AF0, h⟩ := h
 have AF := sd_ AF0
 clear AF0
 by_cases cf : tf = true
 rotate_left
 ·rw [if_neg cf] at h
  replace cf := bf_ cf
  subst cf
  have AH := sd_ h
  clear h
  go_enter Try.func5, Try.ntmps5
  go_wp2_with (first | ((with_reducible refine gate_dst (N := 14) rfl ?_); refine least_lit (n := 1) ?hg (N := 14) ?hd (vs := #[.slice A1 g.length c1]) (t := 22) ?hr ?_; (case hd => rfl); (case hg => rfl); (case hr => first | (go_simp; done) | (go_simp; rfl)); have HLit := sd_ (least_C HR1.out HC1.out); have HB := sd_ (ba_ HB.out (.cells #[.slice A1 g.length c1] 22))) | ((with_reducible refine gate_callee (f := 6) rfl ?_); refine goesL_ (some 15) rfl rfl Try.func6 (by kernel_rfl) rfl #[.slice A0 l0.length c0, .slice (some ⟨w.heap.size, 0, none⟩) 1 1] rfl (by (try simp only [lm_, lq_, lx_]); first | done | rfl | (simp only [ld_, lt_]; rfl)) ?_; (with_reducible refine (least_few k _ _ l0 _ g false _ ?side1 ?side2 ?side3 AF.out).mono ?_); (case side1 => (repeat (first | exact (Kd.C_below HR0.out HB.out) | (with_reducible refine Kd.C_alloc ?_ _) | (with_reducible refine Kd.C_drewN ?_ _) | (with_reducible refine Kd.C_drew ?_)))); (case side2 => exact HC0.out); (case side3 => exact HLit.out); rintro e w' ⟨rfl, ⟨nd, rfl⟩⟩; refine ⟨_, rfl, ?_⟩) | ((with_reducible refine gate_callee (f := 7) rfl ?_); refine goesL_ (some 21) rfl rfl Try.func7 (by kernel_rfl) rfl #[] rfl (by (try simp only [lm_, lq_, lx_]); first | done | rfl | (simp only [ld_, lt_]; rfl)) ?_; (with_reducible refine (neumelaw24_heads.calls k true _ AH.out).mono ?_); rintro e wh ⟨rfl, hb⟩; refine ⟨_, rfl, ?_⟩; replace HB := hb_ HB e0_ hb; clear hb))
  go_ret
  exact ⟨rfl, by repeat (first | (with_reducible first | exact HB.out | apply ba_ | apply pd_ | apply d1_) | exact HB.out)⟩
 rw [if_pos cf] at h
 subst cf
 by_cases c3 : a3 < 1
 ·rw [if_pos c3] at h
  have AH := sd_ h
  have c3b : decide (a3 < 1) = true := dt_ c3
  clear h c3
  go_enter Try.func5, Try.ntmps5
  go_wp2_with (first | ((with_reducible refine gate_dst (N := 14) rfl ?_); refine least_lit (n := 1) ?hg (N := 14) ?hd (vs := #[.slice A1 g.length c1]) (t := 22) ?hr ?_; (case hd => rfl); (case hg => rfl); (case hr => first | (go_simp; done) | (go_simp; rfl)); have HLit := sd_ (least_C HR1.out HC1.out); have HB := sd_ (ba_ HB.out (.cells #[.slice A1 g.length c1] 22))) | ((with_reducible refine gate_callee (f := 6) rfl ?_); refine goesL_ (some 15) rfl rfl Try.func6 (by kernel_rfl) rfl #[.slice A0 l0.length c0, .slice (some ⟨w.heap.size, 0, none⟩) 1 1] rfl (by (try simp only [lm_, lq_, lx_]); first | done | rfl | (simp only [ld_, lt_]; rfl)) ?_; (with_reducible refine (least_few k _ _ l0 _ g true _ ?side1 ?side2 ?side3 AF.out).mono ?_); (case side1 => (repeat (first | exact (Kd.C_below HR0.out HB.out) | (with_reducible refine Kd.C_alloc ?_ _) | (with_reducible refine Kd.C_drewN ?_ _) | (with_reducible refine Kd.C_drew ?_)))); (case side2 => exact HC0.out); (case side3 => exact HLit.out); rintro e w' ⟨rfl, ⟨nd, rfl⟩⟩; refine ⟨_, rfl, ?_⟩) | ((with_reducible refine gate_callee (f := 7) rfl ?_); refine goesL_ (some 21) rfl rfl Try.func7 (by kernel_rfl) rfl #[] rfl (by (try simp only [lm_, lq_, lx_]); first | done | rfl | (simp only [ld_, lt_]; rfl)) ?_; (with_reducible refine (neumelaw24_heads.calls k true _ AH.out).mono ?_); rintro e wh ⟨rfl, hb⟩; refine ⟨_, rfl, ?_⟩; replace HB := hb_ HB e0_ hb; clear hb))
  go_ret
  exact ⟨rfl, by repeat (first | (with_reducible first | exact HB.out | apply ba_ | apply pd_ | apply d1_) | exact HB.out)⟩
 rw [if_neg c3] at h
 have c3b : decide (a3 < 1) = false := df_ c3
 clear c3
 replace h := ob_ h
 obtain ⟨⟨s, q⟩, AP0, h⟩ := h
 have AP := sd_ AP0
 clear AP0
 by_cases cq : q = 0
 rotate_left
 ·rw [if_neg cq] at h
  have AH := sd_ h
  have cqb : (q != 0) = true := bne_iff_ne.mpr cq
  clear h cq
  go_enter Try.func5, Try.ntmps5
  go_wp2_with (first | ((with_reducible refine gate_dst (N := 14) rfl ?_); refine least_lit (n := 1) ?hg (N := 14) ?hd (vs := #[.slice A1 g.length c1]) (t := 22) ?hr ?_; (case hd => rfl); (case hg => rfl); (case hr => first | (go_simp; done) | (go_simp; rfl)); have HLit := sd_ (least_C HR1.out HC1.out); have HB := sd_ (ba_ HB.out (.cells #[.slice A1 g.length c1] 22))) | ((with_reducible refine gate_callee (f := 6) rfl ?_); refine goesL_ (some 15) rfl rfl Try.func6 (by kernel_rfl) rfl #[.slice A0 l0.length c0, .slice (some ⟨w.heap.size, 0, none⟩) 1 1] rfl (by (try simp only [lm_, lq_, lx_]); first | done | rfl | (simp only [ld_, lt_]; rfl)) ?_; (with_reducible refine (least_few k _ _ l0 _ g true _ ?side1 ?side2 ?side3 AF.out).mono ?_); (case side1 => (repeat (first | exact (Kd.C_below HR0.out HB.out) | (with_reducible refine Kd.C_alloc ?_ _) | (with_reducible refine Kd.C_drewN ?_ _) | (with_reducible refine Kd.C_drew ?_)))); (case side2 => exact HC0.out); (case side3 => exact HLit.out); rintro e w' ⟨rfl, ⟨nd, rfl⟩⟩; refine ⟨_, rfl, ?_⟩) | ((with_reducible refine gate_callee (f := 13) rfl ?_); refine goesL_ (some 26) rfl rfl Try.func13 (by kernel_rfl) rfl #[.slice A0 l0.length c0, .slice A1 g.length c1, .bool a2] rfl (by (try simp only [lm_, lq_, lx_]); first | done | rfl | (simp only [ld_, lt_]; rfl)) ?_; (with_reducible refine (voices_Push.calls k _ _ l0 _ _ g a2 s q _ ?side1 ?side2 ?side3 ?side4 AP.out).mono ?_); (case side1 => (repeat (first | exact (Kd.C_below HR0.out HB.out) | (with_reducible refine Kd.C_alloc ?_ _) | (with_reducible refine Kd.C_drewN ?_ _) | (with_reducible refine Kd.C_drew ?_)))); (case side2 => exact HC0.out); (case side3 => (repeat (first | exact (Kd.C_below HR1.out HB.out) | (with_reducible refine Kd.C_alloc ?_ _) | (with_reducible refine Kd.C_drewN ?_ _) | (with_reducible refine Kd.C_drew ?_)))); (case side4 => exact HC1.out); rintro e wp ⟨rfl, hb⟩; refine ⟨_, rfl, ?_⟩; replace HB := hb_ HB e0_ hb; clear hb) | ((with_reducible refine gate_callee (f := 7) rfl ?_); refine goesL_ (some 35) rfl rfl Try.func7 (by kernel_rfl) rfl #[] rfl (by (try simp only [lm_, lq_, lx_]); first | done | rfl | (simp only [ld_, lt_]; rfl)) ?_; (with_reducible refine (neumelaw24_heads.calls k true _ AH.out).mono ?_); rintro e wh ⟨rfl, hb⟩; refine ⟨_, rfl, ?_⟩; replace HB := hb_ HB e0_ hb; clear hb))
  go_ret
  exact ⟨rfl, by repeat (first | (with_reducible first | exact HB.out | apply ba_ | apply pd_ | apply d1_) | exact HB.out)⟩
 rw [if_pos cq] at h
 have cqb : (q != 0) = false := bne_eq_false_iff_eq.mpr cq
 clear cq
 by_cases cs : s = 0
 ·rw [if_pos cs] at h
  have AH := sd_ h
  have csb : (s == 0) = true := beq_iff_eq.mpr cs
  clear h cs
  go_enter Try.func5, Try.ntmps5
  go_wp2_with (first | ((with_reducible refine gate_dst (N := 14) rfl ?_); refine least_lit (n := 1) ?hg (N := 14) ?hd (vs := #[.slice A1 g.length c1]) (t := 22) ?hr ?_; (case hd => rfl); (case hg => rfl); (case hr => first | (go_simp; done) | (go_simp; rfl)); have HLit := sd_ (least_C HR1.out HC1.out); have HB := sd_ (ba_ HB.out (.cells #[.slice A1 g.length c1] 22))) | ((with_reducible refine gate_callee (f := 6) rfl ?_); refine goesL_ (some 15) rfl rfl Try.func6 (by kernel_rfl) rfl #[.slice A0 l0.length c0, .slice (some ⟨w.heap.size, 0, none⟩) 1 1] rfl (by (try simp only [lm_, lq_, lx_]); first | done | rfl | (simp only [ld_, lt_]; rfl)) ?_; (with_reducible refine (least_few k _ _ l0 _ g true _ ?side1 ?side2 ?side3 AF.out).mono ?_); (case side1 => (repeat (first | exact (Kd.C_below HR0.out HB.out) | (with_reducible refine Kd.C_alloc ?_ _) | (with_reducible refine Kd.C_drewN ?_ _) | (with_reducible refine Kd.C_drew ?_)))); (case side2 => exact HC0.out); (case side3 => exact HLit.out); rintro e w' ⟨rfl, ⟨nd, rfl⟩⟩; refine ⟨_, rfl, ?_⟩) | ((with_reducible refine gate_callee (f := 13) rfl ?_); refine goesL_ (some 26) rfl rfl Try.func13 (by kernel_rfl) rfl #[.slice A0 l0.length c0, .slice A1 g.length c1, .bool a2] rfl (by (try simp only [lm_, lq_, lx_]); first | done | rfl | (simp only [ld_, lt_]; rfl)) ?_; (with_reducible refine (voices_Push.calls k _ _ l0 _ _ g a2 s q _ ?side1 ?side2 ?side3 ?side4 AP.out).mono ?_); (case side1 => (repeat (first | exact (Kd.C_below HR0.out HB.out) | (with_reducible refine Kd.C_alloc ?_ _) | (with_reducible refine Kd.C_drewN ?_ _) | (with_reducible refine Kd.C_drew ?_)))); (case side2 => exact HC0.out); (case side3 => (repeat (first | exact (Kd.C_below HR1.out HB.out) | (with_reducible refine Kd.C_alloc ?_ _) | (with_reducible refine Kd.C_drewN ?_ _) | (with_reducible refine Kd.C_drew ?_)))); (case side4 => exact HC1.out); rintro e wp ⟨rfl, hb⟩; refine ⟨_, rfl, ?_⟩; replace HB := hb_ HB e0_ hb; clear hb) | ((with_reducible refine gate_callee (f := 7) rfl ?_); refine goesL_ (some 35) rfl rfl Try.func7 (by kernel_rfl) rfl #[] rfl (by (try simp only [lm_, lq_, lx_]); first | done | rfl | (simp only [ld_, lt_]; rfl)) ?_; (with_reducible refine (neumelaw24_heads.calls k true _ AH.out).mono ?_); rintro e wh ⟨rfl, hb⟩; refine ⟨_, rfl, ?_⟩; replace HB := hb_ HB e0_ hb; clear hb))
  go_ret
  exact ⟨rfl, by repeat (first | (with_reducible first | exact HB.out | apply ba_ | apply pd_ | apply d1_) | exact HB.out)⟩
 rw [if_neg cs] at h
 have csb : (s == 0) = false := beq_eq_false_iff_ne.mpr cs
 clear cs
 by_cases cr : -1099511627776 ≤ s ∧ s ≤ 1099511627776
 rotate_left
 ·rw [if_neg cr] at h
  cases h
 rw [if_pos cr] at h
 obtain ⟨cr1, cr2⟩ := cr
 have cr1b : decide (s < -1099511627776) = false := df_ (by omega)
 have cr2b : decide (s > 1099511627776) = false := df_ (by omega)
 have cr3b : decide (-1099511627776 ≤ s) = true := dt_ cr1
 have cr4b : decide (s ≤ 1099511627776) = true := dt_ cr2
 clear cr1 cr2
 unfold least_to at h
 cases a2 with
 | true =>
  simp only [if_pos] at h
  by_cases ct : wrap64 (s - a3) < 0
  ·rw [if_pos (by first | exact ct | simpa using ct)] at h
   have AH := sd_ h
   have ctb : decide (wrap64 (s - a3) < 0) = true := dt_ ct
   clear h ct
   go_enter Try.func5, Try.ntmps5
   go_wp2_with (first | ((with_reducible refine gate_dst (N := 14) rfl ?_); refine least_lit (n := 1) ?hg (N := 14) ?hd (vs := #[.slice A1 g.length c1]) (t := 22) ?hr ?_; (case hd => rfl); (case hg => rfl); (case hr => first | (go_simp; done) | (go_simp; rfl)); have HLit := sd_ (least_C HR1.out HC1.out); have HB := sd_ (ba_ HB.out (.cells #[.slice A1 g.length c1] 22))) | ((with_reducible refine gate_callee (f := 6) rfl ?_); refine goesL_ (some 15) rfl rfl Try.func6 (by kernel_rfl) rfl #[.slice A0 l0.length c0, .slice (some ⟨w.heap.size, 0, none⟩) 1 1] rfl (by (try simp only [lm_, lq_, lx_]); first | done | rfl | (simp only [ld_, lt_]; rfl)) ?_; (with_reducible refine (least_few k _ _ l0 _ g true _ ?side1 ?side2 ?side3 AF.out).mono ?_); (case side1 => (repeat (first | exact (Kd.C_below HR0.out HB.out) | (with_reducible refine Kd.C_alloc ?_ _) | (with_reducible refine Kd.C_drewN ?_ _) | (with_reducible refine Kd.C_drew ?_)))); (case side2 => exact HC0.out); (case side3 => exact HLit.out); rintro e w' ⟨rfl, ⟨nd, rfl⟩⟩; refine ⟨_, rfl, ?_⟩) | ((with_reducible refine gate_callee (f := 13) rfl ?_); refine goesL_ (some 26) rfl rfl Try.func13 (by kernel_rfl) rfl #[.slice A0 l0.length c0, .slice A1 g.length c1, .bool true] rfl (by (try simp only [lm_, lq_, lx_]); first | done | rfl | (simp only [ld_, lt_]; rfl)) ?_; (with_reducible refine (voices_Push.calls k _ _ l0 _ _ g true s q _ ?side1 ?side2 ?side3 ?side4 AP.out).mono ?_); (case side1 => (repeat (first | exact (Kd.C_below HR0.out HB.out) | (with_reducible refine Kd.C_alloc ?_ _) | (with_reducible refine Kd.C_drewN ?_ _) | (with_reducible refine Kd.C_drew ?_)))); (case side2 => exact HC0.out); (case side3 => (repeat (first | exact (Kd.C_below HR1.out HB.out) | (with_reducible refine Kd.C_alloc ?_ _) | (with_reducible refine Kd.C_drewN ?_ _) | (with_reducible refine Kd.C_drew ?_)))); (case side4 => exact HC1.out); rintro e wp ⟨rfl, hb⟩; refine ⟨_, rfl, ?_⟩; replace HB := hb_ HB e0_ hb; clear hb) | (go_at_call 7; (with_reducible refine (neumelaw24_heads.calls k true _ AH.out).mono ?_); rintro e wh ⟨rfl, hb⟩; replace HB := hb_ HB e0_ hb; clear hb))
   go_ret
   exact ⟨rfl, by repeat (first | (with_reducible first | exact HB.out | apply ba_ | apply pd_ | apply d1_) | exact HB.out)⟩
  rw [if_neg (by first | exact ct | simpa using ct)] at h
  have ctb : decide (wrap64 (s - a3) < 0) = false := df_ ct
  clear ct
  unfold least_tail at h
  replace h := ob_ h
  obtain ⟨m, AM0, h⟩ := h
  have AM := sd_ AM0
  clear AM0
  replace h := ob_ h
  obtain ⟨qa, AN0, h⟩ := h
  have AN := sd_ AN0
  clear AN0
  by_cases ca : qa = true
  rotate_left
  ·rw [if_neg ca] at h
   cases h
  subst ca
  rw [if_pos rfl] at h
  replace h := ob_ h
  obtain ⟨m2, AM20, h⟩ := h
  have AM2 := sd_ AM20
  clear AM20
  replace h := ob_ h
  obtain ⟨qb, AN20, h⟩ := h
  have AN2 := sd_ AN20
  clear AN20
  by_cases cb : qb = true
  ·rw [if_pos cb] at h
   cases h
  rw [if_neg cb] at h
  replace cb := bf_ cb
  subst cb
  have AH := sd_ h
  clear h
  go_enter Try.func5, Try.ntmps5
  go_wp2_with (first | ((with_reducible refine gate_dst (N := 14) rfl ?_); refine least_lit (n := 1) ?hg (N := 14) ?hd (vs := #[.slice A1 g.length c1]) (t := 22) ?hr ?_; (case hd => rfl); (case hg => rfl); (case hr => first | (go_simp; done) | (go_simp; rfl)); have HLit := sd_ (least_C HR1.out HC1.out); have HB := sd_ (ba_ HB.out (.cells #[.slice A1 g.length c1] 22))) | ((with_reducible refine gate_callee (f := 6) rfl ?_); refine goesL_ (some 15) rfl rfl Try.func6 (by kernel_rfl) rfl #[.slice A0 l0.length c0, .slice (some ⟨w.heap.size, 0, none⟩) 1 1] rfl (by (try simp only [lm_, lq_, lx_]); first | done | rfl | (simp only [ld_, lt_]; rfl)) ?_; (with_reducible refine (least_few k _ _ l0 _ g true _ ?side1 ?side2 ?side3 AF.out).mono ?_); (case side1 => (repeat (first | exact (Kd.C_below HR0.out HB.out) | (with_reducible refine Kd.C_alloc ?_ _) | (with_reducible refine Kd.C_drewN ?_ _) | (with_reducible refine Kd.C_drew ?_)))); (case side2 => exact HC0.out); (case side3 => exact HLit.out); rintro e w' ⟨rfl, ⟨nd, rfl⟩⟩; refine ⟨_, rfl, ?_⟩) | ((with_reducible refine gate_callee (f := 13) rfl ?_); refine goesL_ (some 26) rfl rfl Try.func13 (by kernel_rfl) rfl #[.slice A0 l0.length c0, .slice A1 g.length c1, .bool true] rfl (by (try simp only [lm_, lq_, lx_]); first | done | rfl | (simp only [ld_, lt_]; rfl)) ?_; (with_reducible refine (voices_Push.calls k _ _ l0 _ _ g true s q _ ?side1 ?side2 ?side3 ?side4 AP.out).mono ?_); (case side1 => (repeat (first | exact (Kd.C_below HR0.out HB.out) | (with_reducible refine Kd.C_alloc ?_ _) | (with_reducible refine Kd.C_drewN ?_ _) | (with_reducible refine Kd.C_drew ?_)))); (case side2 => exact HC0.out); (case side3 => (repeat (first | exact (Kd.C_below HR1.out HB.out) | (with_reducible refine Kd.C_alloc ?_ _) | (with_reducible refine Kd.C_drewN ?_ _) | (with_reducible refine Kd.C_drew ?_)))); (case side4 => exact HC1.out); rintro e wp ⟨rfl, hb⟩; refine ⟨_, rfl, ?_⟩; replace HB := hb_ HB e0_ hb; clear hb) | ((with_reducible refine gate_dst (N := 78) rfl ?_); (with_reducible refine gate_callee (f := 17) rfl ?_); refine goesL_ (some 78) rfl rfl Try.func17 (by kernel_rfl) rfl #[.slice A1 g.length c1, .int .i64 (wrap64 (s - a3))] rfl (by (try simp only [lm_, lq_, lx_]); first | done | rfl | (simp only [ld_, lt_]; rfl)) ?_; (with_reducible refine (neumelaw24_moved.calls k _ _ g (wrap64 (s - a3)) m _ ?side1 ?side2 AM.out).mono ?_); (case side1 => (repeat (first | exact (Kd.C_below HR1.out HB.out) | (with_reducible refine Kd.C_alloc ?_ _) | (with_reducible refine Kd.C_drewN ?_ _) | (with_reducible refine Kd.C_drew ?_)))); (case side2 => exact HC1.out); rintro e wm1 ⟨vm, rfl, ho, hb⟩; refine ⟨_, rfl, ?_⟩; replace HB := hb_ HB e0_ hb; clear hb; have HO1 := sd_ ho; clear ho; obtain ⟨Ao1, co1, eo⟩ := Kd.R_slice HO1.out; subst eo) | ((with_reducible refine gate_dst (N := 79) rfl ?_); (with_reducible refine gate_callee (f := 18) rfl ?_); refine goesL_ (some 79) rfl rfl Try.func18 (by kernel_rfl) rfl #[.slice A0 l0.length c0, .slice Ao1 m.length co1] rfl (by (try simp only [lm_, lq_, lx_]); first | done | rfl | (simp only [ld_, lt_]; rfl)) ?_; (with_reducible refine (neumelaw24_meet.calls k _ _ l0 _ _ m true _ ?side1 ?side2 ?side3 ?side4 AN.out).mono ?_); (case side1 => (repeat (first | exact (Kd.C_below HR0.out HB.out) | (with_reducible refine Kd.C_alloc ?_ _) | (with_reducible refine Kd.C_drewN ?_ _) | (with_reducible refine Kd.C_drew ?_)))); (case side2 => exact HC0.out); (case side3 => (repeat (first | exact (Kd.R_reads' HO1.out).2.2 | (with_reducible refine Kd.C_alloc ?_ _) | (with_reducible refine Kd.C_drewN ?_ _) | (with_reducible refine Kd.C_drew ?_)))); (case side4 => exact (Kd.R_reads' HO1.out).2.1); rintro e we1 ⟨rfl, hb⟩; refine ⟨_, rfl, ?_⟩; replace HB := hb_ HB e0_ hb; clear hb) | (go_at_call 17; (with_reducible refine (neumelaw24_moved.calls k _ _ g s m2 _ ?side1 ?side2 AM2.out).mono ?_); (case side1 => (repeat (first | exact (Kd.C_below HR1.out HB.out) | (with_reducible refine Kd.C_alloc ?_ _) | (with_reducible refine Kd.C_drewN ?_ _) | (with_reducible refine Kd.C_drew ?_)))); (case side2 => exact HC1.out); rintro e wm2 ⟨vm, rfl, ho, hb⟩; replace HB := hb_ HB e0_ hb; clear hb; have HO2 := sd_ ho; clear ho; obtain ⟨Ao2, co2, eo⟩ := Kd.R_slice HO2.out; subst eo) | (go_at_call 18; (with_reducible refine (neumelaw24_meet.calls k _ _ l0 _ _ m2 false _ ?side1 ?side2 ?side3 ?side4 AN2.out).mono ?_); (case side1 => (repeat (first | exact (Kd.C_below HR0.out HB.out) | (with_reducible refine Kd.C_alloc ?_ _) | (with_reducible refine Kd.C_drewN ?_ _) | (with_reducible refine Kd.C_drew ?_)))); (case side2 => exact HC0.out); (case side3 => (repeat (first | exact (Kd.R_reads' HO2.out).2.2 | (with_reducible refine Kd.C_alloc ?_ _) | (with_reducible refine Kd.C_drewN ?_ _) | (with_reducible refine Kd.C_drew ?_)))); (case side4 => exact (Kd.R_reads' HO2.out).2.1); rintro e we2 ⟨rfl, hb⟩; replace HB := hb_ HB e0_ hb; clear hb) | (go_at_call 7; (with_reducible refine (neumelaw24_heads.calls k true _ AH.out).mono ?_); rintro e wh ⟨rfl, hb⟩; replace HB := hb_ HB e0_ hb; clear hb))
  go_ret
  exact ⟨rfl, by repeat (first | (with_reducible first | exact HB.out | apply ba_ | apply pd_ | apply d1_) | exact HB.out)⟩
 | false =>
  simp only [Bool.false_eq_true, if_neg, not_false_eq_true] at h
  obtain ⟨jm, hjm⟩ : ∃ j_ : Int, mn a3 1099511627776 = j_ := ⟨_, rfl⟩
  rw [hjm] at h
  have hjm_ : (if 1099511627776 < a3 then 1099511627776 else a3) = jm := hjm
  clear hjm
  by_cases ct : 0 < wrap64 (s + jm)
  ·rw [if_pos (by first | exact ct | simpa using ct)] at h
   have AH := sd_ h
   have ctb : decide (wrap64 (s + jm) > 0) = true := dt_ ct
   clear h ct
   go_enter Try.func5, Try.ntmps5
   go_wp2_with (first | ((with_reducible refine gate_dst (N := 14) rfl ?_); refine least_lit (n := 1) ?hg (N := 14) ?hd (vs := #[.slice A1 g.length c1]) (t := 22) ?hr ?_; (case hd => rfl); (case hg => rfl); (case hr => first | (go_simp; done) | (go_simp; rfl)); have HLit := sd_ (least_C HR1.out HC1.out); have HB := sd_ (ba_ HB.out (.cells #[.slice A1 g.length c1] 22))) | ((with_reducible refine gate_callee (f := 6) rfl ?_); refine goesL_ (some 15) rfl rfl Try.func6 (by kernel_rfl) rfl #[.slice A0 l0.length c0, .slice (some ⟨w.heap.size, 0, none⟩) 1 1] rfl (by (try simp only [lm_, lq_, lx_]); first | done | rfl | (simp only [ld_, lt_]; rfl)) ?_; (with_reducible refine (least_few k _ _ l0 _ g true _ ?side1 ?side2 ?side3 AF.out).mono ?_); (case side1 => (repeat (first | exact (Kd.C_below HR0.out HB.out) | (with_reducible refine Kd.C_alloc ?_ _) | (with_reducible refine Kd.C_drewN ?_ _) | (with_reducible refine Kd.C_drew ?_)))); (case side2 => exact HC0.out); (case side3 => exact HLit.out); rintro e w' ⟨rfl, ⟨nd, rfl⟩⟩; refine ⟨_, rfl, ?_⟩) | ((with_reducible refine gate_callee (f := 13) rfl ?_); refine goesL_ (some 26) rfl rfl Try.func13 (by kernel_rfl) rfl #[.slice A0 l0.length c0, .slice A1 g.length c1, .bool false] rfl (by (try simp only [lm_, lq_, lx_]); first | done | rfl | (simp only [ld_, lt_]; rfl)) ?_; (with_reducible refine (voices_Push.calls k _ _ l0 _ _ g false s q _ ?side1 ?side2 ?side3 ?side4 AP.out).mono ?_); (case side1 => (repeat (first | exact (Kd.C_below HR0.out HB.out) | (with_reducible refine Kd.C_alloc ?_ _) | (with_reducible refine Kd.C_drewN ?_ _) | (with_reducible refine Kd.C_drew ?_)))); (case side2 => exact HC0.out); (case side3 => (repeat (first | exact (Kd.C_below HR1.out HB.out) | (with_reducible refine Kd.C_alloc ?_ _) | (with_reducible refine Kd.C_drewN ?_ _) | (with_reducible refine Kd.C_drew ?_)))); (case side4 => exact HC1.out); rintro e wp ⟨rfl, hb⟩; refine ⟨_, rfl, ?_⟩; replace HB := hb_ HB e0_ hb; clear hb) | (go_at_call 7; (with_reducible refine (neumelaw24_heads.calls k true _ AH.out).mono ?_); rintro e wh ⟨rfl, hb⟩; replace HB := hb_ HB e0_ hb; clear hb))
   go_ret
   exact ⟨rfl, by repeat (first | (with_reducible first | exact HB.out | apply ba_ | apply pd_ | apply d1_) | exact HB.out)⟩
  rw [if_neg (by first | exact ct | simpa using ct)] at h
  have ctb : decide (wrap64 (s + jm) > 0) = false := df_ ct
  clear ct
  unfold least_tail at h
  replace h := ob_ h
  obtain ⟨m, AM0, h⟩ := h
  have AM := sd_ AM0
  clear AM0
  replace h := ob_ h
  obtain ⟨qa, AN0, h⟩ := h
  have AN := sd_ AN0
  clear AN0
  by_cases ca : qa = true
  rotate_left
  ·rw [if_neg ca] at h
   cases h
  subst ca
  rw [if_pos rfl] at h
  replace h := ob_ h
  obtain ⟨m2, AM20, h⟩ := h
  have AM2 := sd_ AM20
  clear AM20
  replace h := ob_ h
  obtain ⟨qb, AN20, h⟩ := h
  have AN2 := sd_ AN20
  clear AN20
  by_cases cb : qb = true
  ·rw [if_pos cb] at h
   cases h
  rw [if_neg cb] at h
  replace cb := bf_ cb
  subst cb
  have AH := sd_ h
  clear h
  go_enter Try.func5, Try.ntmps5
  go_wp2_with (first | ((with_reducible refine gate_dst (N := 14) rfl ?_); refine least_lit (n := 1) ?hg (N := 14) ?hd (vs := #[.slice A1 g.length c1]) (t := 22) ?hr ?_; (case hd => rfl); (case hg => rfl); (case hr => first | (go_simp; done) | (go_simp; rfl)); have HLit := sd_ (least_C HR1.out HC1.out); have HB := sd_ (ba_ HB.out (.cells #[.slice A1 g.length c1] 22))) | ((with_reducible refine gate_callee (f := 6) rfl ?_); refine goesL_ (some 15) rfl rfl Try.func6 (by kernel_rfl) rfl #[.slice A0 l0.length c0, .slice (some ⟨w.heap.size, 0, none⟩) 1 1] rfl (by (try simp only [lm_, lq_, lx_]); first | done | rfl | (simp only [ld_, lt_]; rfl)) ?_; (with_reducible refine (least_few k _ _ l0 _ g true _ ?side1 ?side2 ?side3 AF.out).mono ?_); (case side1 => (repeat (first | exact (Kd.C_below HR0.out HB.out) | (with_reducible refine Kd.C_alloc ?_ _) | (with_reducible refine Kd.C_drewN ?_ _) | (with_reducible refine Kd.C_drew ?_)))); (case side2 => exact HC0.out); (case side3 => exact HLit.out); rintro e w' ⟨rfl, ⟨nd, rfl⟩⟩; refine ⟨_, rfl, ?_⟩) | ((with_reducible refine gate_callee (f := 13) rfl ?_); refine goesL_ (some 26) rfl rfl Try.func13 (by kernel_rfl) rfl #[.slice A0 l0.length c0, .slice A1 g.length c1, .bool false] rfl (by (try simp only [lm_, lq_, lx_]); first | done | rfl | (simp only [ld_, lt_]; rfl)) ?_; (with_reducible refine (voices_Push.calls k _ _ l0 _ _ g false s q _ ?side1 ?side2 ?side3 ?side4 AP.out).mono ?_); (case side1 => (repeat (first | exact (Kd.C_below HR0.out HB.out) | (with_reducible refine Kd.C_alloc ?_ _) | (with_reducible refine Kd.C_drewN ?_ _) | (with_reducible refine Kd.C_drew ?_)))); (case side2 => exact HC0.out); (case side3 => (repeat (first | exact (Kd.C_below HR1.out HB.out) | (with_reducible refine Kd.C_alloc ?_ _) | (with_reducible refine Kd.C_drewN ?_ _) | (with_reducible refine Kd.C_drew ?_)))); (case side4 => exact HC1.out); rintro e wp ⟨rfl, hb⟩; refine ⟨_, rfl, ?_⟩; replace HB := hb_ HB e0_ hb; clear hb) | ((with_reducible refine gate_dst (N := 78) rfl ?_); (with_reducible refine gate_callee (f := 17) rfl ?_); refine goesL_ (some 78) rfl rfl Try.func17 (by kernel_rfl) rfl #[.slice A1 g.length c1, .int .i64 (wrap64 (s + jm))] rfl (by (try simp only [lm_, lq_, lx_]); first | done | rfl | (simp only [ld_, lt_]; rfl)) ?_; (with_reducible refine (neumelaw24_moved.calls k _ _ g (wrap64 (s + jm)) m _ ?side1 ?side2 AM.out).mono ?_); (case side1 => (repeat (first | exact (Kd.C_below HR1.out HB.out) | (with_reducible refine Kd.C_alloc ?_ _) | (with_reducible refine Kd.C_drewN ?_ _) | (with_reducible refine Kd.C_drew ?_)))); (case side2 => exact HC1.out); rintro e wm1 ⟨vm, rfl, ho, hb⟩; refine ⟨_, rfl, ?_⟩; replace HB := hb_ HB e0_ hb; clear hb; have HO1 := sd_ ho; clear ho; obtain ⟨Ao1, co1, eo⟩ := Kd.R_slice HO1.out; subst eo) | ((with_reducible refine gate_dst (N := 79) rfl ?_); (with_reducible refine gate_callee (f := 18) rfl ?_); refine goesL_ (some 79) rfl rfl Try.func18 (by kernel_rfl) rfl #[.slice A0 l0.length c0, .slice Ao1 m.length co1] rfl (by (try simp only [lm_, lq_, lx_]); first | done | rfl | (simp only [ld_, lt_]; rfl)) ?_; (with_reducible refine (neumelaw24_meet.calls k _ _ l0 _ _ m true _ ?side1 ?side2 ?side3 ?side4 AN.out).mono ?_); (case side1 => (repeat (first | exact (Kd.C_below HR0.out HB.out) | (with_reducible refine Kd.C_alloc ?_ _) | (with_reducible refine Kd.C_drewN ?_ _) | (with_reducible refine Kd.C_drew ?_)))); (case side2 => exact HC0.out); (case side3 => (repeat (first | exact (Kd.R_reads' HO1.out).2.2 | (with_reducible refine Kd.C_alloc ?_ _) | (with_reducible refine Kd.C_drewN ?_ _) | (with_reducible refine Kd.C_drew ?_)))); (case side4 => exact (Kd.R_reads' HO1.out).2.1); rintro e we1 ⟨rfl, hb⟩; refine ⟨_, rfl, ?_⟩; replace HB := hb_ HB e0_ hb; clear hb) | (go_at_call 17; (with_reducible refine (neumelaw24_moved.calls k _ _ g s m2 _ ?side1 ?side2 AM2.out).mono ?_); (case side1 => (repeat (first | exact (Kd.C_below HR1.out HB.out) | (with_reducible refine Kd.C_alloc ?_ _) | (with_reducible refine Kd.C_drewN ?_ _) | (with_reducible refine Kd.C_drew ?_)))); (case side2 => exact HC1.out); rintro e wm2 ⟨vm, rfl, ho, hb⟩; replace HB := hb_ HB e0_ hb; clear hb; have HO2 := sd_ ho; clear ho; obtain ⟨Ao2, co2, eo⟩ := Kd.R_slice HO2.out; subst eo) | (go_at_call 18; (with_reducible refine (neumelaw24_meet.calls k _ _ l0 _ _ m2 false _ ?side1 ?side2 ?side3 ?side4 AN2.out).mono ?_); (case side1 => (repeat (first | exact (Kd.C_below HR0.out HB.out) | (with_reducible refine Kd.C_alloc ?_ _) | (with_reducible refine Kd.C_drewN ?_ _) | (with_reducible refine Kd.C_drew ?_)))); (case side2 => exact HC0.out); (case side3 => (repeat (first | exact (Kd.R_reads' HO2.out).2.2 | (with_reducible refine Kd.C_alloc ?_ _) | (with_reducible refine Kd.C_drewN ?_ _) | (with_reducible refine Kd.C_drew ?_)))); (case side4 => exact (Kd.R_reads' HO2.out).2.1); rintro e we2 ⟨rfl, hb⟩; replace HB := hb_ HB e0_ hb; clear hb) | (go_at_call 7; (with_reducible refine (neumelaw24_heads.calls k true _ AH.out).mono ?_); rintro e wh ⟨rfl, hb⟩; replace HB := hb_ HB e0_ hb; clear hb))
  go_ret
  exact ⟨rfl, by repeat (first | (with_reducible first | exact HB.out | apply ba_ | apply pd_ | apply d1_) | exact HB.out)⟩

end Go.Proofs.Ytchmcljinkemaaa.P
