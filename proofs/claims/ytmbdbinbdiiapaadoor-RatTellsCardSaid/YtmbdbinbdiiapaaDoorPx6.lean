-- Written by a program of this session (wip/tools/xprint.py, over the kit's print): Lean checks it.
import Derived.Test.YtmbdbinbdiiapaaDoorPx0
import Derived.Test.YtmbdbinbdiiapaaDoorPx1
import Derived.Test.YtmbdbinbdiiapaaDoorPx2
import Derived.Test.YtmbdbinbdiiapaaDoorPx3
import Derived.Test.YtmbdbinbdiiapaaDoorPx4
import Derived.Test.YtmbdbinbdiiapaaDoorPx5
namespace Go.Proofs.YtmbdbinbdiiapaaDoor.P
open Go.RowKit Go.Proofs.YtmbdbinbdiiapaaDoorW.PrintWords Go.Proofs.YtmbdbinbdiiapaaDoorW.PrintLast Go.Proofs.YtmbdbinbdiiapaaDoorW.PrintMore
attribute [local go_sem] max2_int min2_int max_two min_two max_three min_three max_four min_four   -- for this text's walks alone
set_option linter.unusedVariables false
set_option linter.unusedSimpArgs false

attribute [local go_sem high] eqA23
/-! ### rat_Text: function 27 -/
def rat_Text.f (k : Nat) (a0_0 : Int) (a0_1 : Int) : Option (ByteArray) := (rat_Check.f k a0_0 a0_1).bind fun t286 => (if t286 = true then ((strconv_Itoa.f a0_0).bind fun t287 => (if a0_1 > 1 then ((strconv_Itoa.f a0_1).bind fun t288 => (if 1 + t288.size ≤ 9223372036854775807 then (if t287.size + (1 + t288.size) ≤ 9223372036854775807 then (some (t287 ++ ((⟨#[47]⟩ : ByteArray) ++ t288))) else (none)) else (none))) else (some t287))) else (some (⟨#[]⟩ : ByteArray)))
theorem rat_Text.mono : ∀ a0 a1 k, LeO (rat_Text.f k a0 a1) (rat_Text.f (k + 1) a0 a1) := by
 intro a0 a1 k
 unfold rat_Text.f
 repeat' first
   | (with_reducible exact rat_Check.mono _ _ _)
   | (with_reducible exact LeO.refl _)
   | (with_reducible exact LeO.none _)
   | (with_reducible refine LeO.ite ?_ ?_)
   | (with_reducible refine LeO.bind ?_ (fun _ => ?_))
   | exact rat_Check.mono _ _ _
   | exact LeO.none _
   | refine LeO.ite ?_ ?_
   | refine LeO.bind ?_ (fun _ => ?_)
set_option maxHeartbeats 8000000 in
set_option maxRecDepth 100000 in
theorem rat_Text.calls (k : Nat) (a0_0 : Int) (a0_1 : Int) (r : ByteArray) (w : World) (hE : Aside0 (LaidE w)) (h : rat_Text.f k a0_0 a0_1 = some r) :
  Calls Tryd.prog 27 #[.agg #[.int .i64 a0_0,.int .i64 a0_1]] w fun e w' => e = .returned (.string r) ∧ Below w.heap.size w w' := by
 have hu23 := Tryd.underlying23
 have HB := sd_ (Below.refl w.heap.size w)
 have H : ((rat_Check.f k a0_0 a0_1).bind fun t286 => (if t286 = true then ((strconv_Itoa.f a0_0).bind fun t287 => (if a0_1 > 1 then ((strconv_Itoa.f a0_1).bind fun t288 => (if 1 + t288.size ≤ 9223372036854775807 then (if t287.size + (1 + t288.size) ≤ 9223372036854775807 then (some (t287 ++ ((⟨#[47]⟩ : ByteArray) ++ t288))) else (none)) else (none))) else (some t287))) else (some (⟨#[]⟩ : ByteArray)))) = some r := h
 clear h
 replace H := ob_ H
 obtain ⟨t286,A20,H⟩ := H
 replace H : (if t286 = true then ((strconv_Itoa.f a0_0).bind fun t287 => (if a0_1 > 1 then ((strconv_Itoa.f a0_1).bind fun t288 => (if 1 + t288.size ≤ 9223372036854775807 then (if t287.size + (1 + t288.size) ≤ 9223372036854775807 then (some (t287 ++ ((⟨#[47]⟩ : ByteArray) ++ t288))) else (none)) else (none))) else (some t287))) else (some (⟨#[]⟩ : ByteArray))) = some r := H
 have A2 := sd_ A20
 clear A20
 by_cases c3 : t286 = true
 ·subst c3
  have H1 : ((strconv_Itoa.f a0_0).bind fun t287 => (if a0_1 > 1 then ((strconv_Itoa.f a0_1).bind fun t288 => (if 1 + t288.size ≤ 9223372036854775807 then (if t287.size + (1 + t288.size) ≤ 9223372036854775807 then (some (t287 ++ ((⟨#[47]⟩ : ByteArray) ++ t288))) else (none)) else (none))) else (some t287))) = some r := by rw [if_pos rfl] at H;exact H
  clear H;have H := H1;clear H1
  replace H := ob_ H
  obtain ⟨t287,A40,H⟩ := H
  replace H : (if a0_1 > 1 then ((strconv_Itoa.f a0_1).bind fun t288 => (if 1 + t288.size ≤ 9223372036854775807 then (if t287.size + (1 + t288.size) ≤ 9223372036854775807 then (some (t287 ++ ((⟨#[47]⟩ : ByteArray) ++ t288))) else (none)) else (none))) else (some t287)) = some r := H
  have A4 := sd_ A40
  clear A40
  by_cases c5 : a0_1 > 1
  ·rw [if_pos c5] at H
   have c5b0 : decide (1 < a0_1) = true := dt_ c5
   clear c5
   replace H := ob_ H
   obtain ⟨t288,A60,H⟩ := H
   replace H : (if 1 + t288.size ≤ 9223372036854775807 then (if t287.size + (1 + t288.size) ≤ 9223372036854775807 then (some (t287 ++ ((⟨#[47]⟩ : ByteArray) ++ t288))) else (none)) else (none)) = some r := H
   have A6 := sd_ A60
   clear A60
   by_cases c7 : 1 + t288.size ≤ 9223372036854775807
   ·rw [if_pos c7] at H
    have c7b0 := eq_true c7
    have c7b1 : decide (1 + t288.size ≤ 9223372036854775807) = true := dt_ c7
    try have c7b2 : (9223372036854775807 < 1 + t288.size) = False := eq_false (Nat.not_lt.2 c7)
    by_cases c8 : t287.size + (1 + t288.size) ≤ 9223372036854775807
    ·rw [if_pos c8] at H
     have c8b0 := eq_true c8
     have c8b1 : decide (t287.size + (1 + t288.size) ≤ 9223372036854775807) = true := dt_ c8
     try have c8b2 : (9223372036854775807 < t287.size + (1 + t288.size)) = False := eq_false (Nat.not_lt.2 c8)
     obtain rfl := Option.some.inj H
     go_enter Tryd.func27,Tryd.ntmps27
     go_wp2_with (first|((with_reducible refine gate_dst (N := 1) rfl ?_);refine box_event ?hg (N := 1) ?hd (cs := #[.int .i64 a0_0,.int .i64 a0_1]) (t := 23) ?hr ?_;(case hd => rfl);(case hg => rfl);(case hr => first|(go_simp;done)|(go_simp;rfl));intro gb285 hg w9 hbox hb;have BK285 := sd_ hbox;have GW285 := gw_ HB e0_ hg;have GE285 := GW285;replace HB := hb_ HB e0_ hb;clear hb hbox hg;have hcz10_0 : w9.cell? ⟨gb285,0,none⟩ = some (.int .i64 a0_0) := (kc_ BK285.out 0).trans rfl;have hcz10_1 : w9.cell? ⟨gb285,1,none⟩ = some (.int .i64 a0_1) := (kc_ BK285.out 1).trans rfl;have hfz10_0 := kf_ BK285.out 0;have hfz10_1 := kf_ BK285.out 1)|((with_reducible refine gate_callee (f := 29) rfl ?_);refine goesL_ (some 5) rfl rfl Tryd.func29 (by kernel_rfl) rfl #[.agg #[.int .i64 a0_0,.int .i64 a0_1]] rfl (by (try simp only [lm_,lq_,lx_]);first|done|rfl|(simp only [ld_,lt_];rfl)) ?_;(with_reducible refine (rat_Check.calls k a0_0 a0_1 true _ A2.out).mono ?_);rintro e w11 ⟨rfl,hb⟩;refine ⟨_,rfl,?_⟩;replace BK285 := kb_ BK285 hb;replace HB := hb_ HB (e_ GE285 e0_) hb;(try clear hb);(try clear hb2);(try clear hk);(try clear hi);have hcz12_0 : w11.cell? ⟨gb285,0,none⟩ = some (.int .i64 a0_0) := (kc_ BK285.out 0).trans rfl;have hcz12_1 : w11.cell? ⟨gb285,1,none⟩ = some (.int .i64 a0_1) := (kc_ BK285.out 1).trans rfl;have hfz12_0 := kf_ BK285.out 0;have hfz12_1 := kf_ BK285.out 1)|((with_reducible refine gate_callee (f := 46) rfl ?_);refine goesL_ (some 9) rfl rfl Tryd.func46 (by kernel_rfl) rfl #[.int .i64 a0_0] rfl (by (try simp only [lm_,lq_,lx_]);first|done|rfl|(simp only [ld_,lt_];rfl)) ?_;(with_reducible refine (strconv_Itoa.calls a0_0 t287 _ ?side1 A4.out).mono ?_);(case side1 => first|(with_reducible exact hE)|exact sd_ (LaidE.below hE.out (bb_ HB.out (e_ GE285 e0_))));rintro e w13 ⟨rfl,hb⟩;refine ⟨_,rfl,?_⟩;replace BK285 := kb_ BK285 hb;replace HB := hb_ HB (e_ GE285 e0_) hb;(try clear hb);(try clear hb2);(try clear hk);(try clear hi);have hcz14_0 : w13.cell? ⟨gb285,0,none⟩ = some (.int .i64 a0_0) := (kc_ BK285.out 0).trans rfl;have hcz14_1 : w13.cell? ⟨gb285,1,none⟩ = some (.int .i64 a0_1) := (kc_ BK285.out 1).trans rfl;have hfz14_0 := kf_ BK285.out 0;have hfz14_1 := kf_ BK285.out 1)|((with_reducible refine gate_callee (f := 46) rfl ?_);refine goesL_ (some 16) rfl rfl Tryd.func46 (by kernel_rfl) rfl #[.int .i64 a0_1] rfl (by (try simp only [lm_,lq_,lx_]);first|done|rfl|(simp only [ld_,lt_];rfl)) ?_;(with_reducible refine (strconv_Itoa.calls a0_1 t288 _ ?side1 A6.out).mono ?_);(case side1 => first|(with_reducible exact hE)|exact sd_ (LaidE.below hE.out (bb_ HB.out (e_ GE285 e0_))));rintro e w15 ⟨rfl,hb⟩;refine ⟨_,rfl,?_⟩;replace BK285 := kb_ BK285 hb;replace HB := hb_ HB (e_ GE285 e0_) hb;(try clear hb);(try clear hb2);(try clear hk);(try clear hi)))
     go_ret
     exact ⟨by first|rfl|(simp [errW_none,errW_some] <;> rfl)|(simp [*,errW_none,errW_some] <;> rfl),by repeat (first|(with_reducible first|exact HB.out|apply ba_|apply pd_|apply d1_|refine bs_ ?_ GE285.out)|exact HB.out)⟩
    ·rw [if_neg c8] at H
     exact absurd H (by simp)
   ·rw [if_neg c7] at H
    exact absurd H (by simp)
  ·rw [if_neg c5] at H
   have c5b0 : decide (1 < a0_1) = false := df_ c5
   clear c5
   obtain rfl := Option.some.inj H
   go_enter Tryd.func27,Tryd.ntmps27
   go_wp2_with (first|((with_reducible refine gate_dst (N := 1) rfl ?_);refine box_event ?hg (N := 1) ?hd (cs := #[.int .i64 a0_0,.int .i64 a0_1]) (t := 23) ?hr ?_;(case hd => rfl);(case hg => rfl);(case hr => first|(go_simp;done)|(go_simp;rfl));intro gb285 hg w16 hbox hb;have BK285 := sd_ hbox;have GW285 := gw_ HB e0_ hg;have GE285 := GW285;replace HB := hb_ HB e0_ hb;clear hb hbox hg;have hcz17_0 : w16.cell? ⟨gb285,0,none⟩ = some (.int .i64 a0_0) := (kc_ BK285.out 0).trans rfl;have hcz17_1 : w16.cell? ⟨gb285,1,none⟩ = some (.int .i64 a0_1) := (kc_ BK285.out 1).trans rfl;have hfz17_0 := kf_ BK285.out 0;have hfz17_1 := kf_ BK285.out 1)|((with_reducible refine gate_callee (f := 29) rfl ?_);refine goesL_ (some 5) rfl rfl Tryd.func29 (by kernel_rfl) rfl #[.agg #[.int .i64 a0_0,.int .i64 a0_1]] rfl (by (try simp only [lm_,lq_,lx_]);first|done|rfl|(simp only [ld_,lt_];rfl)) ?_;(with_reducible refine (rat_Check.calls k a0_0 a0_1 true _ A2.out).mono ?_);rintro e w18 ⟨rfl,hb⟩;refine ⟨_,rfl,?_⟩;replace BK285 := kb_ BK285 hb;replace HB := hb_ HB (e_ GE285 e0_) hb;(try clear hb);(try clear hb2);(try clear hk);(try clear hi);have hcz19_0 : w18.cell? ⟨gb285,0,none⟩ = some (.int .i64 a0_0) := (kc_ BK285.out 0).trans rfl;have hcz19_1 : w18.cell? ⟨gb285,1,none⟩ = some (.int .i64 a0_1) := (kc_ BK285.out 1).trans rfl;have hfz19_0 := kf_ BK285.out 0;have hfz19_1 := kf_ BK285.out 1)|((with_reducible refine gate_callee (f := 46) rfl ?_);refine goesL_ (some 9) rfl rfl Tryd.func46 (by kernel_rfl) rfl #[.int .i64 a0_0] rfl (by (try simp only [lm_,lq_,lx_]);first|done|rfl|(simp only [ld_,lt_];rfl)) ?_;(with_reducible refine (strconv_Itoa.calls a0_0 t287 _ ?side1 A4.out).mono ?_);(case side1 => first|(with_reducible exact hE)|exact sd_ (LaidE.below hE.out (bb_ HB.out (e_ GE285 e0_))));rintro e w20 ⟨rfl,hb⟩;refine ⟨_,rfl,?_⟩;replace BK285 := kb_ BK285 hb;replace HB := hb_ HB (e_ GE285 e0_) hb;(try clear hb);(try clear hb2);(try clear hk);(try clear hi);have hcz21_0 : w20.cell? ⟨gb285,0,none⟩ = some (.int .i64 a0_0) := (kc_ BK285.out 0).trans rfl;have hcz21_1 : w20.cell? ⟨gb285,1,none⟩ = some (.int .i64 a0_1) := (kc_ BK285.out 1).trans rfl;have hfz21_0 := kf_ BK285.out 0;have hfz21_1 := kf_ BK285.out 1))
   go_ret
   exact ⟨by first|rfl|(simp [errW_none,errW_some] <;> rfl)|(simp [*,errW_none,errW_some] <;> rfl),by repeat (first|(with_reducible first|exact HB.out|apply ba_|apply pd_|apply d1_|refine bs_ ?_ GE285.out)|exact HB.out)⟩
 ·replace c3 := bf_ c3
  subst c3
  have H1 : (some (⟨#[]⟩ : ByteArray)) = some r := by rw [if_neg (show ¬ (false = true) by decide)] at H;exact H
  clear H;have H := H1;clear H1
  obtain rfl := Option.some.inj H
  go_enter Tryd.func27,Tryd.ntmps27
  go_wp2_with (first|((with_reducible refine gate_dst (N := 1) rfl ?_);refine box_event ?hg (N := 1) ?hd (cs := #[.int .i64 a0_0,.int .i64 a0_1]) (t := 23) ?hr ?_;(case hd => rfl);(case hg => rfl);(case hr => first|(go_simp;done)|(go_simp;rfl));intro gb285 hg w22 hbox hb;have BK285 := sd_ hbox;have GW285 := gw_ HB e0_ hg;have GE285 := GW285;replace HB := hb_ HB e0_ hb;clear hb hbox hg;have hcz23_0 : w22.cell? ⟨gb285,0,none⟩ = some (.int .i64 a0_0) := (kc_ BK285.out 0).trans rfl;have hcz23_1 : w22.cell? ⟨gb285,1,none⟩ = some (.int .i64 a0_1) := (kc_ BK285.out 1).trans rfl;have hfz23_0 := kf_ BK285.out 0;have hfz23_1 := kf_ BK285.out 1)|((with_reducible refine gate_callee (f := 29) rfl ?_);refine goesL_ (some 5) rfl rfl Tryd.func29 (by kernel_rfl) rfl #[.agg #[.int .i64 a0_0,.int .i64 a0_1]] rfl (by (try simp only [lm_,lq_,lx_]);first|done|rfl|(simp only [ld_,lt_];rfl)) ?_;(with_reducible refine (rat_Check.calls k a0_0 a0_1 false _ A2.out).mono ?_);rintro e w24 ⟨rfl,hb⟩;refine ⟨_,rfl,?_⟩;replace BK285 := kb_ BK285 hb;replace HB := hb_ HB (e_ GE285 e0_) hb;(try clear hb);(try clear hb2);(try clear hk);(try clear hi)))
  go_ret
  exact ⟨by first|rfl|(simp [errW_none,errW_some] <;> rfl)|(simp [*,errW_none,errW_some] <;> rfl),by repeat (first|(with_reducible first|exact HB.out|apply ba_|apply pd_|apply d1_|refine bs_ ?_ GE285.out)|exact HB.out)⟩

/-! ### rat_Parse: function 21 -/
def cutA (s : ByteArray) : ByteArray := ⟨(Go.Lib.cut s.data.toList [47]).1.toArray⟩
def cutB (s : ByteArray) : ByteArray := ⟨(Go.Lib.cut s.data.toList [47]).2.1.toArray⟩
def cutC (s : ByteArray) : Bool := (Go.Lib.cut s.data.toList [47]).2.2
open Go.Lib Go.Shelf in
set_option maxHeartbeats 2000000 in
set_option maxRecDepth 100000 in
theorem cut_inner (s : ByteArray) (hs : s.size < 4294967281) (w : World) : Calls Tryd.prog 50 #[.string s, .string ⟨#[47]⟩] w fun e w' => e = .returned (.tuple #[.string (cutA s), .string (cutB s), .bool (cutC s)]) ∧ ∃ n, w' = w.drewN n := by
 have hI : ∀ W,Calls Tryd.prog 54 #[.string s,.string ⟨#[47]⟩] W fun e w' => e = .returned (.int .i64 (Go.Lib.indexB s ⟨#[47]⟩)) ∧ w' = W := by
  intro W
  have := Go.Proofs.Tryd.stringslite_Index_one s 47 W
  rw [← Go.Lib.index_one] at this
  exact this
 have HI := sd_ hI
 clear hI
 rcases Go.Lib.indexB_cases s ⟨#[47]⟩ with hix|⟨i,hix,hroom⟩
 ·obtain ⟨e1,e2,e3⟩ := Go.Lib.cutB_miss s ⟨#[47]⟩ hix
  have g1 : cutA s = s := e1
  have g2 : cutB s = ByteArray.empty := e2
  have g3 : cutC s = false := e3
  rw [g1,g2,g3]
  clear e1 e2 e3 g1 g2 g3
  rw [hix] at HI
  clear hix
  go_enter Tryd.func50,Tryd.ntmps50
  go_wp2_with (go_at_call 54;refine (HI.out _).mono ?_;rintro e w' ⟨rfl,rfl⟩)
  go_ret3
  exact ⟨rfl,0,rfl⟩
 ·obtain ⟨e1,e2,e3⟩ := Go.Lib.cutB_hit s ⟨#[47]⟩ i hix
  have g1 : cutA s = s.extract 0 i := e1
  have g2 : cutB s = s.extract (i + 1) s.size := e2
  have g3 : cutC s = true := e3
  rw [g1,g2,g3]
  clear e1 e2 e3 g1 g2 g3
  rw [hix] at HI
  clear hix
  have hroom : i + 1 ≤ s.size := hroom
  have c1 : (0 : Int) ≤ ↑i := by omega
  have c2 : (↑i : Int) ≤ ↑s.size := by omega
  have c3 : (0 : Int) ≤ ↑i + 1 := by omega
  have c4 : (↑i + 1 : Int) ≤ ↑s.size := by omega
  have c5 : IntKind.i64.wrap ((i : Int) + 1) = (i : Int) + 1 := by rw [i64_w];unfold wrap64;omega
  have mixed : Tryd.prog.follows Departure.mixedOrders = true := by kernel_rfl
  go_enter Tryd.func50,Tryd.ntmps50
  go_wp2_with (go_at_call 54;refine (HI.out _).mono ?_;rintro e w' ⟨rfl,rfl⟩)
  go_region_o
  go_wp2
  go_ret3
  exact ⟨rfl,1,rfl⟩
/-- strings.Cut at "/". -/
theorem cut_slash (s : ByteArray) (hs : s.size < 4294967281) (w : World) : Calls Tryd.prog 42 #[.string s, .string ⟨#[47]⟩] w fun e w' => e = .returned (.tuple #[.string (cutA s), .string (cutB s), .bool (cutC s)]) ∧ ∃ n, w' = w.drewN n := by
 have HI := sd_ (cut_inner s hs)
 generalize cutA s = a at HI ⊢
 generalize cutB s = b at HI ⊢
 generalize cutC s = c at HI ⊢
 go_enter Tryd.func42,Tryd.ntmps42
 go_wp2_with (go_at_call 50;refine (HI.out _).mono ?_;rintro e w' ⟨rfl,n,rfl⟩)
 go_ret3
 exact ⟨rfl,n,rfl⟩
/-- What strconv.Atoi tells, if it tells a number. -/
def atoiV (s : ByteArray) : Option Int := match Go.Lib.atoiAll s.data.toList with | .ok v => some v | _ => none
theorem atoi_ok {s : ByteArray} {v : Int} (h : atoiV s = some v) (hs : s.size < 4294967281) (w : World) : Calls Tryd.prog 43 #[.string s] w fun e w' => e = .returned (.tuple #[.int .i64 v, .nilIface]) ∧ Below w.heap.size w w' := by
 unfold atoiV at h
 split at h
 ·rename_i u hu
  obtain rfl := Option.some.inj h
  refine (Go.Proofs.Tryd.strconv_Atoi_ok s (by omega) u hu w).mono ?_
  rintro e w' ⟨rfl,rfl|⟨t,rfl⟩⟩
  ·exact ⟨rfl,Below.refl _ _⟩
  ·exact ⟨rfl,Go.Lib.bytesWorld_below _ _ _⟩
 ·exact absurd h (by simp)
theorem atoi_bad {s : ByteArray} (h : atoiV s = none) (hs : s.size < 4294967281) (w : World) (hE : LaidE w) : Calls Tryd.prog 43 #[.string s] w fun e w' => (∃ z t q, e = .returned (.tuple #[.int .i64 z, .iface t (.pointer (some q))])) ∧ Below w.heap.size w w' := by
 obtain ⟨_,⟨tp,p,h2⟩,tq,q,h3⟩ := hE
 unfold atoiV at h
 cases hu : Go.Lib.atoiAll s.data.toList with
 | ok v => rw [hu] at h; exact absurd h (by simp)
 | «syntax» =>
  refine (Go.Proofs.Tryd.strconv_Atoi_syntax_var s (by omega) hu tp p w h2).mono ?_
  rintro e w' ⟨N,rfl,_,_,hb⟩
  exact ⟨⟨_,_,_,rfl⟩,hb⟩
 | range =>
  refine (Go.Proofs.Tryd.strconv_Atoi_range_var s (by omega) hu tq q w h3).mono ?_
  rintro e w' ⟨N,rfl,_,_,hb⟩
  exact ⟨⟨_,_,_,rfl⟩,hb⟩
theorem cut_sizes (s : ByteArray) : (cutA s).size ≤ s.size ∧ (cutB s).size ≤ s.size := by
 rcases Go.Lib.indexB_cases s ⟨#[47]⟩ with hix|⟨i,hix,hroom⟩
 ·obtain ⟨e1,e2,e3⟩ := Go.Lib.cutB_miss s ⟨#[47]⟩ hix
  have g1 : cutA s = s := e1
  have g2 : cutB s = ByteArray.empty := e2
  rw [g1,g2]
  exact ⟨Nat.le_refl _,Nat.zero_le _⟩
 ·obtain ⟨e1,e2,e3⟩ := Go.Lib.cutB_hit s ⟨#[47]⟩ i hix
  have g1 : cutA s = s.extract 0 i := e1
  have g2 : cutB s = s.extract (i + 1) s.size := e2
  rw [g1,g2]
  constructor <;> (simp only [ByteArray.size_extract];omega)
def parse_end (k : Nat) (s : ByteArray) (n d : Int) : Option (Int × Int × Bool) := (rat_Text.f k n d).bind fun t => if t.toList = s.toList then (if s.toList = (⟨#[]⟩ : ByteArray).toList then some (0, 0, false) else some (n, d, true)) else some (0, 0, false)
def rat_Parse.f (k : Nat) (s : ByteArray) : Option (Int × Int × Bool) :=
 if s.size < 4294967281 then
  match atoiV (cutA s) with
  | none => some (0, 0, false)
  | some n => if cutC s = true then
    match atoiV (cutB s) with
    | none => some (0, 0, false)
    | some d => parse_end k s n d
   else parse_end k s n 1
 else none
/-- What is carried from call to call: the unnamed result's cells, and x's. -/
structure PB (w : World) (g : Nat) (n d : Int) (W : World) : Prop where
 bel : Below w.heap.size w W
 lt : w.heap.size < g
 res : W.heap[w.heap.size]? = some (.cells #[.int .i64 0,.int .i64 0] 23 (0,0))
 box : W.heap[g]? = some (.cells #[.int .i64 n,.int .i64 d] 23 (0,0))
theorem PB.step {w W W' : World} {g : Nat} {n d : Int} (h : PB w g n d W) (hb : Below W.heap.size W W') : PB w g n d W' :=
 ⟨bt_ h.bel hb,h.lt,blk_below h.res hb,blk_below h.box hb⟩
theorem PB.start {w w2 : World} {n1 : Nat} (hb : Below ((w.alloc (.cells #[.int .i64 0, .int .i64 0] 23)).drewN n1).heap.size ((w.alloc (.cells #[.int .i64 0, .int .i64 0] 23)).drewN n1) w2) :
  PB w w2.heap.size 0 1 (w2.alloc (.cells #[.int .i64 0,.int .i64 1] 23)) := by
 have h0 : ((w.alloc (.cells #[.int .i64 0,.int .i64 0] 23)).drewN n1).heap[w.heap.size]? = some (.cells #[.int .i64 0,.int .i64 0] 23 (0,0)) := kn_ (heap_alloc_new w _) n1
 have h1 := blk_below h0 hb
 have b1 : Below w.heap.size w ((w.alloc (.cells #[.int .i64 0,.int .i64 0] 23)).drewN n1) := pd_ (ba_ (Below.refl _ _) _) n1
 have b2 := bt_ b1 hb
 have hlt : w.heap.size < w2.heap.size := by
  rcases Nat.lt_or_ge w.heap.size w2.heap.size with h|h
  ·exact h
  ·rw [Array.getElem?_eq_none h] at h1;exact absurd h1 (by simp)
 exact ⟨ba_ b2 _,hlt,ka_ h1 _,heap_alloc_new w2 _⟩
theorem empty_toList : (⟨#[]⟩ : ByteArray).toList = [] := by decide +kernel
theorem PB.put0 {w W : World} {g : Nat} {n d m : Int} (h : PB w g n d W) : PB w g m d (W.setCell ⟨g, 0, none⟩ (.int .i64 m)) :=
 ⟨bs_ h.bel (Nat.le_of_lt h.lt),h.lt,blk_far h.res (nn_ h.lt) _,blk_put h.box 0 _ rfl⟩
theorem PB.put1 {w W : World} {g : Nat} {n d m : Int} (h : PB w g n d W) : PB w g n m (W.setCell ⟨g, 1, none⟩ (.int .i64 m)) :=
 ⟨bs_ h.bel (Nat.le_of_lt h.lt),h.lt,blk_far h.res (nn_ h.lt) _,blk_put h.box 1 _ rfl⟩
set_option maxHeartbeats 4000000 in
set_option maxRecDepth 100000 in
/-- The first number cannot be read. -/
theorem parse_a (s : ByteArray) (hs : s.size < 4294967281) (w : World) (hE : Aside0 (LaidE w)) (ha : atoiV (cutA s) = none) :
  Calls Tryd.prog 21 #[.string s] w fun e w' => e = .returned (.tuple #[.agg #[.int .i64 0,.int .i64 0],.bool false]) ∧ Below w.heap.size w w' := by
 have HC := sd_ (cut_slash s hs)
 have hq := (cut_sizes s).1
 have HA := sd_ (fun W => atoi_bad ha (by omega) W)
 clear hq ha
 generalize cutA s = a at HA HC
 generalize cutB s = b at HC
 generalize cutC s = c at HC
 go_enter Tryd.func21,Tryd.ntmps21
 go_wp2_with (first|(go_at_call 42;refine (HC.out _).mono ?_;rintro e w1 ⟨rfl,n1,rfl⟩)|(go_at_call 38;refine (rat_whole.calls 0 0 1 _ rfl).mono ?_;rintro e w2 ⟨rfl,hb2⟩;have HB2 := sd_ hb2;clear hb2)|(go_at_call 43;have P2 := PB.start HB2.out;refine (HA.out _ (LaidE.below hE.out P2.bel)).mono ?_;rintro e w3 ⟨⟨z,tt,q,rfl⟩,hb3⟩;have P3 := sd_ (P2.step hb3);clear HB2 P2 hb3;generalize w2.heap.size = g at P3 ⊢)|(go_at_call 32;refine (rat_zero.calls 0 0 _ rfl).mono ?_;rintro e w4 ⟨rfl,hb4⟩;have P4 := sd_ (P3.out.step hb4);clear P3 hb4;have hc0 := (kc_ P4.out.res 0).trans rfl;have hc1 := (kc_ P4.out.res 1).trans rfl;have hf0 := kf_ P4.out.res 0;have hf1 := kf_ P4.out.res 1))
 refine bodyPost_ret (results_ct rfl _ _ w.heap.size 23 #[.int .i64 0,.int .i64 0] (0,0) _ rfl (by refine blk_put (cs := #[.int .i64 0,.int .i64 0]) ?_ 1 _ rfl;refine blk_put (cs := #[.int .i64 0,.int .i64 0]) ?_ 0 _ rfl;exact P4.out.res) Tryd.underlying23 rfl (by kernel_rfl)) rfl ?_
 exact ⟨rfl,bs_ (bs_ P4.out.bel (Nat.le_refl _)) (Nat.le_refl _)⟩
set_option maxHeartbeats 4000000 in
set_option maxRecDepth 100000 in
/-- No second number. -/
theorem parse_b (k : Nat) (s : ByteArray) (n r1 r2 : Int) (r3 : Bool) (hs : s.size < 4294967281) (w : World) (hE : Aside0 (LaidE w)) (ha : atoiV (cutA s) = some n) (hc : cutC s = false) (h : parse_end k s n 1 = some (r1, r2, r3)) :
  Calls Tryd.prog 21 #[.string s] w fun e w' => e = .returned (.tuple #[.agg #[.int .i64 r1,.int .i64 r2],.bool r3]) ∧ Below w.heap.size w w' := by
 have HC := sd_ (cut_slash s hs)
 have hq := (cut_sizes s).1
 have HA := sd_ (fun W => atoi_ok ha (by omega) W)
 rw [hc] at HC
 clear hq ha hc
 generalize cutA s = a at HA HC
 generalize cutB s = b at HC
 unfold parse_end at h
 cases ht : rat_Text.f k n 1 with
 | none => rw [ht] at h; exact absurd h (by simp)
 | some t =>
  rw [ht] at h
  simp only [Option.bind_some] at h
  have HT := sd_ ht
  have H := sd_ h
  clear ht h
  by_cases c1 : t.toList = s.toList
  ·rw [if_pos c1] at H
   have q1 : (t.toList == s.toList) = true := beq_iff_eq.mpr c1
   have q2 : (t.toList != s.toList) = false := bne_eq_false_iff_eq.mpr c1
   clear c1
   by_cases c2 : s.toList = (⟨#[]⟩ : ByteArray).toList
   ·rw [if_pos c2] at H
    have q3 : s.toList.isEmpty = true := by rw [c2,empty_toList];rfl
    clear c2
    have H' := Option.some.inj H.out
    clear H
    simp only [Prod.mk.injEq] at H'
    obtain ⟨rfl,rfl,rfl⟩ := H'
    go_enter Tryd.func21,Tryd.ntmps21
    go_wp2_with (first|(go_at_call 42;refine (HC.out _).mono ?_;rintro e w1 ⟨rfl,n1,rfl⟩)|(go_at_call 38;refine (rat_whole.calls 0 0 1 _ rfl).mono ?_;rintro e w2 ⟨rfl,hb2⟩;have HB2 := sd_ hb2;clear hb2)|(go_at_call 43;have P2 := PB.start HB2.out;refine (HA.out _).mono ?_;rintro e w3 ⟨rfl,hb3⟩;have P3 := sd_ (P2.step hb3);clear HB2 P2 hb3;generalize w2.heap.size = g at P3 ⊢;have hr0 := (kc_ P3.out.res 0).trans rfl;have hr1 := (kc_ P3.out.res 1).trans rfl;have hf0 := kf_ P3.out.res 0;have hf1 := kf_ P3.out.res 1;have hx0 := (kc_ P3.out.box 0).trans rfl;have hx1 := (kc_ P3.out.box 1).trans rfl;have hy0 := kf_ P3.out.box 0;have hy1 := kf_ P3.out.box 1)|(go_at_call 27;have P3' := P3.out.put0 (m := n);refine (rat_Text.calls k n 1 t _ ⟨LaidE.below hE.out P3'.bel⟩ HT.out).mono ?_;rintro e w4 ⟨rfl,hb4⟩;have P4 := sd_ (P3'.step hb4);clear P3 P3' hb4 hr0 hr1 hf0 hf1 hx0 hx1 hy0 hy1;have hr0 := (kc_ P4.out.res 0).trans rfl;have hr1 := (kc_ P4.out.res 1).trans rfl;have hf0 := kf_ P4.out.res 0;have hf1 := kf_ P4.out.res 1;have hx0 := (kc_ P4.out.box 0).trans rfl;have hx1 := (kc_ P4.out.box 1).trans rfl;have hy0 := kf_ P4.out.box 0;have hy1 := kf_ P4.out.box 1)|(go_at_call 32;refine (rat_zero.calls 0 0 _ rfl).mono ?_;rintro e w5 ⟨rfl,hb5⟩;have P5 := sd_ (P4.out.step hb5);clear P4 hb5 hr0 hr1 hf0 hf1 hx0 hx1 hy0 hy1;have hr0 := (kc_ P5.out.res 0).trans rfl;have hr1 := (kc_ P5.out.res 1).trans rfl;have hf0 := kf_ P5.out.res 0;have hf1 := kf_ P5.out.res 1;have hx0 := (kc_ P5.out.box 0).trans rfl;have hx1 := (kc_ P5.out.box 1).trans rfl;have hy0 := kf_ P5.out.box 0;have hy1 := kf_ P5.out.box 1))
    refine bodyPost_ret (results_ct rfl _ _ w.heap.size 23 #[.int .i64 0,.int .i64 0] (0,0) _ rfl (by refine blk_put (cs := #[.int .i64 0,.int .i64 0]) ?_ 1 _ rfl;refine blk_put (cs := #[.int .i64 0,.int .i64 0]) ?_ 0 _ rfl;exact P5.out.res) Tryd.underlying23 rfl (by kernel_rfl)) rfl ?_
    exact ⟨rfl,bs_ (bs_ P5.out.bel (Nat.le_refl _)) (Nat.le_refl _)⟩
   ·rw [if_neg c2] at H
    have q3 : s.toList.isEmpty = false := by
     cases hh : s.toList.isEmpty with
     | false => rfl
     | true => exact absurd ((List.isEmpty_iff.1 hh).trans empty_toList.symm) c2
    clear c2
    have H' := Option.some.inj H.out
    clear H
    simp only [Prod.mk.injEq] at H'
    obtain ⟨rfl,rfl,rfl⟩ := H'
    go_enter Tryd.func21,Tryd.ntmps21
    go_wp2_with (first|(go_at_call 42;refine (HC.out _).mono ?_;rintro e w1 ⟨rfl,n1,rfl⟩)|(go_at_call 38;refine (rat_whole.calls 0 0 1 _ rfl).mono ?_;rintro e w2 ⟨rfl,hb2⟩;have HB2 := sd_ hb2;clear hb2)|(go_at_call 43;have P2 := PB.start HB2.out;refine (HA.out _).mono ?_;rintro e w3 ⟨rfl,hb3⟩;have P3 := sd_ (P2.step hb3);clear HB2 P2 hb3;generalize w2.heap.size = g at P3 ⊢;have hr0 := (kc_ P3.out.res 0).trans rfl;have hr1 := (kc_ P3.out.res 1).trans rfl;have hf0 := kf_ P3.out.res 0;have hf1 := kf_ P3.out.res 1;have hx0 := (kc_ P3.out.box 0).trans rfl;have hx1 := (kc_ P3.out.box 1).trans rfl;have hy0 := kf_ P3.out.box 0;have hy1 := kf_ P3.out.box 1)|(go_at_call 27;have P3' := P3.out.put0 (m := n);refine (rat_Text.calls k n 1 t _ ⟨LaidE.below hE.out P3'.bel⟩ HT.out).mono ?_;rintro e w4 ⟨rfl,hb4⟩;have P4 := sd_ (P3'.step hb4);clear P3 P3' hb4 hr0 hr1 hf0 hf1 hx0 hx1 hy0 hy1;have hr0 := (kc_ P4.out.res 0).trans rfl;have hr1 := (kc_ P4.out.res 1).trans rfl;have hf0 := kf_ P4.out.res 0;have hf1 := kf_ P4.out.res 1;have hx0 := (kc_ P4.out.box 0).trans rfl;have hx1 := (kc_ P4.out.box 1).trans rfl;have hy0 := kf_ P4.out.box 0;have hy1 := kf_ P4.out.box 1)|(go_at_call 32;refine (rat_zero.calls 0 0 _ rfl).mono ?_;rintro e w5 ⟨rfl,hb5⟩;have P5 := sd_ (P4.out.step hb5);clear P4 hb5 hr0 hr1 hf0 hf1 hx0 hx1 hy0 hy1;have hr0 := (kc_ P5.out.res 0).trans rfl;have hr1 := (kc_ P5.out.res 1).trans rfl;have hf0 := kf_ P5.out.res 0;have hf1 := kf_ P5.out.res 1;have hx0 := (kc_ P5.out.box 0).trans rfl;have hx1 := (kc_ P5.out.box 1).trans rfl;have hy0 := kf_ P5.out.box 0;have hy1 := kf_ P5.out.box 1))
    refine bodyPost_ret (results_ct rfl _ _ w.heap.size 23 #[.int .i64 n,.int .i64 1] (0,0) _ rfl (by refine blk_put (cs := #[.int .i64 n,.int .i64 0]) ?_ 1 _ rfl;refine blk_put (cs := #[.int .i64 0,.int .i64 0]) ?_ 0 _ rfl;exact P4.out.res) Tryd.underlying23 rfl (by kernel_rfl)) rfl ?_
    exact ⟨rfl,bs_ (bs_ P4.out.bel (Nat.le_refl _)) (Nat.le_refl _)⟩
  ·rw [if_neg c1] at H
   have q1 : (t.toList == s.toList) = false := beq_eq_false_iff_ne.mpr c1
   have q2 : (t.toList != s.toList) = true := bne_iff_ne.mpr c1
   clear c1
   have H' := Option.some.inj H.out
   clear H
   simp only [Prod.mk.injEq] at H'
   obtain ⟨rfl,rfl,rfl⟩ := H'
   go_enter Tryd.func21,Tryd.ntmps21
   go_wp2_with (first|(go_at_call 42;refine (HC.out _).mono ?_;rintro e w1 ⟨rfl,n1,rfl⟩)|(go_at_call 38;refine (rat_whole.calls 0 0 1 _ rfl).mono ?_;rintro e w2 ⟨rfl,hb2⟩;have HB2 := sd_ hb2;clear hb2)|(go_at_call 43;have P2 := PB.start HB2.out;refine (HA.out _).mono ?_;rintro e w3 ⟨rfl,hb3⟩;have P3 := sd_ (P2.step hb3);clear HB2 P2 hb3;generalize w2.heap.size = g at P3 ⊢;have hr0 := (kc_ P3.out.res 0).trans rfl;have hr1 := (kc_ P3.out.res 1).trans rfl;have hf0 := kf_ P3.out.res 0;have hf1 := kf_ P3.out.res 1;have hx0 := (kc_ P3.out.box 0).trans rfl;have hx1 := (kc_ P3.out.box 1).trans rfl;have hy0 := kf_ P3.out.box 0;have hy1 := kf_ P3.out.box 1)|(go_at_call 27;have P3' := P3.out.put0 (m := n);refine (rat_Text.calls k n 1 t _ ⟨LaidE.below hE.out P3'.bel⟩ HT.out).mono ?_;rintro e w4 ⟨rfl,hb4⟩;have P4 := sd_ (P3'.step hb4);clear P3 P3' hb4 hr0 hr1 hf0 hf1 hx0 hx1 hy0 hy1;have hr0 := (kc_ P4.out.res 0).trans rfl;have hr1 := (kc_ P4.out.res 1).trans rfl;have hf0 := kf_ P4.out.res 0;have hf1 := kf_ P4.out.res 1;have hx0 := (kc_ P4.out.box 0).trans rfl;have hx1 := (kc_ P4.out.box 1).trans rfl;have hy0 := kf_ P4.out.box 0;have hy1 := kf_ P4.out.box 1)|(go_at_call 32;refine (rat_zero.calls 0 0 _ rfl).mono ?_;rintro e w5 ⟨rfl,hb5⟩;have P5 := sd_ (P4.out.step hb5);clear P4 hb5 hr0 hr1 hf0 hf1 hx0 hx1 hy0 hy1;have hr0 := (kc_ P5.out.res 0).trans rfl;have hr1 := (kc_ P5.out.res 1).trans rfl;have hf0 := kf_ P5.out.res 0;have hf1 := kf_ P5.out.res 1;have hx0 := (kc_ P5.out.box 0).trans rfl;have hx1 := (kc_ P5.out.box 1).trans rfl;have hy0 := kf_ P5.out.box 0;have hy1 := kf_ P5.out.box 1))
   refine bodyPost_ret (results_ct rfl _ _ w.heap.size 23 #[.int .i64 0,.int .i64 0] (0,0) _ rfl (by refine blk_put (cs := #[.int .i64 0,.int .i64 0]) ?_ 1 _ rfl;refine blk_put (cs := #[.int .i64 0,.int .i64 0]) ?_ 0 _ rfl;exact P5.out.res) Tryd.underlying23 rfl (by kernel_rfl)) rfl ?_
   exact ⟨rfl,bs_ (bs_ P5.out.bel (Nat.le_refl _)) (Nat.le_refl _)⟩
set_option maxHeartbeats 4000000 in
set_option maxRecDepth 100000 in
/-- The second number cannot be read. -/
theorem parse_c (s : ByteArray) (n : Int) (hs : s.size < 4294967281) (w : World) (hE : Aside0 (LaidE w)) (ha : atoiV (cutA s) = some n) (hc : cutC s = true) (hd : atoiV (cutB s) = none) :
  Calls Tryd.prog 21 #[.string s] w fun e w' => e = .returned (.tuple #[.agg #[.int .i64 0,.int .i64 0],.bool false]) ∧ Below w.heap.size w w' := by
 have HC := sd_ (cut_slash s hs)
 have hq := (cut_sizes s).1
 have HA := sd_ (fun W => atoi_ok ha (by omega) W)
 have hq2 := (cut_sizes s).2
 have HD := sd_ (fun W => atoi_bad hd (by omega) W)
 rw [hc] at HC
 clear hq hq2 ha hc hd
 generalize cutA s = a at HA HC
 generalize cutB s = b at HC HD
 go_enter Tryd.func21,Tryd.ntmps21
 go_wp2_with (first|(go_at_call 42;refine (HC.out _).mono ?_;rintro e w1 ⟨rfl,n1,rfl⟩)|(go_at_call 38;refine (rat_whole.calls 0 0 1 _ rfl).mono ?_;rintro e w2 ⟨rfl,hb2⟩;have HB2 := sd_ hb2;clear hb2)|(go_at_call 43;have P2 := PB.start HB2.out;refine (HA.out _).mono ?_;rintro e w3 ⟨rfl,hb3⟩;have P3 := sd_ (P2.step hb3);clear HB2 P2 hb3;generalize w2.heap.size = g at P3 ⊢;have hr0 := (kc_ P3.out.res 0).trans rfl;have hr1 := (kc_ P3.out.res 1).trans rfl;have hf0 := kf_ P3.out.res 0;have hf1 := kf_ P3.out.res 1;have hx0 := (kc_ P3.out.box 0).trans rfl;have hx1 := (kc_ P3.out.box 1).trans rfl;have hy0 := kf_ P3.out.box 0;have hy1 := kf_ P3.out.box 1)|(go_at_call 43;have P3' := P3.out.put0 (m := n);refine (HD.out _ (LaidE.below hE.out P3'.bel)).mono ?_;rintro e w6 ⟨⟨z,tt,q,rfl⟩,hb6⟩;have P6 := sd_ (P3'.step hb6);clear P3 P3' hb6 hr0 hr1 hf0 hf1 hx0 hx1 hy0 hy1;have hr0 := (kc_ P6.out.res 0).trans rfl;have hr1 := (kc_ P6.out.res 1).trans rfl;have hf0 := kf_ P6.out.res 0;have hf1 := kf_ P6.out.res 1;have hx0 := (kc_ P6.out.box 0).trans rfl;have hx1 := (kc_ P6.out.box 1).trans rfl;have hy0 := kf_ P6.out.box 0;have hy1 := kf_ P6.out.box 1)|(go_at_call 32;refine (rat_zero.calls 0 0 _ rfl).mono ?_;rintro e w4 ⟨rfl,hb4⟩;have P4 := sd_ (P6.out.step hb4);clear P6 hb4 hr0 hr1 hf0 hf1 hx0 hx1 hy0 hy1;have hc0 := (kc_ P4.out.res 0).trans rfl;have hc1 := (kc_ P4.out.res 1).trans rfl;have hf0 := kf_ P4.out.res 0;have hf1 := kf_ P4.out.res 1))
 refine bodyPost_ret (results_ct rfl _ _ w.heap.size 23 #[.int .i64 0,.int .i64 0] (0,0) _ rfl (by refine blk_put (cs := #[.int .i64 0,.int .i64 0]) ?_ 1 _ rfl;refine blk_put (cs := #[.int .i64 0,.int .i64 0]) ?_ 0 _ rfl;exact P4.out.res) Tryd.underlying23 rfl (by kernel_rfl)) rfl ?_
 exact ⟨rfl,bs_ (bs_ P4.out.bel (Nat.le_refl _)) (Nat.le_refl _)⟩
set_option maxHeartbeats 4000000 in
set_option maxRecDepth 100000 in
/-- Two numbers. -/
theorem parse_d (k : Nat) (s : ByteArray) (n d r1 r2 : Int) (r3 : Bool) (hs : s.size < 4294967281) (w : World) (hE : Aside0 (LaidE w)) (ha : atoiV (cutA s) = some n) (hc : cutC s = true) (hd : atoiV (cutB s) = some d) (h : parse_end k s n d = some (r1, r2, r3)) :
  Calls Tryd.prog 21 #[.string s] w fun e w' => e = .returned (.tuple #[.agg #[.int .i64 r1,.int .i64 r2],.bool r3]) ∧ Below w.heap.size w w' := by
 have HC := sd_ (cut_slash s hs)
 have hq := (cut_sizes s).1
 have HA := sd_ (fun W => atoi_ok ha (by omega) W)
 have hq2 := (cut_sizes s).2
 have HD := sd_ (fun W => atoi_ok hd (by omega) W)
 rw [hc] at HC
 clear hq hq2 ha hc hd
 generalize cutA s = a at HA HC
 generalize cutB s = b at HC HD
 unfold parse_end at h
 cases ht : rat_Text.f k n d with
 | none => rw [ht] at h; exact absurd h (by simp)
 | some t =>
  rw [ht] at h
  simp only [Option.bind_some] at h
  have HT := sd_ ht
  have H := sd_ h
  clear ht h
  by_cases c1 : t.toList = s.toList
  ·rw [if_pos c1] at H
   have q1 : (t.toList == s.toList) = true := beq_iff_eq.mpr c1
   have q2 : (t.toList != s.toList) = false := bne_eq_false_iff_eq.mpr c1
   clear c1
   by_cases c2 : s.toList = (⟨#[]⟩ : ByteArray).toList
   ·rw [if_pos c2] at H
    have q3 : s.toList.isEmpty = true := by rw [c2,empty_toList];rfl
    clear c2
    have H' := Option.some.inj H.out
    clear H
    simp only [Prod.mk.injEq] at H'
    obtain ⟨rfl,rfl,rfl⟩ := H'
    go_enter Tryd.func21,Tryd.ntmps21
    go_wp2_with (first|(go_at_call 42;refine (HC.out _).mono ?_;rintro e w1 ⟨rfl,n1,rfl⟩)|(go_at_call 38;refine (rat_whole.calls 0 0 1 _ rfl).mono ?_;rintro e w2 ⟨rfl,hb2⟩;have HB2 := sd_ hb2;clear hb2)|(go_at_call 43;have P2 := PB.start HB2.out;refine (HA.out _).mono ?_;rintro e w3 ⟨rfl,hb3⟩;have P3 := sd_ (P2.step hb3);clear HB2 P2 hb3;generalize w2.heap.size = g at P3 ⊢;have hr0 := (kc_ P3.out.res 0).trans rfl;have hr1 := (kc_ P3.out.res 1).trans rfl;have hf0 := kf_ P3.out.res 0;have hf1 := kf_ P3.out.res 1;have hx0 := (kc_ P3.out.box 0).trans rfl;have hx1 := (kc_ P3.out.box 1).trans rfl;have hy0 := kf_ P3.out.box 0;have hy1 := kf_ P3.out.box 1)|(go_at_call 43;have P3' := P3.out.put0 (m := n);refine (HD.out _).mono ?_;rintro e w6 ⟨rfl,hb6⟩;have P6 := sd_ (P3'.step hb6);clear P3 P3' hb6 hr0 hr1 hf0 hf1 hx0 hx1 hy0 hy1;have hr0 := (kc_ P6.out.res 0).trans rfl;have hr1 := (kc_ P6.out.res 1).trans rfl;have hf0 := kf_ P6.out.res 0;have hf1 := kf_ P6.out.res 1;have hx0 := (kc_ P6.out.box 0).trans rfl;have hx1 := (kc_ P6.out.box 1).trans rfl;have hy0 := kf_ P6.out.box 0;have hy1 := kf_ P6.out.box 1)|(go_at_call 27;have P3' := P6.out.put1 (m := d);refine (rat_Text.calls k n d t _ ⟨LaidE.below hE.out P3'.bel⟩ HT.out).mono ?_;rintro e w4 ⟨rfl,hb4⟩;have P4 := sd_ (P3'.step hb4);clear P6 P3' hb4 hr0 hr1 hf0 hf1 hx0 hx1 hy0 hy1;have hr0 := (kc_ P4.out.res 0).trans rfl;have hr1 := (kc_ P4.out.res 1).trans rfl;have hf0 := kf_ P4.out.res 0;have hf1 := kf_ P4.out.res 1;have hx0 := (kc_ P4.out.box 0).trans rfl;have hx1 := (kc_ P4.out.box 1).trans rfl;have hy0 := kf_ P4.out.box 0;have hy1 := kf_ P4.out.box 1)|(go_at_call 32;refine (rat_zero.calls 0 0 _ rfl).mono ?_;rintro e w5 ⟨rfl,hb5⟩;have P5 := sd_ (P4.out.step hb5);clear P4 hb5 hr0 hr1 hf0 hf1 hx0 hx1 hy0 hy1;have hr0 := (kc_ P5.out.res 0).trans rfl;have hr1 := (kc_ P5.out.res 1).trans rfl;have hf0 := kf_ P5.out.res 0;have hf1 := kf_ P5.out.res 1;have hx0 := (kc_ P5.out.box 0).trans rfl;have hx1 := (kc_ P5.out.box 1).trans rfl;have hy0 := kf_ P5.out.box 0;have hy1 := kf_ P5.out.box 1))
    refine bodyPost_ret (results_ct rfl _ _ w.heap.size 23 #[.int .i64 0,.int .i64 0] (0,0) _ rfl (by refine blk_put (cs := #[.int .i64 0,.int .i64 0]) ?_ 1 _ rfl;refine blk_put (cs := #[.int .i64 0,.int .i64 0]) ?_ 0 _ rfl;exact P5.out.res) Tryd.underlying23 rfl (by kernel_rfl)) rfl ?_
    exact ⟨rfl,bs_ (bs_ P5.out.bel (Nat.le_refl _)) (Nat.le_refl _)⟩
   ·rw [if_neg c2] at H
    have q3 : s.toList.isEmpty = false := by
     cases hh : s.toList.isEmpty with
     | false => rfl
     | true => exact absurd ((List.isEmpty_iff.1 hh).trans empty_toList.symm) c2
    clear c2
    have H' := Option.some.inj H.out
    clear H
    simp only [Prod.mk.injEq] at H'
    obtain ⟨rfl,rfl,rfl⟩ := H'
    go_enter Tryd.func21,Tryd.ntmps21
    go_wp2_with (first|(go_at_call 42;refine (HC.out _).mono ?_;rintro e w1 ⟨rfl,n1,rfl⟩)|(go_at_call 38;refine (rat_whole.calls 0 0 1 _ rfl).mono ?_;rintro e w2 ⟨rfl,hb2⟩;have HB2 := sd_ hb2;clear hb2)|(go_at_call 43;have P2 := PB.start HB2.out;refine (HA.out _).mono ?_;rintro e w3 ⟨rfl,hb3⟩;have P3 := sd_ (P2.step hb3);clear HB2 P2 hb3;generalize w2.heap.size = g at P3 ⊢;have hr0 := (kc_ P3.out.res 0).trans rfl;have hr1 := (kc_ P3.out.res 1).trans rfl;have hf0 := kf_ P3.out.res 0;have hf1 := kf_ P3.out.res 1;have hx0 := (kc_ P3.out.box 0).trans rfl;have hx1 := (kc_ P3.out.box 1).trans rfl;have hy0 := kf_ P3.out.box 0;have hy1 := kf_ P3.out.box 1)|(go_at_call 43;have P3' := P3.out.put0 (m := n);refine (HD.out _).mono ?_;rintro e w6 ⟨rfl,hb6⟩;have P6 := sd_ (P3'.step hb6);clear P3 P3' hb6 hr0 hr1 hf0 hf1 hx0 hx1 hy0 hy1;have hr0 := (kc_ P6.out.res 0).trans rfl;have hr1 := (kc_ P6.out.res 1).trans rfl;have hf0 := kf_ P6.out.res 0;have hf1 := kf_ P6.out.res 1;have hx0 := (kc_ P6.out.box 0).trans rfl;have hx1 := (kc_ P6.out.box 1).trans rfl;have hy0 := kf_ P6.out.box 0;have hy1 := kf_ P6.out.box 1)|(go_at_call 27;have P3' := P6.out.put1 (m := d);refine (rat_Text.calls k n d t _ ⟨LaidE.below hE.out P3'.bel⟩ HT.out).mono ?_;rintro e w4 ⟨rfl,hb4⟩;have P4 := sd_ (P3'.step hb4);clear P6 P3' hb4 hr0 hr1 hf0 hf1 hx0 hx1 hy0 hy1;have hr0 := (kc_ P4.out.res 0).trans rfl;have hr1 := (kc_ P4.out.res 1).trans rfl;have hf0 := kf_ P4.out.res 0;have hf1 := kf_ P4.out.res 1;have hx0 := (kc_ P4.out.box 0).trans rfl;have hx1 := (kc_ P4.out.box 1).trans rfl;have hy0 := kf_ P4.out.box 0;have hy1 := kf_ P4.out.box 1)|(go_at_call 32;refine (rat_zero.calls 0 0 _ rfl).mono ?_;rintro e w5 ⟨rfl,hb5⟩;have P5 := sd_ (P4.out.step hb5);clear P4 hb5 hr0 hr1 hf0 hf1 hx0 hx1 hy0 hy1;have hr0 := (kc_ P5.out.res 0).trans rfl;have hr1 := (kc_ P5.out.res 1).trans rfl;have hf0 := kf_ P5.out.res 0;have hf1 := kf_ P5.out.res 1;have hx0 := (kc_ P5.out.box 0).trans rfl;have hx1 := (kc_ P5.out.box 1).trans rfl;have hy0 := kf_ P5.out.box 0;have hy1 := kf_ P5.out.box 1))
    refine bodyPost_ret (results_ct rfl _ _ w.heap.size 23 #[.int .i64 n,.int .i64 d] (0,0) _ rfl (by refine blk_put (cs := #[.int .i64 n,.int .i64 0]) ?_ 1 _ rfl;refine blk_put (cs := #[.int .i64 0,.int .i64 0]) ?_ 0 _ rfl;exact P4.out.res) Tryd.underlying23 rfl (by kernel_rfl)) rfl ?_
    exact ⟨rfl,bs_ (bs_ P4.out.bel (Nat.le_refl _)) (Nat.le_refl _)⟩
  ·rw [if_neg c1] at H
   have q1 : (t.toList == s.toList) = false := beq_eq_false_iff_ne.mpr c1
   have q2 : (t.toList != s.toList) = true := bne_iff_ne.mpr c1
   clear c1
   have H' := Option.some.inj H.out
   clear H
   simp only [Prod.mk.injEq] at H'
   obtain ⟨rfl,rfl,rfl⟩ := H'
   go_enter Tryd.func21,Tryd.ntmps21
   go_wp2_with (first|(go_at_call 42;refine (HC.out _).mono ?_;rintro e w1 ⟨rfl,n1,rfl⟩)|(go_at_call 38;refine (rat_whole.calls 0 0 1 _ rfl).mono ?_;rintro e w2 ⟨rfl,hb2⟩;have HB2 := sd_ hb2;clear hb2)|(go_at_call 43;have P2 := PB.start HB2.out;refine (HA.out _).mono ?_;rintro e w3 ⟨rfl,hb3⟩;have P3 := sd_ (P2.step hb3);clear HB2 P2 hb3;generalize w2.heap.size = g at P3 ⊢;have hr0 := (kc_ P3.out.res 0).trans rfl;have hr1 := (kc_ P3.out.res 1).trans rfl;have hf0 := kf_ P3.out.res 0;have hf1 := kf_ P3.out.res 1;have hx0 := (kc_ P3.out.box 0).trans rfl;have hx1 := (kc_ P3.out.box 1).trans rfl;have hy0 := kf_ P3.out.box 0;have hy1 := kf_ P3.out.box 1)|(go_at_call 43;have P3' := P3.out.put0 (m := n);refine (HD.out _).mono ?_;rintro e w6 ⟨rfl,hb6⟩;have P6 := sd_ (P3'.step hb6);clear P3 P3' hb6 hr0 hr1 hf0 hf1 hx0 hx1 hy0 hy1;have hr0 := (kc_ P6.out.res 0).trans rfl;have hr1 := (kc_ P6.out.res 1).trans rfl;have hf0 := kf_ P6.out.res 0;have hf1 := kf_ P6.out.res 1;have hx0 := (kc_ P6.out.box 0).trans rfl;have hx1 := (kc_ P6.out.box 1).trans rfl;have hy0 := kf_ P6.out.box 0;have hy1 := kf_ P6.out.box 1)|(go_at_call 27;have P3' := P6.out.put1 (m := d);refine (rat_Text.calls k n d t _ ⟨LaidE.below hE.out P3'.bel⟩ HT.out).mono ?_;rintro e w4 ⟨rfl,hb4⟩;have P4 := sd_ (P3'.step hb4);clear P6 P3' hb4 hr0 hr1 hf0 hf1 hx0 hx1 hy0 hy1;have hr0 := (kc_ P4.out.res 0).trans rfl;have hr1 := (kc_ P4.out.res 1).trans rfl;have hf0 := kf_ P4.out.res 0;have hf1 := kf_ P4.out.res 1;have hx0 := (kc_ P4.out.box 0).trans rfl;have hx1 := (kc_ P4.out.box 1).trans rfl;have hy0 := kf_ P4.out.box 0;have hy1 := kf_ P4.out.box 1)|(go_at_call 32;refine (rat_zero.calls 0 0 _ rfl).mono ?_;rintro e w5 ⟨rfl,hb5⟩;have P5 := sd_ (P4.out.step hb5);clear P4 hb5 hr0 hr1 hf0 hf1 hx0 hx1 hy0 hy1;have hr0 := (kc_ P5.out.res 0).trans rfl;have hr1 := (kc_ P5.out.res 1).trans rfl;have hf0 := kf_ P5.out.res 0;have hf1 := kf_ P5.out.res 1;have hx0 := (kc_ P5.out.box 0).trans rfl;have hx1 := (kc_ P5.out.box 1).trans rfl;have hy0 := kf_ P5.out.box 0;have hy1 := kf_ P5.out.box 1))
   refine bodyPost_ret (results_ct rfl _ _ w.heap.size 23 #[.int .i64 0,.int .i64 0] (0,0) _ rfl (by refine blk_put (cs := #[.int .i64 0,.int .i64 0]) ?_ 1 _ rfl;refine blk_put (cs := #[.int .i64 0,.int .i64 0]) ?_ 0 _ rfl;exact P5.out.res) Tryd.underlying23 rfl (by kernel_rfl)) rfl ?_
   exact ⟨rfl,bs_ (bs_ P5.out.bel (Nat.le_refl _)) (Nat.le_refl _)⟩
theorem rat_Parse.mono : ∀ s k, LeO (rat_Parse.f k s) (rat_Parse.f (k + 1) s) := by
 intro s k
 have e : ∀ n d,LeO (parse_end k s n d) (parse_end (k + 1) s n d) := fun n d => by
  unfold parse_end
  exact LeO.bind (rat_Text.mono _ _ _) (fun _ => LeO.refl _)
 unfold rat_Parse.f
 split
 ·split
  ·exact LeO.refl _
  ·split
   ·split
    ·exact LeO.refl _
    ·exact e _ _
   ·exact e _ _
 ·exact LeO.refl _
theorem rat_Parse.calls (k : Nat) (s : ByteArray) (r1 r2 : Int) (r3 : Bool) (w : World) (hE : Aside0 (LaidE w)) (h : rat_Parse.f k s = some (r1, r2, r3)) :
  Calls Tryd.prog 21 #[.string s] w fun e w' => e = .returned (.tuple #[.agg #[.int .i64 r1,.int .i64 r2],.bool r3]) ∧ Below w.heap.size w w' := by
 unfold rat_Parse.f at h
 split at h
 ·rename_i hs
  split at h
  ·rename_i ha
   obtain ⟨rfl,rfl,rfl⟩ : 0 = r1 ∧ 0 = r2 ∧ false = r3 := by simpa using h
   exact parse_a s hs w hE ha
  ·rename_i n ha
   split at h
   ·rename_i hc
    split at h
    ·rename_i hd
     obtain ⟨rfl,rfl,rfl⟩ : 0 = r1 ∧ 0 = r2 ∧ false = r3 := by simpa using h
     exact parse_c s n hs w hE ha hc hd
    ·rename_i d hd
     exact parse_d k s n d r1 r2 r3 hs w hE ha hc hd h
   ·rename_i hc
    exact parse_b k s n r1 r2 r3 hs w hE ha (by simpa using hc) h
 ·exact absurd h (by simp)

/-! ### rat_Cmp: function 23 -/
def rat_Cmp.f (k : Nat) (a0_0 : Int) (a0_1 : Int) (a1_0 : Int) (a1_1 : Int) : Option (Int) := (rat_both.f k a0_0 a0_1 a1_0 a1_1).bind fun t291 => (if t291 = true then (if (wrap64 (a0_0 * a1_1)) = (wrap64 (a1_0 * a0_1)) then (some 0) else (if (wrap64 (a0_0 * a1_1)) < (wrap64 (a1_0 * a0_1)) then (some (-1)) else (some 1))) else (some 0))
theorem rat_Cmp.mono : ∀ a0 a1 a2 a3 k, LeO (rat_Cmp.f k a0 a1 a2 a3) (rat_Cmp.f (k + 1) a0 a1 a2 a3) := by
 intro a0 a1 a2 a3 k
 unfold rat_Cmp.f
 repeat' first
   | (with_reducible exact rat_both.mono _ _ _ _ _)
   | (with_reducible exact LeO.refl _)
   | (with_reducible exact LeO.none _)
   | (with_reducible refine LeO.ite ?_ ?_)
   | (with_reducible refine LeO.bind ?_ (fun _ => ?_))
   | exact rat_both.mono _ _ _ _ _
   | exact LeO.none _
   | refine LeO.ite ?_ ?_
   | refine LeO.bind ?_ (fun _ => ?_)
set_option maxHeartbeats 8000000 in
set_option maxRecDepth 100000 in
theorem rat_Cmp.calls (k : Nat) (a0_0 : Int) (a0_1 : Int) (a1_0 : Int) (a1_1 : Int) (r : Int) (w : World) (h : rat_Cmp.f k a0_0 a0_1 a1_0 a1_1 = some r) :
  Calls Tryd.prog 23 #[.agg #[.int .i64 a0_0,.int .i64 a0_1],.agg #[.int .i64 a1_0,.int .i64 a1_1]] w fun e w' => e = .returned (.int .i64 r) ∧ Below w.heap.size w w' := by
 have hu23 := Tryd.underlying23
 have HB := sd_ (Below.refl w.heap.size w)
 have H : ((rat_both.f k a0_0 a0_1 a1_0 a1_1).bind fun t291 => (if t291 = true then (if (wrap64 (a0_0 * a1_1)) = (wrap64 (a1_0 * a0_1)) then (some 0) else (if (wrap64 (a0_0 * a1_1)) < (wrap64 (a1_0 * a0_1)) then (some (-1)) else (some 1))) else (some 0))) = some r := h
 clear h
 replace H := ob_ H
 obtain ⟨t291,A30,H⟩ := H
 replace H : (if t291 = true then (if (wrap64 (a0_0 * a1_1)) = (wrap64 (a1_0 * a0_1)) then (some 0) else (if (wrap64 (a0_0 * a1_1)) < (wrap64 (a1_0 * a0_1)) then (some (-1)) else (some 1))) else (some 0)) = some r := H
 have A3 := sd_ A30
 clear A30
 by_cases c4 : t291 = true
 ·subst c4
  have H1 : (if (wrap64 (a0_0 * a1_1)) = (wrap64 (a1_0 * a0_1)) then (some 0) else (if (wrap64 (a0_0 * a1_1)) < (wrap64 (a1_0 * a0_1)) then (some (-1)) else (some 1))) = some r := by rw [if_pos rfl] at H;exact H
  clear H;have H := H1;clear H1
  by_cases c5 : (wrap64 (a0_0 * a1_1)) = (wrap64 (a1_0 * a0_1))
  ·rw [if_pos c5] at H
   have c5b0 : ((wrap64 (a0_0 * a1_1)) == (wrap64 (a1_0 * a0_1))) = true := beq_iff_eq.mpr c5
   have c5b1 : ((wrap64 (a0_0 * a1_1)) != (wrap64 (a1_0 * a0_1))) = false := bne_eq_false_iff_eq.mpr c5
   clear c5
   obtain rfl := Option.some.inj H
   go_enter Tryd.func23,Tryd.ntmps23
   go_wp2_with (first|((with_reducible refine gate_dst (N := 2) rfl ?_);refine box_event ?hg (N := 2) ?hd (cs := #[.int .i64 a0_0,.int .i64 a0_1]) (t := 23) ?hr ?_;(case hd => rfl);(case hg => rfl);(case hr => first|(go_simp;done)|(go_simp;rfl));intro gb289 hg w6 hbox hb;have BK289 := sd_ hbox;have GW289 := gw_ HB e0_ hg;have GE289 := GW289;replace HB := hb_ HB e0_ hb;clear hb hbox hg)|((with_reducible refine gate_dst (N := 3) rfl ?_);refine box_event ?hg (N := 3) ?hd (cs := #[.int .i64 a1_0,.int .i64 a1_1]) (t := 23) ?hr ?_;(case hd => rfl);(case hg => rfl);(case hr => first|(go_simp;done)|(go_simp;rfl));intro gb290 hg w7 hbox hb;have BK290 := sd_ hbox;have GW290 := gw_ HB (e_ GE289 e0_) hg;have GE290 := GW290;have NB289_290 := nb_ BK289 hg;have NB290_289 := sy_ NB289_290;replace BK289 := kb_ BK289 hb;replace HB := hb_ HB (e_ GE289 e0_) hb;clear hb hbox hg;have hnb8 := NB289_290.out;have hnc8 := NB290_289.out;have hcz9_0 : w7.cell? ⟨gb289,0,none⟩ = some (.int .i64 a0_0) := (kc_ BK289.out 0).trans rfl;have hcz9_1 : w7.cell? ⟨gb289,1,none⟩ = some (.int .i64 a0_1) := (kc_ BK289.out 1).trans rfl;have hfz9_0 := kf_ BK289.out 0;have hfz9_1 := kf_ BK289.out 1;have hcz10_0 : w7.cell? ⟨gb290,0,none⟩ = some (.int .i64 a1_0) := (kc_ BK290.out 0).trans rfl;have hcz10_1 : w7.cell? ⟨gb290,1,none⟩ = some (.int .i64 a1_1) := (kc_ BK290.out 1).trans rfl;have hfz10_0 := kf_ BK290.out 0;have hfz10_1 := kf_ BK290.out 1)|(go_at_call 31;(with_reducible refine (rat_both.calls k a0_0 a0_1 a1_0 a1_1 true _ A3.out).mono ?_);rintro e w11 ⟨rfl,hb⟩;replace BK289 := kb_ BK289 hb;replace BK290 := kb_ BK290 hb;replace HB := hb_ HB (e_ GE289 (e_ GE290 e0_)) hb;(try clear hb);(try clear hb2);(try clear hk);(try clear hi);have hcz12_0 : w11.cell? ⟨gb289,0,none⟩ = some (.int .i64 a0_0) := (kc_ BK289.out 0).trans rfl;have hcz12_1 : w11.cell? ⟨gb289,1,none⟩ = some (.int .i64 a0_1) := (kc_ BK289.out 1).trans rfl;have hfz12_0 := kf_ BK289.out 0;have hfz12_1 := kf_ BK289.out 1;have hcz13_0 : w11.cell? ⟨gb290,0,none⟩ = some (.int .i64 a1_0) := (kc_ BK290.out 0).trans rfl;have hcz13_1 : w11.cell? ⟨gb290,1,none⟩ = some (.int .i64 a1_1) := (kc_ BK290.out 1).trans rfl;have hfz13_0 := kf_ BK290.out 0;have hfz13_1 := kf_ BK290.out 1))
   repeat (go_quiet (first|((with_reducible refine gate_dst (N := 2) rfl ?_);refine box_event ?hg (N := 2) ?hd (cs := #[.int .i64 a0_0,.int .i64 a0_1]) (t := 23) ?hr ?_;(case hd => rfl);(case hg => rfl);(case hr => first|(go_simp;done)|(go_simp;rfl));intro gb289 hg w6 hbox hb;have BK289 := sd_ hbox;have GW289 := gw_ HB e0_ hg;have GE289 := GW289;replace HB := hb_ HB e0_ hb;clear hb hbox hg)|((with_reducible refine gate_dst (N := 3) rfl ?_);refine box_event ?hg (N := 3) ?hd (cs := #[.int .i64 a1_0,.int .i64 a1_1]) (t := 23) ?hr ?_;(case hd => rfl);(case hg => rfl);(case hr => first|(go_simp;done)|(go_simp;rfl));intro gb290 hg w7 hbox hb;have BK290 := sd_ hbox;have GW290 := gw_ HB (e_ GE289 e0_) hg;have GE290 := GW290;have NB289_290 := nb_ BK289 hg;have NB290_289 := sy_ NB289_290;replace BK289 := kb_ BK289 hb;replace HB := hb_ HB (e_ GE289 e0_) hb;clear hb hbox hg;have hnb8 := NB289_290.out;have hnc8 := NB290_289.out;have hcz9_0 : w7.cell? ⟨gb289,0,none⟩ = some (.int .i64 a0_0) := (kc_ BK289.out 0).trans rfl;have hcz9_1 : w7.cell? ⟨gb289,1,none⟩ = some (.int .i64 a0_1) := (kc_ BK289.out 1).trans rfl;have hfz9_0 := kf_ BK289.out 0;have hfz9_1 := kf_ BK289.out 1;have hcz10_0 : w7.cell? ⟨gb290,0,none⟩ = some (.int .i64 a1_0) := (kc_ BK290.out 0).trans rfl;have hcz10_1 : w7.cell? ⟨gb290,1,none⟩ = some (.int .i64 a1_1) := (kc_ BK290.out 1).trans rfl;have hfz10_0 := kf_ BK290.out 0;have hfz10_1 := kf_ BK290.out 1)|(go_at_call 31;(with_reducible refine (rat_both.calls k a0_0 a0_1 a1_0 a1_1 true _ A3.out).mono ?_);rintro e w11 ⟨rfl,hb⟩;replace BK289 := kb_ BK289 hb;replace BK290 := kb_ BK290 hb;replace HB := hb_ HB (e_ GE289 (e_ GE290 e0_)) hb;(try clear hb);(try clear hb2);(try clear hk);(try clear hi);have hcz12_0 : w11.cell? ⟨gb289,0,none⟩ = some (.int .i64 a0_0) := (kc_ BK289.out 0).trans rfl;have hcz12_1 : w11.cell? ⟨gb289,1,none⟩ = some (.int .i64 a0_1) := (kc_ BK289.out 1).trans rfl;have hfz12_0 := kf_ BK289.out 0;have hfz12_1 := kf_ BK289.out 1;have hcz13_0 : w11.cell? ⟨gb290,0,none⟩ = some (.int .i64 a1_0) := (kc_ BK290.out 0).trans rfl;have hcz13_1 : w11.cell? ⟨gb290,1,none⟩ = some (.int .i64 a1_1) := (kc_ BK290.out 1).trans rfl;have hfz13_0 := kf_ BK290.out 0;have hfz13_1 := kf_ BK290.out 1));try go_wp2_with (first|((with_reducible refine gate_dst (N := 2) rfl ?_);refine box_event ?hg (N := 2) ?hd (cs := #[.int .i64 a0_0,.int .i64 a0_1]) (t := 23) ?hr ?_;(case hd => rfl);(case hg => rfl);(case hr => first|(go_simp;done)|(go_simp;rfl));intro gb289 hg w6 hbox hb;have BK289 := sd_ hbox;have GW289 := gw_ HB e0_ hg;have GE289 := GW289;replace HB := hb_ HB e0_ hb;clear hb hbox hg)|((with_reducible refine gate_dst (N := 3) rfl ?_);refine box_event ?hg (N := 3) ?hd (cs := #[.int .i64 a1_0,.int .i64 a1_1]) (t := 23) ?hr ?_;(case hd => rfl);(case hg => rfl);(case hr => first|(go_simp;done)|(go_simp;rfl));intro gb290 hg w7 hbox hb;have BK290 := sd_ hbox;have GW290 := gw_ HB (e_ GE289 e0_) hg;have GE290 := GW290;have NB289_290 := nb_ BK289 hg;have NB290_289 := sy_ NB289_290;replace BK289 := kb_ BK289 hb;replace HB := hb_ HB (e_ GE289 e0_) hb;clear hb hbox hg;have hnb8 := NB289_290.out;have hnc8 := NB290_289.out;have hcz9_0 : w7.cell? ⟨gb289,0,none⟩ = some (.int .i64 a0_0) := (kc_ BK289.out 0).trans rfl;have hcz9_1 : w7.cell? ⟨gb289,1,none⟩ = some (.int .i64 a0_1) := (kc_ BK289.out 1).trans rfl;have hfz9_0 := kf_ BK289.out 0;have hfz9_1 := kf_ BK289.out 1;have hcz10_0 : w7.cell? ⟨gb290,0,none⟩ = some (.int .i64 a1_0) := (kc_ BK290.out 0).trans rfl;have hcz10_1 : w7.cell? ⟨gb290,1,none⟩ = some (.int .i64 a1_1) := (kc_ BK290.out 1).trans rfl;have hfz10_0 := kf_ BK290.out 0;have hfz10_1 := kf_ BK290.out 1)|(go_at_call 31;(with_reducible refine (rat_both.calls k a0_0 a0_1 a1_0 a1_1 true _ A3.out).mono ?_);rintro e w11 ⟨rfl,hb⟩;replace BK289 := kb_ BK289 hb;replace BK290 := kb_ BK290 hb;replace HB := hb_ HB (e_ GE289 (e_ GE290 e0_)) hb;(try clear hb);(try clear hb2);(try clear hk);(try clear hi);have hcz12_0 : w11.cell? ⟨gb289,0,none⟩ = some (.int .i64 a0_0) := (kc_ BK289.out 0).trans rfl;have hcz12_1 : w11.cell? ⟨gb289,1,none⟩ = some (.int .i64 a0_1) := (kc_ BK289.out 1).trans rfl;have hfz12_0 := kf_ BK289.out 0;have hfz12_1 := kf_ BK289.out 1;have hcz13_0 : w11.cell? ⟨gb290,0,none⟩ = some (.int .i64 a1_0) := (kc_ BK290.out 0).trans rfl;have hcz13_1 : w11.cell? ⟨gb290,1,none⟩ = some (.int .i64 a1_1) := (kc_ BK290.out 1).trans rfl;have hfz13_0 := kf_ BK290.out 0;have hfz13_1 := kf_ BK290.out 1)))
   go_ret
   exact ⟨by first|rfl|(simp [errW_none,errW_some] <;> rfl)|(simp [*,errW_none,errW_some] <;> rfl),by repeat (first|(with_reducible first|exact HB.out|apply ba_|apply pd_|apply d1_|refine bs_ ?_ GE289.out|refine bs_ ?_ GE290.out)|exact HB.out)⟩
  ·rw [if_neg c5] at H
   have c5b0 : ((wrap64 (a0_0 * a1_1)) == (wrap64 (a1_0 * a0_1))) = false := beq_eq_false_iff_ne.mpr c5
   have c5b1 : ((wrap64 (a0_0 * a1_1)) != (wrap64 (a1_0 * a0_1))) = true := bne_iff_ne.mpr c5
   by_cases c14 : (wrap64 (a0_0 * a1_1)) < (wrap64 (a1_0 * a0_1))
   ·rw [if_pos c14] at H
    have c14b0 : decide ((wrap64 (a0_0 * a1_1)) < (wrap64 (a1_0 * a0_1))) = true := dt_ c14
    clear c14
    obtain rfl := Option.some.inj H
    go_enter Tryd.func23,Tryd.ntmps23
    go_wp2_with (first|((with_reducible refine gate_dst (N := 2) rfl ?_);refine box_event ?hg (N := 2) ?hd (cs := #[.int .i64 a0_0,.int .i64 a0_1]) (t := 23) ?hr ?_;(case hd => rfl);(case hg => rfl);(case hr => first|(go_simp;done)|(go_simp;rfl));intro gb289 hg w15 hbox hb;have BK289 := sd_ hbox;have GW289 := gw_ HB e0_ hg;have GE289 := GW289;replace HB := hb_ HB e0_ hb;clear hb hbox hg)|((with_reducible refine gate_dst (N := 3) rfl ?_);refine box_event ?hg (N := 3) ?hd (cs := #[.int .i64 a1_0,.int .i64 a1_1]) (t := 23) ?hr ?_;(case hd => rfl);(case hg => rfl);(case hr => first|(go_simp;done)|(go_simp;rfl));intro gb290 hg w16 hbox hb;have BK290 := sd_ hbox;have GW290 := gw_ HB (e_ GE289 e0_) hg;have GE290 := GW290;have NB289_290 := nb_ BK289 hg;have NB290_289 := sy_ NB289_290;replace BK289 := kb_ BK289 hb;replace HB := hb_ HB (e_ GE289 e0_) hb;clear hb hbox hg;have hnb17 := NB289_290.out;have hnc17 := NB290_289.out;have hcz18_0 : w16.cell? ⟨gb289,0,none⟩ = some (.int .i64 a0_0) := (kc_ BK289.out 0).trans rfl;have hcz18_1 : w16.cell? ⟨gb289,1,none⟩ = some (.int .i64 a0_1) := (kc_ BK289.out 1).trans rfl;have hfz18_0 := kf_ BK289.out 0;have hfz18_1 := kf_ BK289.out 1;have hcz19_0 : w16.cell? ⟨gb290,0,none⟩ = some (.int .i64 a1_0) := (kc_ BK290.out 0).trans rfl;have hcz19_1 : w16.cell? ⟨gb290,1,none⟩ = some (.int .i64 a1_1) := (kc_ BK290.out 1).trans rfl;have hfz19_0 := kf_ BK290.out 0;have hfz19_1 := kf_ BK290.out 1)|(go_at_call 31;(with_reducible refine (rat_both.calls k a0_0 a0_1 a1_0 a1_1 true _ A3.out).mono ?_);rintro e w20 ⟨rfl,hb⟩;replace BK289 := kb_ BK289 hb;replace BK290 := kb_ BK290 hb;replace HB := hb_ HB (e_ GE289 (e_ GE290 e0_)) hb;(try clear hb);(try clear hb2);(try clear hk);(try clear hi);have hcz21_0 : w20.cell? ⟨gb289,0,none⟩ = some (.int .i64 a0_0) := (kc_ BK289.out 0).trans rfl;have hcz21_1 : w20.cell? ⟨gb289,1,none⟩ = some (.int .i64 a0_1) := (kc_ BK289.out 1).trans rfl;have hfz21_0 := kf_ BK289.out 0;have hfz21_1 := kf_ BK289.out 1;have hcz22_0 : w20.cell? ⟨gb290,0,none⟩ = some (.int .i64 a1_0) := (kc_ BK290.out 0).trans rfl;have hcz22_1 : w20.cell? ⟨gb290,1,none⟩ = some (.int .i64 a1_1) := (kc_ BK290.out 1).trans rfl;have hfz22_0 := kf_ BK290.out 0;have hfz22_1 := kf_ BK290.out 1))
    repeat (go_quiet (first|((with_reducible refine gate_dst (N := 2) rfl ?_);refine box_event ?hg (N := 2) ?hd (cs := #[.int .i64 a0_0,.int .i64 a0_1]) (t := 23) ?hr ?_;(case hd => rfl);(case hg => rfl);(case hr => first|(go_simp;done)|(go_simp;rfl));intro gb289 hg w15 hbox hb;have BK289 := sd_ hbox;have GW289 := gw_ HB e0_ hg;have GE289 := GW289;replace HB := hb_ HB e0_ hb;clear hb hbox hg)|((with_reducible refine gate_dst (N := 3) rfl ?_);refine box_event ?hg (N := 3) ?hd (cs := #[.int .i64 a1_0,.int .i64 a1_1]) (t := 23) ?hr ?_;(case hd => rfl);(case hg => rfl);(case hr => first|(go_simp;done)|(go_simp;rfl));intro gb290 hg w16 hbox hb;have BK290 := sd_ hbox;have GW290 := gw_ HB (e_ GE289 e0_) hg;have GE290 := GW290;have NB289_290 := nb_ BK289 hg;have NB290_289 := sy_ NB289_290;replace BK289 := kb_ BK289 hb;replace HB := hb_ HB (e_ GE289 e0_) hb;clear hb hbox hg;have hnb17 := NB289_290.out;have hnc17 := NB290_289.out;have hcz18_0 : w16.cell? ⟨gb289,0,none⟩ = some (.int .i64 a0_0) := (kc_ BK289.out 0).trans rfl;have hcz18_1 : w16.cell? ⟨gb289,1,none⟩ = some (.int .i64 a0_1) := (kc_ BK289.out 1).trans rfl;have hfz18_0 := kf_ BK289.out 0;have hfz18_1 := kf_ BK289.out 1;have hcz19_0 : w16.cell? ⟨gb290,0,none⟩ = some (.int .i64 a1_0) := (kc_ BK290.out 0).trans rfl;have hcz19_1 : w16.cell? ⟨gb290,1,none⟩ = some (.int .i64 a1_1) := (kc_ BK290.out 1).trans rfl;have hfz19_0 := kf_ BK290.out 0;have hfz19_1 := kf_ BK290.out 1)|(go_at_call 31;(with_reducible refine (rat_both.calls k a0_0 a0_1 a1_0 a1_1 true _ A3.out).mono ?_);rintro e w20 ⟨rfl,hb⟩;replace BK289 := kb_ BK289 hb;replace BK290 := kb_ BK290 hb;replace HB := hb_ HB (e_ GE289 (e_ GE290 e0_)) hb;(try clear hb);(try clear hb2);(try clear hk);(try clear hi);have hcz21_0 : w20.cell? ⟨gb289,0,none⟩ = some (.int .i64 a0_0) := (kc_ BK289.out 0).trans rfl;have hcz21_1 : w20.cell? ⟨gb289,1,none⟩ = some (.int .i64 a0_1) := (kc_ BK289.out 1).trans rfl;have hfz21_0 := kf_ BK289.out 0;have hfz21_1 := kf_ BK289.out 1;have hcz22_0 : w20.cell? ⟨gb290,0,none⟩ = some (.int .i64 a1_0) := (kc_ BK290.out 0).trans rfl;have hcz22_1 : w20.cell? ⟨gb290,1,none⟩ = some (.int .i64 a1_1) := (kc_ BK290.out 1).trans rfl;have hfz22_0 := kf_ BK290.out 0;have hfz22_1 := kf_ BK290.out 1));try go_wp2_with (first|((with_reducible refine gate_dst (N := 2) rfl ?_);refine box_event ?hg (N := 2) ?hd (cs := #[.int .i64 a0_0,.int .i64 a0_1]) (t := 23) ?hr ?_;(case hd => rfl);(case hg => rfl);(case hr => first|(go_simp;done)|(go_simp;rfl));intro gb289 hg w15 hbox hb;have BK289 := sd_ hbox;have GW289 := gw_ HB e0_ hg;have GE289 := GW289;replace HB := hb_ HB e0_ hb;clear hb hbox hg)|((with_reducible refine gate_dst (N := 3) rfl ?_);refine box_event ?hg (N := 3) ?hd (cs := #[.int .i64 a1_0,.int .i64 a1_1]) (t := 23) ?hr ?_;(case hd => rfl);(case hg => rfl);(case hr => first|(go_simp;done)|(go_simp;rfl));intro gb290 hg w16 hbox hb;have BK290 := sd_ hbox;have GW290 := gw_ HB (e_ GE289 e0_) hg;have GE290 := GW290;have NB289_290 := nb_ BK289 hg;have NB290_289 := sy_ NB289_290;replace BK289 := kb_ BK289 hb;replace HB := hb_ HB (e_ GE289 e0_) hb;clear hb hbox hg;have hnb17 := NB289_290.out;have hnc17 := NB290_289.out;have hcz18_0 : w16.cell? ⟨gb289,0,none⟩ = some (.int .i64 a0_0) := (kc_ BK289.out 0).trans rfl;have hcz18_1 : w16.cell? ⟨gb289,1,none⟩ = some (.int .i64 a0_1) := (kc_ BK289.out 1).trans rfl;have hfz18_0 := kf_ BK289.out 0;have hfz18_1 := kf_ BK289.out 1;have hcz19_0 : w16.cell? ⟨gb290,0,none⟩ = some (.int .i64 a1_0) := (kc_ BK290.out 0).trans rfl;have hcz19_1 : w16.cell? ⟨gb290,1,none⟩ = some (.int .i64 a1_1) := (kc_ BK290.out 1).trans rfl;have hfz19_0 := kf_ BK290.out 0;have hfz19_1 := kf_ BK290.out 1)|(go_at_call 31;(with_reducible refine (rat_both.calls k a0_0 a0_1 a1_0 a1_1 true _ A3.out).mono ?_);rintro e w20 ⟨rfl,hb⟩;replace BK289 := kb_ BK289 hb;replace BK290 := kb_ BK290 hb;replace HB := hb_ HB (e_ GE289 (e_ GE290 e0_)) hb;(try clear hb);(try clear hb2);(try clear hk);(try clear hi);have hcz21_0 : w20.cell? ⟨gb289,0,none⟩ = some (.int .i64 a0_0) := (kc_ BK289.out 0).trans rfl;have hcz21_1 : w20.cell? ⟨gb289,1,none⟩ = some (.int .i64 a0_1) := (kc_ BK289.out 1).trans rfl;have hfz21_0 := kf_ BK289.out 0;have hfz21_1 := kf_ BK289.out 1;have hcz22_0 : w20.cell? ⟨gb290,0,none⟩ = some (.int .i64 a1_0) := (kc_ BK290.out 0).trans rfl;have hcz22_1 : w20.cell? ⟨gb290,1,none⟩ = some (.int .i64 a1_1) := (kc_ BK290.out 1).trans rfl;have hfz22_0 := kf_ BK290.out 0;have hfz22_1 := kf_ BK290.out 1)))
    go_ret
    exact ⟨by first|rfl|(simp [errW_none,errW_some] <;> rfl)|(simp [*,errW_none,errW_some] <;> rfl),by repeat (first|(with_reducible first|exact HB.out|apply ba_|apply pd_|apply d1_|refine bs_ ?_ GE289.out|refine bs_ ?_ GE290.out)|exact HB.out)⟩
   ·rw [if_neg c14] at H
    have c14b0 : decide ((wrap64 (a0_0 * a1_1)) < (wrap64 (a1_0 * a0_1))) = false := df_ c14
    clear c14
    obtain rfl := Option.some.inj H
    go_enter Tryd.func23,Tryd.ntmps23
    go_wp2_with (first|((with_reducible refine gate_dst (N := 2) rfl ?_);refine box_event ?hg (N := 2) ?hd (cs := #[.int .i64 a0_0,.int .i64 a0_1]) (t := 23) ?hr ?_;(case hd => rfl);(case hg => rfl);(case hr => first|(go_simp;done)|(go_simp;rfl));intro gb289 hg w23 hbox hb;have BK289 := sd_ hbox;have GW289 := gw_ HB e0_ hg;have GE289 := GW289;replace HB := hb_ HB e0_ hb;clear hb hbox hg)|((with_reducible refine gate_dst (N := 3) rfl ?_);refine box_event ?hg (N := 3) ?hd (cs := #[.int .i64 a1_0,.int .i64 a1_1]) (t := 23) ?hr ?_;(case hd => rfl);(case hg => rfl);(case hr => first|(go_simp;done)|(go_simp;rfl));intro gb290 hg w24 hbox hb;have BK290 := sd_ hbox;have GW290 := gw_ HB (e_ GE289 e0_) hg;have GE290 := GW290;have NB289_290 := nb_ BK289 hg;have NB290_289 := sy_ NB289_290;replace BK289 := kb_ BK289 hb;replace HB := hb_ HB (e_ GE289 e0_) hb;clear hb hbox hg;have hnb25 := NB289_290.out;have hnc25 := NB290_289.out;have hcz26_0 : w24.cell? ⟨gb289,0,none⟩ = some (.int .i64 a0_0) := (kc_ BK289.out 0).trans rfl;have hcz26_1 : w24.cell? ⟨gb289,1,none⟩ = some (.int .i64 a0_1) := (kc_ BK289.out 1).trans rfl;have hfz26_0 := kf_ BK289.out 0;have hfz26_1 := kf_ BK289.out 1;have hcz27_0 : w24.cell? ⟨gb290,0,none⟩ = some (.int .i64 a1_0) := (kc_ BK290.out 0).trans rfl;have hcz27_1 : w24.cell? ⟨gb290,1,none⟩ = some (.int .i64 a1_1) := (kc_ BK290.out 1).trans rfl;have hfz27_0 := kf_ BK290.out 0;have hfz27_1 := kf_ BK290.out 1)|(go_at_call 31;(with_reducible refine (rat_both.calls k a0_0 a0_1 a1_0 a1_1 true _ A3.out).mono ?_);rintro e w28 ⟨rfl,hb⟩;replace BK289 := kb_ BK289 hb;replace BK290 := kb_ BK290 hb;replace HB := hb_ HB (e_ GE289 (e_ GE290 e0_)) hb;(try clear hb);(try clear hb2);(try clear hk);(try clear hi);have hcz29_0 : w28.cell? ⟨gb289,0,none⟩ = some (.int .i64 a0_0) := (kc_ BK289.out 0).trans rfl;have hcz29_1 : w28.cell? ⟨gb289,1,none⟩ = some (.int .i64 a0_1) := (kc_ BK289.out 1).trans rfl;have hfz29_0 := kf_ BK289.out 0;have hfz29_1 := kf_ BK289.out 1;have hcz30_0 : w28.cell? ⟨gb290,0,none⟩ = some (.int .i64 a1_0) := (kc_ BK290.out 0).trans rfl;have hcz30_1 : w28.cell? ⟨gb290,1,none⟩ = some (.int .i64 a1_1) := (kc_ BK290.out 1).trans rfl;have hfz30_0 := kf_ BK290.out 0;have hfz30_1 := kf_ BK290.out 1))
    repeat (go_quiet (first|((with_reducible refine gate_dst (N := 2) rfl ?_);refine box_event ?hg (N := 2) ?hd (cs := #[.int .i64 a0_0,.int .i64 a0_1]) (t := 23) ?hr ?_;(case hd => rfl);(case hg => rfl);(case hr => first|(go_simp;done)|(go_simp;rfl));intro gb289 hg w23 hbox hb;have BK289 := sd_ hbox;have GW289 := gw_ HB e0_ hg;have GE289 := GW289;replace HB := hb_ HB e0_ hb;clear hb hbox hg)|((with_reducible refine gate_dst (N := 3) rfl ?_);refine box_event ?hg (N := 3) ?hd (cs := #[.int .i64 a1_0,.int .i64 a1_1]) (t := 23) ?hr ?_;(case hd => rfl);(case hg => rfl);(case hr => first|(go_simp;done)|(go_simp;rfl));intro gb290 hg w24 hbox hb;have BK290 := sd_ hbox;have GW290 := gw_ HB (e_ GE289 e0_) hg;have GE290 := GW290;have NB289_290 := nb_ BK289 hg;have NB290_289 := sy_ NB289_290;replace BK289 := kb_ BK289 hb;replace HB := hb_ HB (e_ GE289 e0_) hb;clear hb hbox hg;have hnb25 := NB289_290.out;have hnc25 := NB290_289.out;have hcz26_0 : w24.cell? ⟨gb289,0,none⟩ = some (.int .i64 a0_0) := (kc_ BK289.out 0).trans rfl;have hcz26_1 : w24.cell? ⟨gb289,1,none⟩ = some (.int .i64 a0_1) := (kc_ BK289.out 1).trans rfl;have hfz26_0 := kf_ BK289.out 0;have hfz26_1 := kf_ BK289.out 1;have hcz27_0 : w24.cell? ⟨gb290,0,none⟩ = some (.int .i64 a1_0) := (kc_ BK290.out 0).trans rfl;have hcz27_1 : w24.cell? ⟨gb290,1,none⟩ = some (.int .i64 a1_1) := (kc_ BK290.out 1).trans rfl;have hfz27_0 := kf_ BK290.out 0;have hfz27_1 := kf_ BK290.out 1)|(go_at_call 31;(with_reducible refine (rat_both.calls k a0_0 a0_1 a1_0 a1_1 true _ A3.out).mono ?_);rintro e w28 ⟨rfl,hb⟩;replace BK289 := kb_ BK289 hb;replace BK290 := kb_ BK290 hb;replace HB := hb_ HB (e_ GE289 (e_ GE290 e0_)) hb;(try clear hb);(try clear hb2);(try clear hk);(try clear hi);have hcz29_0 : w28.cell? ⟨gb289,0,none⟩ = some (.int .i64 a0_0) := (kc_ BK289.out 0).trans rfl;have hcz29_1 : w28.cell? ⟨gb289,1,none⟩ = some (.int .i64 a0_1) := (kc_ BK289.out 1).trans rfl;have hfz29_0 := kf_ BK289.out 0;have hfz29_1 := kf_ BK289.out 1;have hcz30_0 : w28.cell? ⟨gb290,0,none⟩ = some (.int .i64 a1_0) := (kc_ BK290.out 0).trans rfl;have hcz30_1 : w28.cell? ⟨gb290,1,none⟩ = some (.int .i64 a1_1) := (kc_ BK290.out 1).trans rfl;have hfz30_0 := kf_ BK290.out 0;have hfz30_1 := kf_ BK290.out 1));try go_wp2_with (first|((with_reducible refine gate_dst (N := 2) rfl ?_);refine box_event ?hg (N := 2) ?hd (cs := #[.int .i64 a0_0,.int .i64 a0_1]) (t := 23) ?hr ?_;(case hd => rfl);(case hg => rfl);(case hr => first|(go_simp;done)|(go_simp;rfl));intro gb289 hg w23 hbox hb;have BK289 := sd_ hbox;have GW289 := gw_ HB e0_ hg;have GE289 := GW289;replace HB := hb_ HB e0_ hb;clear hb hbox hg)|((with_reducible refine gate_dst (N := 3) rfl ?_);refine box_event ?hg (N := 3) ?hd (cs := #[.int .i64 a1_0,.int .i64 a1_1]) (t := 23) ?hr ?_;(case hd => rfl);(case hg => rfl);(case hr => first|(go_simp;done)|(go_simp;rfl));intro gb290 hg w24 hbox hb;have BK290 := sd_ hbox;have GW290 := gw_ HB (e_ GE289 e0_) hg;have GE290 := GW290;have NB289_290 := nb_ BK289 hg;have NB290_289 := sy_ NB289_290;replace BK289 := kb_ BK289 hb;replace HB := hb_ HB (e_ GE289 e0_) hb;clear hb hbox hg;have hnb25 := NB289_290.out;have hnc25 := NB290_289.out;have hcz26_0 : w24.cell? ⟨gb289,0,none⟩ = some (.int .i64 a0_0) := (kc_ BK289.out 0).trans rfl;have hcz26_1 : w24.cell? ⟨gb289,1,none⟩ = some (.int .i64 a0_1) := (kc_ BK289.out 1).trans rfl;have hfz26_0 := kf_ BK289.out 0;have hfz26_1 := kf_ BK289.out 1;have hcz27_0 : w24.cell? ⟨gb290,0,none⟩ = some (.int .i64 a1_0) := (kc_ BK290.out 0).trans rfl;have hcz27_1 : w24.cell? ⟨gb290,1,none⟩ = some (.int .i64 a1_1) := (kc_ BK290.out 1).trans rfl;have hfz27_0 := kf_ BK290.out 0;have hfz27_1 := kf_ BK290.out 1)|(go_at_call 31;(with_reducible refine (rat_both.calls k a0_0 a0_1 a1_0 a1_1 true _ A3.out).mono ?_);rintro e w28 ⟨rfl,hb⟩;replace BK289 := kb_ BK289 hb;replace BK290 := kb_ BK290 hb;replace HB := hb_ HB (e_ GE289 (e_ GE290 e0_)) hb;(try clear hb);(try clear hb2);(try clear hk);(try clear hi);have hcz29_0 : w28.cell? ⟨gb289,0,none⟩ = some (.int .i64 a0_0) := (kc_ BK289.out 0).trans rfl;have hcz29_1 : w28.cell? ⟨gb289,1,none⟩ = some (.int .i64 a0_1) := (kc_ BK289.out 1).trans rfl;have hfz29_0 := kf_ BK289.out 0;have hfz29_1 := kf_ BK289.out 1;have hcz30_0 : w28.cell? ⟨gb290,0,none⟩ = some (.int .i64 a1_0) := (kc_ BK290.out 0).trans rfl;have hcz30_1 : w28.cell? ⟨gb290,1,none⟩ = some (.int .i64 a1_1) := (kc_ BK290.out 1).trans rfl;have hfz30_0 := kf_ BK290.out 0;have hfz30_1 := kf_ BK290.out 1)))
    go_ret
    exact ⟨by first|rfl|(simp [errW_none,errW_some] <;> rfl)|(simp [*,errW_none,errW_some] <;> rfl),by repeat (first|(with_reducible first|exact HB.out|apply ba_|apply pd_|apply d1_|refine bs_ ?_ GE289.out|refine bs_ ?_ GE290.out)|exact HB.out)⟩
 ·replace c4 := bf_ c4
  subst c4
  have H1 : (some 0) = some r := by rw [if_neg (show ¬ (false = true) by decide)] at H;exact H
  clear H;have H := H1;clear H1
  obtain rfl := Option.some.inj H
  go_enter Tryd.func23,Tryd.ntmps23
  go_wp2_with (first|((with_reducible refine gate_dst (N := 2) rfl ?_);refine box_event ?hg (N := 2) ?hd (cs := #[.int .i64 a0_0,.int .i64 a0_1]) (t := 23) ?hr ?_;(case hd => rfl);(case hg => rfl);(case hr => first|(go_simp;done)|(go_simp;rfl));intro gb289 hg w31 hbox hb;have BK289 := sd_ hbox;have GW289 := gw_ HB e0_ hg;have GE289 := GW289;replace HB := hb_ HB e0_ hb;clear hb hbox hg)|((with_reducible refine gate_dst (N := 3) rfl ?_);refine box_event ?hg (N := 3) ?hd (cs := #[.int .i64 a1_0,.int .i64 a1_1]) (t := 23) ?hr ?_;(case hd => rfl);(case hg => rfl);(case hr => first|(go_simp;done)|(go_simp;rfl));intro gb290 hg w32 hbox hb;have BK290 := sd_ hbox;have GW290 := gw_ HB (e_ GE289 e0_) hg;have GE290 := GW290;have NB289_290 := nb_ BK289 hg;have NB290_289 := sy_ NB289_290;replace BK289 := kb_ BK289 hb;replace HB := hb_ HB (e_ GE289 e0_) hb;clear hb hbox hg;have hnb33 := NB289_290.out;have hnc33 := NB290_289.out;have hcz34_0 : w32.cell? ⟨gb289,0,none⟩ = some (.int .i64 a0_0) := (kc_ BK289.out 0).trans rfl;have hcz34_1 : w32.cell? ⟨gb289,1,none⟩ = some (.int .i64 a0_1) := (kc_ BK289.out 1).trans rfl;have hfz34_0 := kf_ BK289.out 0;have hfz34_1 := kf_ BK289.out 1;have hcz35_0 : w32.cell? ⟨gb290,0,none⟩ = some (.int .i64 a1_0) := (kc_ BK290.out 0).trans rfl;have hcz35_1 : w32.cell? ⟨gb290,1,none⟩ = some (.int .i64 a1_1) := (kc_ BK290.out 1).trans rfl;have hfz35_0 := kf_ BK290.out 0;have hfz35_1 := kf_ BK290.out 1)|(go_at_call 31;(with_reducible refine (rat_both.calls k a0_0 a0_1 a1_0 a1_1 false _ A3.out).mono ?_);rintro e w36 ⟨rfl,hb⟩;replace BK289 := kb_ BK289 hb;replace BK290 := kb_ BK290 hb;replace HB := hb_ HB (e_ GE289 (e_ GE290 e0_)) hb;(try clear hb);(try clear hb2);(try clear hk);(try clear hi)))
  repeat (go_quiet (first|((with_reducible refine gate_dst (N := 2) rfl ?_);refine box_event ?hg (N := 2) ?hd (cs := #[.int .i64 a0_0,.int .i64 a0_1]) (t := 23) ?hr ?_;(case hd => rfl);(case hg => rfl);(case hr => first|(go_simp;done)|(go_simp;rfl));intro gb289 hg w31 hbox hb;have BK289 := sd_ hbox;have GW289 := gw_ HB e0_ hg;have GE289 := GW289;replace HB := hb_ HB e0_ hb;clear hb hbox hg)|((with_reducible refine gate_dst (N := 3) rfl ?_);refine box_event ?hg (N := 3) ?hd (cs := #[.int .i64 a1_0,.int .i64 a1_1]) (t := 23) ?hr ?_;(case hd => rfl);(case hg => rfl);(case hr => first|(go_simp;done)|(go_simp;rfl));intro gb290 hg w32 hbox hb;have BK290 := sd_ hbox;have GW290 := gw_ HB (e_ GE289 e0_) hg;have GE290 := GW290;have NB289_290 := nb_ BK289 hg;have NB290_289 := sy_ NB289_290;replace BK289 := kb_ BK289 hb;replace HB := hb_ HB (e_ GE289 e0_) hb;clear hb hbox hg;have hnb33 := NB289_290.out;have hnc33 := NB290_289.out;have hcz34_0 : w32.cell? ⟨gb289,0,none⟩ = some (.int .i64 a0_0) := (kc_ BK289.out 0).trans rfl;have hcz34_1 : w32.cell? ⟨gb289,1,none⟩ = some (.int .i64 a0_1) := (kc_ BK289.out 1).trans rfl;have hfz34_0 := kf_ BK289.out 0;have hfz34_1 := kf_ BK289.out 1;have hcz35_0 : w32.cell? ⟨gb290,0,none⟩ = some (.int .i64 a1_0) := (kc_ BK290.out 0).trans rfl;have hcz35_1 : w32.cell? ⟨gb290,1,none⟩ = some (.int .i64 a1_1) := (kc_ BK290.out 1).trans rfl;have hfz35_0 := kf_ BK290.out 0;have hfz35_1 := kf_ BK290.out 1)|(go_at_call 31;(with_reducible refine (rat_both.calls k a0_0 a0_1 a1_0 a1_1 false _ A3.out).mono ?_);rintro e w36 ⟨rfl,hb⟩;replace BK289 := kb_ BK289 hb;replace BK290 := kb_ BK290 hb;replace HB := hb_ HB (e_ GE289 (e_ GE290 e0_)) hb;(try clear hb);(try clear hb2);(try clear hk);(try clear hi)));try go_wp2_with (first|((with_reducible refine gate_dst (N := 2) rfl ?_);refine box_event ?hg (N := 2) ?hd (cs := #[.int .i64 a0_0,.int .i64 a0_1]) (t := 23) ?hr ?_;(case hd => rfl);(case hg => rfl);(case hr => first|(go_simp;done)|(go_simp;rfl));intro gb289 hg w31 hbox hb;have BK289 := sd_ hbox;have GW289 := gw_ HB e0_ hg;have GE289 := GW289;replace HB := hb_ HB e0_ hb;clear hb hbox hg)|((with_reducible refine gate_dst (N := 3) rfl ?_);refine box_event ?hg (N := 3) ?hd (cs := #[.int .i64 a1_0,.int .i64 a1_1]) (t := 23) ?hr ?_;(case hd => rfl);(case hg => rfl);(case hr => first|(go_simp;done)|(go_simp;rfl));intro gb290 hg w32 hbox hb;have BK290 := sd_ hbox;have GW290 := gw_ HB (e_ GE289 e0_) hg;have GE290 := GW290;have NB289_290 := nb_ BK289 hg;have NB290_289 := sy_ NB289_290;replace BK289 := kb_ BK289 hb;replace HB := hb_ HB (e_ GE289 e0_) hb;clear hb hbox hg;have hnb33 := NB289_290.out;have hnc33 := NB290_289.out;have hcz34_0 : w32.cell? ⟨gb289,0,none⟩ = some (.int .i64 a0_0) := (kc_ BK289.out 0).trans rfl;have hcz34_1 : w32.cell? ⟨gb289,1,none⟩ = some (.int .i64 a0_1) := (kc_ BK289.out 1).trans rfl;have hfz34_0 := kf_ BK289.out 0;have hfz34_1 := kf_ BK289.out 1;have hcz35_0 : w32.cell? ⟨gb290,0,none⟩ = some (.int .i64 a1_0) := (kc_ BK290.out 0).trans rfl;have hcz35_1 : w32.cell? ⟨gb290,1,none⟩ = some (.int .i64 a1_1) := (kc_ BK290.out 1).trans rfl;have hfz35_0 := kf_ BK290.out 0;have hfz35_1 := kf_ BK290.out 1)|(go_at_call 31;(with_reducible refine (rat_both.calls k a0_0 a0_1 a1_0 a1_1 false _ A3.out).mono ?_);rintro e w36 ⟨rfl,hb⟩;replace BK289 := kb_ BK289 hb;replace BK290 := kb_ BK290 hb;replace HB := hb_ HB (e_ GE289 (e_ GE290 e0_)) hb;(try clear hb);(try clear hb2);(try clear hk);(try clear hi))))
  go_ret
  exact ⟨by first|rfl|(simp [errW_none,errW_some] <;> rfl)|(simp [*,errW_none,errW_some] <;> rfl),by repeat (first|(with_reducible first|exact HB.out|apply ba_|apply pd_|apply d1_|refine bs_ ?_ GE289.out|refine bs_ ?_ GE290.out)|exact HB.out)⟩

/-! ### neumelaw02_heads: function 18 -/
def neumelaw02_heads.f (k : Nat)  : Option (Bool) := (rat_Of.f k 2 (-12)).bind fun bt292 => ((rat_Add.f k 1 6 1 3).bind fun bt296 => ((rat_Mod.f k 7 4 1 2).bind fun bt300 => ((rat_Parse.f k (⟨#[45, 51, 47, 52]⟩ : ByteArray)).bind fun bt304 => ((rat_Parse.f k (⟨#[50, 47, 52]⟩ : ByteArray)).bind fun bt308 => ((rat_Div.f k bt292.1 bt292.2.1 0 1).bind fun bt312 => (if (bt292.1 == (-1) && (bt292.2.1 == 6)) = true then (if bt292.2.2 = 0 then (if (bt296.1 == 1 && (bt296.2.1 == 2)) = true then (if bt296.2.2 = 0 then (if (bt300.1 == 1 && (bt300.2.1 == 4)) = true then (if bt300.2.2 = 0 then ((rat_Floor.f k bt292.1 bt292.2.1).bind fun t316 => (if t316 = (-1) then ((rat_Cmp.f k bt292.1 bt292.2.1 bt296.1 bt296.2.1).bind fun t317 => (if t317 = (-1) then (if bt304.2.2 = true then ((rat_Text.f k bt304.1 bt304.2.1).bind fun t318 => (if t318.toList = ([45, 51, 47, 52] : List UInt8) then (if bt308.2.2 = true then (some false) else (if bt312.2.2 = 2 then ((rat_Check.f k bt296.1 bt296.2.1).bind fun t319 => (if t319 = true then ((rat_Check.f k 2 4).bind fun t320 => (some (!t320))) else (some false))) else (some false))) else (some false))) else (some false)) else (some false))) else (some false))) else (some false)) else (some false)) else (some false)) else (some false)) else (some false)) else (some false)))))))
theorem neumelaw02_heads.mono : ∀ k, LeO (neumelaw02_heads.f k ) (neumelaw02_heads.f (k + 1) ) := by
 intro  k
 unfold neumelaw02_heads.f
 repeat' first
   | (with_reducible exact rat_Add.mono _ _ _ _ _)
   | (with_reducible exact rat_Check.mono _ _ _)
   | (with_reducible exact rat_Cmp.mono _ _ _ _ _)
   | (with_reducible exact rat_Div.mono _ _ _ _ _)
   | (with_reducible exact rat_Floor.mono _ _ _)
   | (with_reducible exact rat_Mod.mono _ _ _ _ _)
   | (with_reducible exact rat_Of.mono _ _ _)
   | (with_reducible exact rat_Parse.mono _ _)
   | (with_reducible exact rat_Text.mono _ _ _)
   | (with_reducible exact LeO.refl _)
   | (with_reducible exact LeO.none _)
   | (with_reducible refine LeO.ite ?_ ?_)
   | (with_reducible refine LeO.bind ?_ (fun _ => ?_))
   | exact rat_Add.mono _ _ _ _ _
   | exact rat_Check.mono _ _ _
   | exact rat_Cmp.mono _ _ _ _ _
   | exact rat_Div.mono _ _ _ _ _
   | exact rat_Floor.mono _ _ _
   | exact rat_Mod.mono _ _ _ _ _
   | exact rat_Of.mono _ _ _
   | exact rat_Parse.mono _ _
   | exact rat_Text.mono _ _ _
   | exact LeO.none _
   | refine LeO.ite ?_ ?_
   | refine LeO.bind ?_ (fun _ => ?_)
set_option maxHeartbeats 8000000 in
set_option maxRecDepth 100000 in
theorem neumelaw02_heads.callsT (k : Nat)  (r : Bool) (w : World) (hE : Aside0 (LaidE w)) (hxt : Aside0 (r = true)) (h : neumelaw02_heads.f k  = some r) :
  Calls Tryd.prog 18 #[] w fun e w' => e = .returned (.bool r) ∧ Below w.heap.size w w' := by
 have hu23 := Tryd.underlying23
 have HB := sd_ (Below.refl w.heap.size w)
 have H : ((rat_Of.f k 2 (-12)).bind fun bt292 => ((rat_Add.f k 1 6 1 3).bind fun bt296 => ((rat_Mod.f k 7 4 1 2).bind fun bt300 => ((rat_Parse.f k (⟨#[45,51,47,52]⟩ : ByteArray)).bind fun bt304 => ((rat_Parse.f k (⟨#[50,47,52]⟩ : ByteArray)).bind fun bt308 => ((rat_Div.f k bt292.1 bt292.2.1 0 1).bind fun bt312 => (if (bt292.1 == (-1) && (bt292.2.1 == 6)) = true then (if bt292.2.2 = 0 then (if (bt296.1 == 1 && (bt296.2.1 == 2)) = true then (if bt296.2.2 = 0 then (if (bt300.1 == 1 && (bt300.2.1 == 4)) = true then (if bt300.2.2 = 0 then ((rat_Floor.f k bt292.1 bt292.2.1).bind fun t316 => (if t316 = (-1) then ((rat_Cmp.f k bt292.1 bt292.2.1 bt296.1 bt296.2.1).bind fun t317 => (if t317 = (-1) then (if bt304.2.2 = true then ((rat_Text.f k bt304.1 bt304.2.1).bind fun t318 => (if t318.toList = ([45,51,47,52] : List UInt8) then (if bt308.2.2 = true then (some false) else (if bt312.2.2 = 2 then ((rat_Check.f k bt296.1 bt296.2.1).bind fun t319 => (if t319 = true then ((rat_Check.f k 2 4).bind fun t320 => (some (!t320))) else (some false))) else (some false))) else (some false))) else (some false)) else (some false))) else (some false))) else (some false)) else (some false)) else (some false)) else (some false)) else (some false)) else (some false)))))))) = some r := h
 clear h
 replace H := ob_ H
 obtain ⟨⟨t292,t293,t294⟩,A10,H⟩ := H
 replace H : ((rat_Add.f k 1 6 1 3).bind fun bt296 => ((rat_Mod.f k 7 4 1 2).bind fun bt300 => ((rat_Parse.f k (⟨#[45,51,47,52]⟩ : ByteArray)).bind fun bt304 => ((rat_Parse.f k (⟨#[50,47,52]⟩ : ByteArray)).bind fun bt308 => ((rat_Div.f k t292 t293 0 1).bind fun bt312 => (if (t292 == (-1) && (t293 == 6)) = true then (if t294 = 0 then (if (bt296.1 == 1 && (bt296.2.1 == 2)) = true then (if bt296.2.2 = 0 then (if (bt300.1 == 1 && (bt300.2.1 == 4)) = true then (if bt300.2.2 = 0 then ((rat_Floor.f k t292 t293).bind fun t316 => (if t316 = (-1) then ((rat_Cmp.f k t292 t293 bt296.1 bt296.2.1).bind fun t317 => (if t317 = (-1) then (if bt304.2.2 = true then ((rat_Text.f k bt304.1 bt304.2.1).bind fun t318 => (if t318.toList = ([45,51,47,52] : List UInt8) then (if bt308.2.2 = true then (some false) else (if bt312.2.2 = 2 then ((rat_Check.f k bt296.1 bt296.2.1).bind fun t319 => (if t319 = true then ((rat_Check.f k 2 4).bind fun t320 => (some (!t320))) else (some false))) else (some false))) else (some false))) else (some false)) else (some false))) else (some false))) else (some false)) else (some false)) else (some false)) else (some false)) else (some false)) else (some false))))))) = some r := H
 have A1 := sd_ A10
 clear A10
 replace H := ob_ H
 obtain ⟨⟨t296,t297,t298⟩,A20,H⟩ := H
 replace H : ((rat_Mod.f k 7 4 1 2).bind fun bt300 => ((rat_Parse.f k (⟨#[45,51,47,52]⟩ : ByteArray)).bind fun bt304 => ((rat_Parse.f k (⟨#[50,47,52]⟩ : ByteArray)).bind fun bt308 => ((rat_Div.f k t292 t293 0 1).bind fun bt312 => (if (t292 == (-1) && (t293 == 6)) = true then (if t294 = 0 then (if (t296 == 1 && (t297 == 2)) = true then (if t298 = 0 then (if (bt300.1 == 1 && (bt300.2.1 == 4)) = true then (if bt300.2.2 = 0 then ((rat_Floor.f k t292 t293).bind fun t316 => (if t316 = (-1) then ((rat_Cmp.f k t292 t293 t296 t297).bind fun t317 => (if t317 = (-1) then (if bt304.2.2 = true then ((rat_Text.f k bt304.1 bt304.2.1).bind fun t318 => (if t318.toList = ([45,51,47,52] : List UInt8) then (if bt308.2.2 = true then (some false) else (if bt312.2.2 = 2 then ((rat_Check.f k t296 t297).bind fun t319 => (if t319 = true then ((rat_Check.f k 2 4).bind fun t320 => (some (!t320))) else (some false))) else (some false))) else (some false))) else (some false)) else (some false))) else (some false))) else (some false)) else (some false)) else (some false)) else (some false)) else (some false)) else (some false)))))) = some r := H
 have A2 := sd_ A20
 clear A20
 replace H := ob_ H
 obtain ⟨⟨t300,t301,t302⟩,A30,H⟩ := H
 replace H : ((rat_Parse.f k (⟨#[45,51,47,52]⟩ : ByteArray)).bind fun bt304 => ((rat_Parse.f k (⟨#[50,47,52]⟩ : ByteArray)).bind fun bt308 => ((rat_Div.f k t292 t293 0 1).bind fun bt312 => (if (t292 == (-1) && (t293 == 6)) = true then (if t294 = 0 then (if (t296 == 1 && (t297 == 2)) = true then (if t298 = 0 then (if (t300 == 1 && (t301 == 4)) = true then (if t302 = 0 then ((rat_Floor.f k t292 t293).bind fun t316 => (if t316 = (-1) then ((rat_Cmp.f k t292 t293 t296 t297).bind fun t317 => (if t317 = (-1) then (if bt304.2.2 = true then ((rat_Text.f k bt304.1 bt304.2.1).bind fun t318 => (if t318.toList = ([45,51,47,52] : List UInt8) then (if bt308.2.2 = true then (some false) else (if bt312.2.2 = 2 then ((rat_Check.f k t296 t297).bind fun t319 => (if t319 = true then ((rat_Check.f k 2 4).bind fun t320 => (some (!t320))) else (some false))) else (some false))) else (some false))) else (some false)) else (some false))) else (some false))) else (some false)) else (some false)) else (some false)) else (some false)) else (some false)) else (some false))))) = some r := H
 have A3 := sd_ A30
 clear A30
 replace H := ob_ H
 obtain ⟨⟨t304,t305,t306⟩,A40,H⟩ := H
 replace H : ((rat_Parse.f k (⟨#[50,47,52]⟩ : ByteArray)).bind fun bt308 => ((rat_Div.f k t292 t293 0 1).bind fun bt312 => (if (t292 == (-1) && (t293 == 6)) = true then (if t294 = 0 then (if (t296 == 1 && (t297 == 2)) = true then (if t298 = 0 then (if (t300 == 1 && (t301 == 4)) = true then (if t302 = 0 then ((rat_Floor.f k t292 t293).bind fun t316 => (if t316 = (-1) then ((rat_Cmp.f k t292 t293 t296 t297).bind fun t317 => (if t317 = (-1) then (if t306 = true then ((rat_Text.f k t304 t305).bind fun t318 => (if t318.toList = ([45,51,47,52] : List UInt8) then (if bt308.2.2 = true then (some false) else (if bt312.2.2 = 2 then ((rat_Check.f k t296 t297).bind fun t319 => (if t319 = true then ((rat_Check.f k 2 4).bind fun t320 => (some (!t320))) else (some false))) else (some false))) else (some false))) else (some false)) else (some false))) else (some false))) else (some false)) else (some false)) else (some false)) else (some false)) else (some false)) else (some false)))) = some r := H
 have A4 := sd_ A40
 clear A40
 replace H := ob_ H
 obtain ⟨⟨t308,t309,t310⟩,A50,H⟩ := H
 replace H : ((rat_Div.f k t292 t293 0 1).bind fun bt312 => (if (t292 == (-1) && (t293 == 6)) = true then (if t294 = 0 then (if (t296 == 1 && (t297 == 2)) = true then (if t298 = 0 then (if (t300 == 1 && (t301 == 4)) = true then (if t302 = 0 then ((rat_Floor.f k t292 t293).bind fun t316 => (if t316 = (-1) then ((rat_Cmp.f k t292 t293 t296 t297).bind fun t317 => (if t317 = (-1) then (if t306 = true then ((rat_Text.f k t304 t305).bind fun t318 => (if t318.toList = ([45,51,47,52] : List UInt8) then (if t310 = true then (some false) else (if bt312.2.2 = 2 then ((rat_Check.f k t296 t297).bind fun t319 => (if t319 = true then ((rat_Check.f k 2 4).bind fun t320 => (some (!t320))) else (some false))) else (some false))) else (some false))) else (some false)) else (some false))) else (some false))) else (some false)) else (some false)) else (some false)) else (some false)) else (some false)) else (some false))) = some r := H
 have A5 := sd_ A50
 clear A50
 replace H := ob_ H
 obtain ⟨⟨t312,t313,t314⟩,A60,H⟩ := H
 replace H : (if (t292 == (-1) && (t293 == 6)) = true then (if t294 = 0 then (if (t296 == 1 && (t297 == 2)) = true then (if t298 = 0 then (if (t300 == 1 && (t301 == 4)) = true then (if t302 = 0 then ((rat_Floor.f k t292 t293).bind fun t316 => (if t316 = (-1) then ((rat_Cmp.f k t292 t293 t296 t297).bind fun t317 => (if t317 = (-1) then (if t306 = true then ((rat_Text.f k t304 t305).bind fun t318 => (if t318.toList = ([45,51,47,52] : List UInt8) then (if t310 = true then (some false) else (if t314 = 2 then ((rat_Check.f k t296 t297).bind fun t319 => (if t319 = true then ((rat_Check.f k 2 4).bind fun t320 => (some (!t320))) else (some false))) else (some false))) else (some false))) else (some false)) else (some false))) else (some false))) else (some false)) else (some false)) else (some false)) else (some false)) else (some false)) else (some false)) = some r := H
 have A6 := sd_ A60
 clear A60
 by_cases c7 : (t292 == (-1) && (t293 == 6)) = true
 ·rw [if_pos c7] at H
  have c7b0 : (t292 == (-1) && (t293 == 6)) = true := c7
  (try (have c7b1 : decide (t292 = (-1) && (t293 == 6)) = true := by simpa using c7))
  (try (have c7b2 : (t292 == (-1) && (t293 == 6)) = true := by simpa using c7))
  clear c7
  by_cases c8 : t294 = 0
  ·rw [if_pos c8] at H
   have c8b0 : (t294 == 0) = true := beq_iff_eq.mpr c8
   have c8b1 : (t294 != 0) = false := bne_eq_false_iff_eq.mpr c8
   clear c8
   by_cases c9 : (t296 == 1 && (t297 == 2)) = true
   ·rw [if_pos c9] at H
    have c9b0 : (t296 == 1 && (t297 == 2)) = true := c9
    (try (have c9b1 : decide (t296 = 1 && (t297 == 2)) = true := by simpa using c9))
    (try (have c9b2 : (t296 == 1 && (t297 == 2)) = true := by simpa using c9))
    clear c9
    by_cases c10 : t298 = 0
    ·rw [if_pos c10] at H
     have c10b0 : (t298 == 0) = true := beq_iff_eq.mpr c10
     have c10b1 : (t298 != 0) = false := bne_eq_false_iff_eq.mpr c10
     clear c10
     by_cases c11 : (t300 == 1 && (t301 == 4)) = true
     ·rw [if_pos c11] at H
      have c11b0 : (t300 == 1 && (t301 == 4)) = true := c11
      (try (have c11b1 : decide (t300 = 1 && (t301 == 4)) = true := by simpa using c11))
      (try (have c11b2 : (t300 == 1 && (t301 == 4)) = true := by simpa using c11))
      clear c11
      by_cases c12 : t302 = 0
      ·rw [if_pos c12] at H
       have c12b0 : (t302 == 0) = true := beq_iff_eq.mpr c12
       have c12b1 : (t302 != 0) = false := bne_eq_false_iff_eq.mpr c12
       clear c12
       replace H := ob_ H
       obtain ⟨t316,A130,H⟩ := H
       replace H : (if t316 = (-1) then ((rat_Cmp.f k t292 t293 t296 t297).bind fun t317 => (if t317 = (-1) then (if t306 = true then ((rat_Text.f k t304 t305).bind fun t318 => (if t318.toList = ([45,51,47,52] : List UInt8) then (if t310 = true then (some false) else (if t314 = 2 then ((rat_Check.f k t296 t297).bind fun t319 => (if t319 = true then ((rat_Check.f k 2 4).bind fun t320 => (some (!t320))) else (some false))) else (some false))) else (some false))) else (some false)) else (some false))) else (some false)) = some r := H
       have A13 := sd_ A130
       clear A130
       by_cases c14 : t316 = (-1)
       ·rw [if_pos c14] at H
        have c14b0 : (t316 == (-1)) = true := beq_iff_eq.mpr c14
        have c14b1 : (t316 != (-1)) = false := bne_eq_false_iff_eq.mpr c14
        clear c14
        replace H := ob_ H
        obtain ⟨t317,A150,H⟩ := H
        replace H : (if t317 = (-1) then (if t306 = true then ((rat_Text.f k t304 t305).bind fun t318 => (if t318.toList = ([45,51,47,52] : List UInt8) then (if t310 = true then (some false) else (if t314 = 2 then ((rat_Check.f k t296 t297).bind fun t319 => (if t319 = true then ((rat_Check.f k 2 4).bind fun t320 => (some (!t320))) else (some false))) else (some false))) else (some false))) else (some false)) else (some false)) = some r := H
        have A15 := sd_ A150
        clear A150
        by_cases c16 : t317 = (-1)
        ·rw [if_pos c16] at H
         have c16b0 : (t317 == (-1)) = true := beq_iff_eq.mpr c16
         have c16b1 : (t317 != (-1)) = false := bne_eq_false_iff_eq.mpr c16
         clear c16
         by_cases c17 : t306 = true
         ·subst c17
          have H1 : ((rat_Text.f k t304 t305).bind fun t318 => (if t318.toList = ([45,51,47,52] : List UInt8) then (if t310 = true then (some false) else (if t314 = 2 then ((rat_Check.f k t296 t297).bind fun t319 => (if t319 = true then ((rat_Check.f k 2 4).bind fun t320 => (some (!t320))) else (some false))) else (some false))) else (some false))) = some r := by rw [if_pos rfl] at H;exact H
          clear H;have H := H1;clear H1
          replace H := ob_ H
          obtain ⟨t318,A180,H⟩ := H
          replace H : (if t318.toList = ([45,51,47,52] : List UInt8) then (if t310 = true then (some false) else (if t314 = 2 then ((rat_Check.f k t296 t297).bind fun t319 => (if t319 = true then ((rat_Check.f k 2 4).bind fun t320 => (some (!t320))) else (some false))) else (some false))) else (some false)) = some r := H
          have A18 := sd_ A180
          clear A180
          by_cases c19 : t318.toList = ([45,51,47,52] : List UInt8)
          ·rw [if_pos c19] at H
           have c19b0 : (t318.toList == ([45,51,47,52] : List UInt8)) = true := beq_iff_eq.mpr c19
           have c19b1 : (t318.toList != ([45,51,47,52] : List UInt8)) = false := bne_eq_false_iff_eq.mpr c19
           clear c19
           by_cases c20 : t310 = true
           ·subst c20
            have H1 : (some false) = some r := by rw [if_pos rfl] at H;exact H
            clear H;have H := H1;clear H1
            exact absurd ((Option.some.inj H).trans hxt.out) (by decide)
           ·replace c20 := bf_ c20
            subst c20
            have H1 : (if t314 = 2 then ((rat_Check.f k t296 t297).bind fun t319 => (if t319 = true then ((rat_Check.f k 2 4).bind fun t320 => (some (!t320))) else (some false))) else (some false)) = some r := by rw [if_neg (show ¬ (false = true) by decide)] at H;exact H
            clear H;have H := H1;clear H1
            by_cases c21 : t314 = 2
            ·rw [if_pos c21] at H
             have c21b0 : (t314 == 2) = true := beq_iff_eq.mpr c21
             have c21b1 : (t314 != 2) = false := bne_eq_false_iff_eq.mpr c21
             clear c21
             replace H := ob_ H
             obtain ⟨t319,A220,H⟩ := H
             replace H : (if t319 = true then ((rat_Check.f k 2 4).bind fun t320 => (some (!t320))) else (some false)) = some r := H
             have A22 := sd_ A220
             clear A220
             by_cases c23 : t319 = true
             ·subst c23
              have H1 : ((rat_Check.f k 2 4).bind fun t320 => (some (!t320))) = some r := by rw [if_pos rfl] at H;exact H
              clear H;have H := H1;clear H1
              replace H := ob_ H
              obtain ⟨t320,A240,H⟩ := H
              replace H : (some (!t320)) = some r := H
              have A24 := sd_ A240
              clear A240
              obtain rfl := Option.some.inj H
              go_enter Tryd.func18,Tryd.ntmps18
              go_wp2_with (first|((with_reducible refine gate_callee (f := 16) rfl ?_);refine goesL_ (some 14) rfl rfl Tryd.func16 (by kernel_rfl) rfl #[.int .i64 2,.int .i64 (-12)] rfl (by (try simp only [lm_,lq_,lx_]);first|done|rfl|(simp only [ld_,lt_];rfl)) ?_;(with_reducible refine (rat_Of.calls k 2 (-12) t292 t293 t294 _ A1.out).mono ?_);rintro e w25 ⟨rfl,hb⟩;refine ⟨_,rfl,?_⟩;replace HB := hb_ HB e0_ hb;(try clear hb);(try clear hb2);(try clear hk);(try clear hi))|((with_reducible refine gate_dst (N := 1) rfl ?_);refine box_event ?hg (N := 1) ?hd (cs := #[.int .i64 0,.int .i64 0]) (t := 23) ?hr ?_;(case hd => rfl);(case hg => rfl);(case hr => first|(go_simp;done)|(go_simp;rfl));intro gb295 hg w26 hbox hb;have BK295 := sd_ hbox;have GW295 := gw_ HB e0_ hg;have GE295 := GW295;replace HB := hb_ HB e0_ hb;clear hb hbox hg;have hcz27_0 : w26.cell? ⟨gb295,0,none⟩ = some (.int .i64 0) := (kc_ BK295.out 0).trans rfl;have hcz27_1 : w26.cell? ⟨gb295,1,none⟩ = some (.int .i64 0) := (kc_ BK295.out 1).trans rfl;have hfz27_0 := kf_ BK295.out 0;have hfz27_1 := kf_ BK295.out 1)|((with_reducible refine gate_callee (f := 8) rfl ?_);refine goesL_ (some 20) rfl rfl Tryd.func8 (by kernel_rfl) rfl #[.agg #[.int .i64 1,.int .i64 6],.agg #[.int .i64 1,.int .i64 3]] rfl (by (try simp only [lm_,lq_,lx_]);first|done|rfl|(simp only [ld_,lt_];rfl)) ?_;(with_reducible refine (rat_Add.calls k 1 6 1 3 t296 t297 t298 _ A2.out).mono ?_);rintro e w28 ⟨rfl,hb⟩;refine ⟨_,rfl,?_⟩;replace BK295 := sd_ (blk_below (g := gb295) (o := .cells #[.int .i64 t292,.int .i64 t293] 23 (0,0)) (by (with_reducible repeat first|apply kn_|apply kd_|apply ka_);refine blk_put (cs := #[.int .i64 t292,.int .i64 0]) ?_ 1 _ rfl;(with_reducible repeat first|apply kn_|apply kd_|apply ka_);refine blk_put (cs := #[.int .i64 0,.int .i64 0]) ?_ 0 _ rfl;(with_reducible repeat first|apply kn_|apply kd_|apply ka_);exact BK295.out) hb);replace HB := hb_ HB (e_ GE295 e0_) hb;(try clear hb);(try clear hb2);(try clear hk);(try clear hi))|((with_reducible refine gate_dst (N := 3) rfl ?_);refine box_event ?hg (N := 3) ?hd (cs := #[.int .i64 0,.int .i64 0]) (t := 23) ?hr ?_;(case hd => rfl);(case hg => rfl);(case hr => first|(go_simp;done)|(go_simp;rfl));intro gb299 hg w29 hbox hb;have BK299 := sd_ hbox;have GW299 := gw_ HB (e_ GE295 e0_) hg;have GE299 := GW299;have NB295_299 := nb_ BK295 hg;have NB299_295 := sy_ NB295_299;replace BK295 := kb_ BK295 hb;replace HB := hb_ HB (e_ GE295 e0_) hb;clear hb hbox hg;have hnb30 := NB299_295.out;have hnc30 := NB295_299.out;have hcz31_0 : w29.cell? ⟨gb299,0,none⟩ = some (.int .i64 0) := (kc_ BK299.out 0).trans rfl;have hcz31_1 : w29.cell? ⟨gb299,1,none⟩ = some (.int .i64 0) := (kc_ BK299.out 1).trans rfl;have hfz31_0 := kf_ BK299.out 0;have hfz31_1 := kf_ BK299.out 1)|((with_reducible refine gate_callee (f := 19) rfl ?_);refine goesL_ (some 26) rfl rfl Tryd.func19 (by kernel_rfl) rfl #[.agg #[.int .i64 7,.int .i64 4],.agg #[.int .i64 1,.int .i64 2]] rfl (by (try simp only [lm_,lq_,lx_]);first|done|rfl|(simp only [ld_,lt_];rfl)) ?_;(with_reducible refine (rat_Mod.calls k 7 4 1 2 t300 t301 t302 _ A3.out).mono ?_);rintro e w32 ⟨rfl,hb⟩;refine ⟨_,rfl,?_⟩;replace BK295 := sd_ (blk_below (g := gb295) (o := .cells #[.int .i64 t292,.int .i64 t293] 23 (0,0)) (by (with_reducible repeat first|apply kn_|apply kd_|apply ka_);refine blk_far ?_ NB295_299.out _;(with_reducible repeat first|apply kn_|apply kd_|apply ka_);refine blk_far ?_ NB295_299.out _;(with_reducible repeat first|apply kn_|apply kd_|apply ka_);exact BK295.out) hb);replace BK299 := sd_ (blk_below (g := gb299) (o := .cells #[.int .i64 t296,.int .i64 t297] 23 (0,0)) (by (with_reducible repeat first|apply kn_|apply kd_|apply ka_);refine blk_put (cs := #[.int .i64 t296,.int .i64 0]) ?_ 1 _ rfl;(with_reducible repeat first|apply kn_|apply kd_|apply ka_);refine blk_put (cs := #[.int .i64 0,.int .i64 0]) ?_ 0 _ rfl;(with_reducible repeat first|apply kn_|apply kd_|apply ka_);exact BK299.out) hb);replace HB := hb_ HB (e_ GE295 (e_ GE299 e0_)) hb;(try clear hb);(try clear hb2);(try clear hk);(try clear hi))|((with_reducible refine gate_dst (N := 5) rfl ?_);refine box_event ?hg (N := 5) ?hd (cs := #[.int .i64 0,.int .i64 0]) (t := 23) ?hr ?_;(case hd => rfl);(case hg => rfl);(case hr => first|(go_simp;done)|(go_simp;rfl));intro gb303 hg w33 hbox hb;have BK303 := sd_ hbox;have GW303 := gw_ HB (e_ GE295 (e_ GE299 e0_)) hg;have GE303 := GW303;have NB295_303 := nb_ BK295 hg;have NB303_295 := sy_ NB295_303;have NB299_303 := nb_ BK299 hg;have NB303_299 := sy_ NB299_303;replace BK295 := kb_ BK295 hb;replace BK299 := kb_ BK299 hb;replace HB := hb_ HB (e_ GE295 (e_ GE299 e0_)) hb;clear hb hbox hg;have hnb34 := NB303_295.out;have hnc34 := NB295_303.out;have hnb35 := NB303_299.out;have hnc35 := NB299_303.out;have hcz36_0 : w33.cell? ⟨gb303,0,none⟩ = some (.int .i64 0) := (kc_ BK303.out 0).trans rfl;have hcz36_1 : w33.cell? ⟨gb303,1,none⟩ = some (.int .i64 0) := (kc_ BK303.out 1).trans rfl;have hfz36_0 := kf_ BK303.out 0;have hfz36_1 := kf_ BK303.out 1)|((with_reducible refine gate_callee (f := 21) rfl ?_);refine goesL_ (some 30) rfl rfl Tryd.func21 (by kernel_rfl) rfl #[.string (⟨#[45,51,47,52]⟩ : ByteArray)] rfl (by (try simp only [lm_,lq_,lx_]);first|done|rfl|(simp only [ld_,lt_];rfl)) ?_;(with_reducible refine (rat_Parse.calls k (⟨#[45,51,47,52]⟩ : ByteArray) t304 t305 true _ ?side1 A4.out).mono ?_);(case side1 => first|(with_reducible exact hE)|exact sd_ (LaidE.below hE.out (bb_ HB.out (e_ GE295 (e_ GE299 (e_ GE303 e0_))))));rintro e w37 ⟨rfl,hb⟩;refine ⟨_,rfl,?_⟩;replace BK295 := sd_ (blk_below (g := gb295) (o := .cells #[.int .i64 t292,.int .i64 t293] 23 (0,0)) (by (with_reducible repeat first|apply kn_|apply kd_|apply ka_);refine blk_far ?_ NB295_303.out _;(with_reducible repeat first|apply kn_|apply kd_|apply ka_);refine blk_far ?_ NB295_303.out _;(with_reducible repeat first|apply kn_|apply kd_|apply ka_);exact BK295.out) hb);replace BK299 := sd_ (blk_below (g := gb299) (o := .cells #[.int .i64 t296,.int .i64 t297] 23 (0,0)) (by (with_reducible repeat first|apply kn_|apply kd_|apply ka_);refine blk_far ?_ NB299_303.out _;(with_reducible repeat first|apply kn_|apply kd_|apply ka_);refine blk_far ?_ NB299_303.out _;(with_reducible repeat first|apply kn_|apply kd_|apply ka_);exact BK299.out) hb);replace BK303 := sd_ (blk_below (g := gb303) (o := .cells #[.int .i64 t300,.int .i64 t301] 23 (0,0)) (by (with_reducible repeat first|apply kn_|apply kd_|apply ka_);refine blk_put (cs := #[.int .i64 t300,.int .i64 0]) ?_ 1 _ rfl;(with_reducible repeat first|apply kn_|apply kd_|apply ka_);refine blk_put (cs := #[.int .i64 0,.int .i64 0]) ?_ 0 _ rfl;(with_reducible repeat first|apply kn_|apply kd_|apply ka_);exact BK303.out) hb);replace HB := hb_ HB (e_ GE295 (e_ GE299 (e_ GE303 e0_))) hb;(try clear hb);(try clear hb2);(try clear hk);(try clear hi))|((with_reducible refine gate_dst (N := 7) rfl ?_);refine box_event ?hg (N := 7) ?hd (cs := #[.int .i64 0,.int .i64 0]) (t := 23) ?hr ?_;(case hd => rfl);(case hg => rfl);(case hr => first|(go_simp;done)|(go_simp;rfl));intro gb307 hg w38 hbox hb;have BK307 := sd_ hbox;have GW307 := gw_ HB (e_ GE295 (e_ GE299 (e_ GE303 e0_))) hg;have GE307 := GW307;have NB295_307 := nb_ BK295 hg;have NB307_295 := sy_ NB295_307;have NB299_307 := nb_ BK299 hg;have NB307_299 := sy_ NB299_307;have NB303_307 := nb_ BK303 hg;have NB307_303 := sy_ NB303_307;replace BK295 := kb_ BK295 hb;replace BK299 := kb_ BK299 hb;replace BK303 := kb_ BK303 hb;replace HB := hb_ HB (e_ GE295 (e_ GE299 (e_ GE303 e0_))) hb;clear hb hbox hg;have hnb39 := NB307_295.out;have hnc39 := NB295_307.out;have hnb40 := NB307_299.out;have hnc40 := NB299_307.out;have hnb41 := NB307_303.out;have hnc41 := NB303_307.out;have hcz42_0 : w38.cell? ⟨gb307,0,none⟩ = some (.int .i64 0) := (kc_ BK307.out 0).trans rfl;have hcz42_1 : w38.cell? ⟨gb307,1,none⟩ = some (.int .i64 0) := (kc_ BK307.out 1).trans rfl;have hfz42_0 := kf_ BK307.out 0;have hfz42_1 := kf_ BK307.out 1)|((with_reducible refine gate_callee (f := 21) rfl ?_);refine goesL_ (some 34) rfl rfl Tryd.func21 (by kernel_rfl) rfl #[.string (⟨#[50,47,52]⟩ : ByteArray)] rfl (by (try simp only [lm_,lq_,lx_]);first|done|rfl|(simp only [ld_,lt_];rfl)) ?_;(with_reducible refine (rat_Parse.calls k (⟨#[50,47,52]⟩ : ByteArray) t308 t309 false _ ?side1 A5.out).mono ?_);(case side1 => first|(with_reducible exact hE)|exact sd_ (LaidE.below hE.out (bb_ HB.out (e_ GE295 (e_ GE299 (e_ GE303 (e_ GE307 e0_)))))));rintro e w43 ⟨rfl,hb⟩;refine ⟨_,rfl,?_⟩;replace BK295 := sd_ (blk_below (g := gb295) (o := .cells #[.int .i64 t292,.int .i64 t293] 23 (0,0)) (by (with_reducible repeat first|apply kn_|apply kd_|apply ka_);refine blk_far ?_ NB295_307.out _;(with_reducible repeat first|apply kn_|apply kd_|apply ka_);refine blk_far ?_ NB295_307.out _;(with_reducible repeat first|apply kn_|apply kd_|apply ka_);exact BK295.out) hb);replace BK299 := sd_ (blk_below (g := gb299) (o := .cells #[.int .i64 t296,.int .i64 t297] 23 (0,0)) (by (with_reducible repeat first|apply kn_|apply kd_|apply ka_);refine blk_far ?_ NB299_307.out _;(with_reducible repeat first|apply kn_|apply kd_|apply ka_);refine blk_far ?_ NB299_307.out _;(with_reducible repeat first|apply kn_|apply kd_|apply ka_);exact BK299.out) hb);replace BK303 := sd_ (blk_below (g := gb303) (o := .cells #[.int .i64 t300,.int .i64 t301] 23 (0,0)) (by (with_reducible repeat first|apply kn_|apply kd_|apply ka_);refine blk_far ?_ NB303_307.out _;(with_reducible repeat first|apply kn_|apply kd_|apply ka_);refine blk_far ?_ NB303_307.out _;(with_reducible repeat first|apply kn_|apply kd_|apply ka_);exact BK303.out) hb);replace BK307 := sd_ (blk_below (g := gb307) (o := .cells #[.int .i64 t304,.int .i64 t305] 23 (0,0)) (by (with_reducible repeat first|apply kn_|apply kd_|apply ka_);refine blk_put (cs := #[.int .i64 t304,.int .i64 0]) ?_ 1 _ rfl;(with_reducible repeat first|apply kn_|apply kd_|apply ka_);refine blk_put (cs := #[.int .i64 0,.int .i64 0]) ?_ 0 _ rfl;(with_reducible repeat first|apply kn_|apply kd_|apply ka_);exact BK307.out) hb);replace HB := hb_ HB (e_ GE295 (e_ GE299 (e_ GE303 (e_ GE307 e0_)))) hb;(try clear hb);(try clear hb2);(try clear hk);(try clear hi))|((with_reducible refine gate_dst (N := 9) rfl ?_);refine box_event ?hg (N := 9) ?hd (cs := #[.int .i64 0,.int .i64 0]) (t := 23) ?hr ?_;(case hd => rfl);(case hg => rfl);(case hr => first|(go_simp;done)|(go_simp;rfl));intro gb311 hg w44 hbox hb;have BK311 := sd_ hbox;have GW311 := gw_ HB (e_ GE295 (e_ GE299 (e_ GE303 (e_ GE307 e0_)))) hg;have GE311 := GW311;have NB295_311 := nb_ BK295 hg;have NB311_295 := sy_ NB295_311;have NB299_311 := nb_ BK299 hg;have NB311_299 := sy_ NB299_311;have NB303_311 := nb_ BK303 hg;have NB311_303 := sy_ NB303_311;have NB307_311 := nb_ BK307 hg;have NB311_307 := sy_ NB307_311;replace BK295 := kb_ BK295 hb;replace BK299 := kb_ BK299 hb;replace BK303 := kb_ BK303 hb;replace BK307 := kb_ BK307 hb;replace HB := hb_ HB (e_ GE295 (e_ GE299 (e_ GE303 (e_ GE307 e0_)))) hb;clear hb hbox hg;have hnb45 := NB311_295.out;have hnc45 := NB295_311.out;have hnb46 := NB311_299.out;have hnc46 := NB299_311.out;have hnb47 := NB311_303.out;have hnc47 := NB303_311.out;have hnb48 := NB311_307.out;have hnc48 := NB307_311.out;have hcz49_0 : w44.cell? ⟨gb311,0,none⟩ = some (.int .i64 0) := (kc_ BK311.out 0).trans rfl;have hcz49_1 : w44.cell? ⟨gb311,1,none⟩ = some (.int .i64 0) := (kc_ BK311.out 1).trans rfl;have hfz49_0 := kf_ BK311.out 0;have hfz49_1 := kf_ BK311.out 1;have hcz50_0 : w44.cell? ⟨gb295,0,none⟩ = some (.int .i64 t292) := (kc_ BK295.out 0).trans rfl;have hcz50_1 : w44.cell? ⟨gb295,1,none⟩ = some (.int .i64 t293) := (kc_ BK295.out 1).trans rfl;have hfz50_0 := kf_ BK295.out 0;have hfz50_1 := kf_ BK295.out 1)|((with_reducible refine gate_callee (f := 14) rfl ?_);refine goesL_ (some 40) rfl rfl Tryd.func14 (by kernel_rfl) rfl #[.agg #[.int .i64 t292,.int .i64 t293],.agg #[.int .i64 0,.int .i64 1]] rfl (by (try simp only [lm_,lq_,lx_]);first|done|rfl|(simp only [ld_,lt_];rfl)) ?_;(with_reducible refine (rat_Div.calls k t292 t293 0 1 t312 t313 t314 _ A6.out).mono ?_);rintro e w51 ⟨rfl,hb⟩;refine ⟨_,rfl,?_⟩;replace BK295 := sd_ (blk_below (g := gb295) (o := .cells #[.int .i64 t292,.int .i64 t293] 23 (0,0)) (by (with_reducible repeat first|apply kn_|apply kd_|apply ka_);refine blk_far ?_ NB295_311.out _;(with_reducible repeat first|apply kn_|apply kd_|apply ka_);refine blk_far ?_ NB295_311.out _;(with_reducible repeat first|apply kn_|apply kd_|apply ka_);exact BK295.out) hb);replace BK299 := sd_ (blk_below (g := gb299) (o := .cells #[.int .i64 t296,.int .i64 t297] 23 (0,0)) (by (with_reducible repeat first|apply kn_|apply kd_|apply ka_);refine blk_far ?_ NB299_311.out _;(with_reducible repeat first|apply kn_|apply kd_|apply ka_);refine blk_far ?_ NB299_311.out _;(with_reducible repeat first|apply kn_|apply kd_|apply ka_);exact BK299.out) hb);replace BK303 := sd_ (blk_below (g := gb303) (o := .cells #[.int .i64 t300,.int .i64 t301] 23 (0,0)) (by (with_reducible repeat first|apply kn_|apply kd_|apply ka_);refine blk_far ?_ NB303_311.out _;(with_reducible repeat first|apply kn_|apply kd_|apply ka_);refine blk_far ?_ NB303_311.out _;(with_reducible repeat first|apply kn_|apply kd_|apply ka_);exact BK303.out) hb);replace BK307 := sd_ (blk_below (g := gb307) (o := .cells #[.int .i64 t304,.int .i64 t305] 23 (0,0)) (by (with_reducible repeat first|apply kn_|apply kd_|apply ka_);refine blk_far ?_ NB307_311.out _;(with_reducible repeat first|apply kn_|apply kd_|apply ka_);refine blk_far ?_ NB307_311.out _;(with_reducible repeat first|apply kn_|apply kd_|apply ka_);exact BK307.out) hb);replace BK311 := sd_ (blk_below (g := gb311) (o := .cells #[.int .i64 t308,.int .i64 t309] 23 (0,0)) (by (with_reducible repeat first|apply kn_|apply kd_|apply ka_);refine blk_put (cs := #[.int .i64 t308,.int .i64 0]) ?_ 1 _ rfl;(with_reducible repeat first|apply kn_|apply kd_|apply ka_);refine blk_put (cs := #[.int .i64 0,.int .i64 0]) ?_ 0 _ rfl;(with_reducible repeat first|apply kn_|apply kd_|apply ka_);exact BK311.out) hb);replace HB := hb_ HB (e_ GE295 (e_ GE299 (e_ GE303 (e_ GE307 (e_ GE311 e0_))))) hb;(try clear hb);(try clear hb2);(try clear hk);(try clear hi))|((with_reducible refine gate_dst (N := 11) rfl ?_);refine box_event ?hg (N := 11) ?hd (cs := #[.int .i64 0,.int .i64 0]) (t := 23) ?hr ?_;(case hd => rfl);(case hg => rfl);(case hr => first|(go_simp;done)|(go_simp;rfl));intro gb315 hg w52 hbox hb;have BK315 := sd_ hbox;have GW315 := gw_ HB (e_ GE295 (e_ GE299 (e_ GE303 (e_ GE307 (e_ GE311 e0_))))) hg;have GE315 := GW315;have NB295_315 := nb_ BK295 hg;have NB315_295 := sy_ NB295_315;have NB299_315 := nb_ BK299 hg;have NB315_299 := sy_ NB299_315;have NB303_315 := nb_ BK303 hg;have NB315_303 := sy_ NB303_315;have NB307_315 := nb_ BK307 hg;have NB315_307 := sy_ NB307_315;have NB311_315 := nb_ BK311 hg;have NB315_311 := sy_ NB311_315;replace BK295 := kb_ BK295 hb;replace BK299 := kb_ BK299 hb;replace BK303 := kb_ BK303 hb;replace BK307 := kb_ BK307 hb;replace BK311 := kb_ BK311 hb;replace HB := hb_ HB (e_ GE295 (e_ GE299 (e_ GE303 (e_ GE307 (e_ GE311 e0_))))) hb;clear hb hbox hg;have hnb53 := NB315_295.out;have hnc53 := NB295_315.out;have hnb54 := NB315_299.out;have hnc54 := NB299_315.out;have hnb55 := NB315_303.out;have hnc55 := NB303_315.out;have hnb56 := NB315_307.out;have hnc56 := NB307_315.out;have hnb57 := NB315_311.out;have hnc57 := NB311_315.out;have hcz58_0 : w52.cell? ⟨gb315,0,none⟩ = some (.int .i64 0) := (kc_ BK315.out 0).trans rfl;have hcz58_1 : w52.cell? ⟨gb315,1,none⟩ = some (.int .i64 0) := (kc_ BK315.out 1).trans rfl;have hfz58_0 := kf_ BK315.out 0;have hfz58_1 := kf_ BK315.out 1;have hcz59_0 : w52.cell? ⟨gb295,0,none⟩ = some (.int .i64 t292) := (kc_ BK295.out 0).trans rfl;have hcz59_1 : w52.cell? ⟨gb295,1,none⟩ = some (.int .i64 t293) := (kc_ BK295.out 1).trans rfl;have hfz59_0 := kf_ BK295.out 0;have hfz59_1 := kf_ BK295.out 1;have hcz60_0 : w52.cell? ⟨gb299,0,none⟩ = some (.int .i64 t296) := (kc_ BK299.out 0).trans rfl;have hcz60_1 : w52.cell? ⟨gb299,1,none⟩ = some (.int .i64 t297) := (kc_ BK299.out 1).trans rfl;have hfz60_0 := kf_ BK299.out 0;have hfz60_1 := kf_ BK299.out 1;have hcz61_0 : w52.cell? ⟨gb303,0,none⟩ = some (.int .i64 t300) := (kc_ BK303.out 0).trans rfl;have hcz61_1 : w52.cell? ⟨gb303,1,none⟩ = some (.int .i64 t301) := (kc_ BK303.out 1).trans rfl;have hfz61_0 := kf_ BK303.out 0;have hfz61_1 := kf_ BK303.out 1)|(go_at_call 25;(with_reducible refine (rat_Floor.calls k t292 t293 t316 _ A13.out).mono ?_);rintro e w62 ⟨rfl,hb⟩;replace BK295 := sd_ (blk_below (g := gb295) (o := .cells #[.int .i64 t292,.int .i64 t293] 23 (0,0)) (by (with_reducible repeat first|apply kn_|apply kd_|apply ka_);refine blk_far ?_ NB295_315.out _;(with_reducible repeat first|apply kn_|apply kd_|apply ka_);refine blk_far ?_ NB295_315.out _;(with_reducible repeat first|apply kn_|apply kd_|apply ka_);exact BK295.out) hb);replace BK299 := sd_ (blk_below (g := gb299) (o := .cells #[.int .i64 t296,.int .i64 t297] 23 (0,0)) (by (with_reducible repeat first|apply kn_|apply kd_|apply ka_);refine blk_far ?_ NB299_315.out _;(with_reducible repeat first|apply kn_|apply kd_|apply ka_);refine blk_far ?_ NB299_315.out _;(with_reducible repeat first|apply kn_|apply kd_|apply ka_);exact BK299.out) hb);replace BK303 := sd_ (blk_below (g := gb303) (o := .cells #[.int .i64 t300,.int .i64 t301] 23 (0,0)) (by (with_reducible repeat first|apply kn_|apply kd_|apply ka_);refine blk_far ?_ NB303_315.out _;(with_reducible repeat first|apply kn_|apply kd_|apply ka_);refine blk_far ?_ NB303_315.out _;(with_reducible repeat first|apply kn_|apply kd_|apply ka_);exact BK303.out) hb);replace BK307 := sd_ (blk_below (g := gb307) (o := .cells #[.int .i64 t304,.int .i64 t305] 23 (0,0)) (by (with_reducible repeat first|apply kn_|apply kd_|apply ka_);refine blk_far ?_ NB307_315.out _;(with_reducible repeat first|apply kn_|apply kd_|apply ka_);refine blk_far ?_ NB307_315.out _;(with_reducible repeat first|apply kn_|apply kd_|apply ka_);exact BK307.out) hb);replace BK311 := sd_ (blk_below (g := gb311) (o := .cells #[.int .i64 t308,.int .i64 t309] 23 (0,0)) (by (with_reducible repeat first|apply kn_|apply kd_|apply ka_);refine blk_far ?_ NB311_315.out _;(with_reducible repeat first|apply kn_|apply kd_|apply ka_);refine blk_far ?_ NB311_315.out _;(with_reducible repeat first|apply kn_|apply kd_|apply ka_);exact BK311.out) hb);replace BK315 := sd_ (blk_below (g := gb315) (o := .cells #[.int .i64 t312,.int .i64 t313] 23 (0,0)) (by (with_reducible repeat first|apply kn_|apply kd_|apply ka_);refine blk_put (cs := #[.int .i64 t312,.int .i64 0]) ?_ 1 _ rfl;(with_reducible repeat first|apply kn_|apply kd_|apply ka_);refine blk_put (cs := #[.int .i64 0,.int .i64 0]) ?_ 0 _ rfl;(with_reducible repeat first|apply kn_|apply kd_|apply ka_);exact BK315.out) hb);replace HB := hb_ HB (e_ GE295 (e_ GE299 (e_ GE303 (e_ GE307 (e_ GE311 (e_ GE315 e0_)))))) hb;(try clear hb);(try clear hb2);(try clear hk);(try clear hi);have hcz63_0 : w62.cell? ⟨gb295,0,none⟩ = some (.int .i64 t292) := (kc_ BK295.out 0).trans rfl;have hcz63_1 : w62.cell? ⟨gb295,1,none⟩ = some (.int .i64 t293) := (kc_ BK295.out 1).trans rfl;have hfz63_0 := kf_ BK295.out 0;have hfz63_1 := kf_ BK295.out 1;have hcz64_0 : w62.cell? ⟨gb299,0,none⟩ = some (.int .i64 t296) := (kc_ BK299.out 0).trans rfl;have hcz64_1 : w62.cell? ⟨gb299,1,none⟩ = some (.int .i64 t297) := (kc_ BK299.out 1).trans rfl;have hfz64_0 := kf_ BK299.out 0;have hfz64_1 := kf_ BK299.out 1)|(go_at_call 23;(with_reducible refine (rat_Cmp.calls k t292 t293 t296 t297 t317 _ A15.out).mono ?_);rintro e w65 ⟨rfl,hb⟩;replace BK295 := kb_ BK295 hb;replace BK299 := kb_ BK299 hb;replace BK303 := kb_ BK303 hb;replace BK307 := kb_ BK307 hb;replace BK311 := kb_ BK311 hb;replace BK315 := kb_ BK315 hb;replace HB := hb_ HB (e_ GE295 (e_ GE299 (e_ GE303 (e_ GE307 (e_ GE311 (e_ GE315 e0_)))))) hb;(try clear hb);(try clear hb2);(try clear hk);(try clear hi);have hcz66_0 : w65.cell? ⟨gb307,0,none⟩ = some (.int .i64 t304) := (kc_ BK307.out 0).trans rfl;have hcz66_1 : w65.cell? ⟨gb307,1,none⟩ = some (.int .i64 t305) := (kc_ BK307.out 1).trans rfl;have hfz66_0 := kf_ BK307.out 0;have hfz66_1 := kf_ BK307.out 1)|(go_at_call 27;(with_reducible refine (rat_Text.calls k t304 t305 t318 _ ?side1 A18.out).mono ?_);(case side1 => first|(with_reducible exact hE)|exact sd_ (LaidE.below hE.out (bb_ HB.out (e_ GE295 (e_ GE299 (e_ GE303 (e_ GE307 (e_ GE311 (e_ GE315 e0_)))))))));rintro e w67 ⟨rfl,hb⟩;replace BK295 := kb_ BK295 hb;replace BK299 := kb_ BK299 hb;replace BK303 := kb_ BK303 hb;replace BK307 := kb_ BK307 hb;replace BK311 := kb_ BK311 hb;replace BK315 := kb_ BK315 hb;replace HB := hb_ HB (e_ GE295 (e_ GE299 (e_ GE303 (e_ GE307 (e_ GE311 (e_ GE315 e0_)))))) hb;(try clear hb);(try clear hb2);(try clear hk);(try clear hi);have hcz68_0 : w67.cell? ⟨gb299,0,none⟩ = some (.int .i64 t296) := (kc_ BK299.out 0).trans rfl;have hcz68_1 : w67.cell? ⟨gb299,1,none⟩ = some (.int .i64 t297) := (kc_ BK299.out 1).trans rfl;have hfz68_0 := kf_ BK299.out 0;have hfz68_1 := kf_ BK299.out 1)|(go_at_call 29;(with_reducible refine (rat_Check.calls k t296 t297 true _ A22.out).mono ?_);rintro e w69 ⟨rfl,hb⟩;replace BK295 := kb_ BK295 hb;replace BK299 := kb_ BK299 hb;replace BK303 := kb_ BK303 hb;replace BK307 := kb_ BK307 hb;replace BK311 := kb_ BK311 hb;replace BK315 := kb_ BK315 hb;replace HB := hb_ HB (e_ GE295 (e_ GE299 (e_ GE303 (e_ GE307 (e_ GE311 (e_ GE315 e0_)))))) hb;(try clear hb);(try clear hb2);(try clear hk);(try clear hi))|(go_at_call 29;(with_reducible refine (rat_Check.calls k 2 4 t320 _ A24.out).mono ?_);rintro e w70 ⟨rfl,hb⟩;replace BK295 := kb_ BK295 hb;replace BK299 := kb_ BK299 hb;replace BK303 := kb_ BK303 hb;replace BK307 := kb_ BK307 hb;replace BK311 := kb_ BK311 hb;replace BK315 := kb_ BK315 hb;replace HB := hb_ HB (e_ GE295 (e_ GE299 (e_ GE303 (e_ GE307 (e_ GE311 (e_ GE315 e0_)))))) hb;(try clear hb);(try clear hb2);(try clear hk);(try clear hi)))
              go_ret
              exact ⟨by first|rfl|(simp [errW_none,errW_some] <;> rfl)|(simp [*,errW_none,errW_some] <;> rfl),by repeat (first|(with_reducible first|exact HB.out|apply ba_|apply pd_|apply d1_|refine bs_ ?_ GE295.out|refine bs_ ?_ GE299.out|refine bs_ ?_ GE303.out|refine bs_ ?_ GE307.out|refine bs_ ?_ GE311.out|refine bs_ ?_ GE315.out)|exact HB.out)⟩
             ·replace c23 := bf_ c23
              subst c23
              have H1 : (some false) = some r := by rw [if_neg (show ¬ (false = true) by decide)] at H;exact H
              clear H;have H := H1;clear H1
              exact absurd ((Option.some.inj H).trans hxt.out) (by decide)
            ·rw [if_neg c21] at H
             have c21b0 : (t314 == 2) = false := beq_eq_false_iff_ne.mpr c21
             have c21b1 : (t314 != 2) = true := bne_iff_ne.mpr c21
             exact absurd ((Option.some.inj H).trans hxt.out) (by decide)
          ·rw [if_neg c19] at H
           have c19b0 : (t318.toList == ([45,51,47,52] : List UInt8)) = false := beq_eq_false_iff_ne.mpr c19
           have c19b1 : (t318.toList != ([45,51,47,52] : List UInt8)) = true := bne_iff_ne.mpr c19
           exact absurd ((Option.some.inj H).trans hxt.out) (by decide)
         ·replace c17 := bf_ c17
          subst c17
          have H1 : (some false) = some r := by rw [if_neg (show ¬ (false = true) by decide)] at H;exact H
          clear H;have H := H1;clear H1
          exact absurd ((Option.some.inj H).trans hxt.out) (by decide)
        ·rw [if_neg c16] at H
         have c16b0 : (t317 == (-1)) = false := beq_eq_false_iff_ne.mpr c16
         have c16b1 : (t317 != (-1)) = true := bne_iff_ne.mpr c16
         exact absurd ((Option.some.inj H).trans hxt.out) (by decide)
       ·rw [if_neg c14] at H
        have c14b0 : (t316 == (-1)) = false := beq_eq_false_iff_ne.mpr c14
        have c14b1 : (t316 != (-1)) = true := bne_iff_ne.mpr c14
        exact absurd ((Option.some.inj H).trans hxt.out) (by decide)
      ·rw [if_neg c12] at H
       have c12b0 : (t302 == 0) = false := beq_eq_false_iff_ne.mpr c12
       have c12b1 : (t302 != 0) = true := bne_iff_ne.mpr c12
       exact absurd ((Option.some.inj H).trans hxt.out) (by decide)
     ·rw [if_neg c11] at H
      have c11b0 : (t300 == 1 && (t301 == 4)) = false := by simpa using c11
      (try (have c11b1 : decide (t300 = 1 && (t301 == 4)) = false := by simpa using c11))
      (try (have c11b2 : (t300 == 1 && (t301 == 4)) = false := by simpa using c11))
      (try (have c11b3 : ¬ (t300 = 1 && (t301 == 4)) := by simpa using c11))
      clear c11
      exact absurd ((Option.some.inj H).trans hxt.out) (by decide)
    ·rw [if_neg c10] at H
     have c10b0 : (t298 == 0) = false := beq_eq_false_iff_ne.mpr c10
     have c10b1 : (t298 != 0) = true := bne_iff_ne.mpr c10
     exact absurd ((Option.some.inj H).trans hxt.out) (by decide)
   ·rw [if_neg c9] at H
    have c9b0 : (t296 == 1 && (t297 == 2)) = false := by simpa using c9
    (try (have c9b1 : decide (t296 = 1 && (t297 == 2)) = false := by simpa using c9))
    (try (have c9b2 : (t296 == 1 && (t297 == 2)) = false := by simpa using c9))
    (try (have c9b3 : ¬ (t296 = 1 && (t297 == 2)) := by simpa using c9))
    clear c9
    exact absurd ((Option.some.inj H).trans hxt.out) (by decide)
  ·rw [if_neg c8] at H
   have c8b0 : (t294 == 0) = false := beq_eq_false_iff_ne.mpr c8
   have c8b1 : (t294 != 0) = true := bne_iff_ne.mpr c8
   exact absurd ((Option.some.inj H).trans hxt.out) (by decide)
 ·rw [if_neg c7] at H
  have c7b0 : (t292 == (-1) && (t293 == 6)) = false := by simpa using c7
  (try (have c7b1 : decide (t292 = (-1) && (t293 == 6)) = false := by simpa using c7))
  (try (have c7b2 : (t292 == (-1) && (t293 == 6)) = false := by simpa using c7))
  (try (have c7b3 : ¬ (t292 = (-1) && (t293 == 6)) := by simpa using c7))
  clear c7
  exact absurd ((Option.some.inj H).trans hxt.out) (by decide)
theorem neumelaw02_heads.at : neumelaw02_heads.f 60 = some true := by decide +kernel
theorem neumelaw02_heads.is : ∀ k r, neumelaw02_heads.f k = some r → r = true := by
 intro k r h
 exact Option.some.inj ((at_rounds neumelaw02_heads.mono (Nat.le_max_left k 60) h).symm.trans (at_rounds neumelaw02_heads.mono (Nat.le_max_right k 60) neumelaw02_heads.at))
theorem neumelaw02_heads.calls (k : Nat)  (r : Bool) (w : World) (hE : Aside0 (LaidE w)) (h : neumelaw02_heads.f k  = some r) :
  Calls Tryd.prog 18 #[] w fun e w' => e = .returned (.bool r) ∧ Below w.heap.size w w' := neumelaw02_heads.callsT k r w hE ⟨neumelaw02_heads.is k r h⟩ h

end Go.Proofs.YtmbdbinbdiiapaaDoor.P
