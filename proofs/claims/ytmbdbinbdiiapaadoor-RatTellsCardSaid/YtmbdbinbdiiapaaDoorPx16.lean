-- Written by a program of this session (wip/tools/xprint.py, over the kit's print): Lean checks it.
import Derived.Test.YtmbdbinbdiiapaaDoorPx0
import Derived.Test.YtmbdbinbdiiapaaDoorPx7
import Derived.Test.YtmbdbinbdiiapaaDoorPx8
namespace Go.Proofs.YtmbdbinbdiiapaaDoor.P
open Go.RowKit Go.Proofs.YtmbdbinbdiiapaaDoorW.PrintWords Go.Proofs.YtmbdbinbdiiapaaDoorW.PrintLast Go.Proofs.YtmbdbinbdiiapaaDoorW.PrintMore
attribute [local go_sem] max2_int min2_int max_two min_two max_three min_three max_four min_four   -- for this text's walks alone
set_option linter.unusedVariables false
set_option linter.unusedSimpArgs false

/-! ### neumeref02_digits: function 47 -/
def neumeref02_digits.l0 : Nat → Int → ByteArray → Option (ByteArray)
 | 0, _, _ => none
 | k + 1, x0, x3 => if x0 > 9 then ((some (([(wrap64 (48 + (Int.tmod x0 10))) % 256] : List Int) : List Int)).bind fun y380 => (if (strOfNums y380).size + x3.size ≤ 9223372036854775807 then (neumeref02_digits.l0 k (wrap64 (Int.tdiv x0 10)) ((strOfNums y380) ++ x3)) else (none))) else ((some (([(wrap64 (48 + x0)) % 256] : List Int) : List Int)).bind fun y383 => (if (strOfNums y383).size + x3.size ≤ 9223372036854775807 then (some ((strOfNums y383) ++ x3)) else (none)))
def neumeref02_digits.f (k : Nat) (a0 : Int) : Option (ByteArray) := neumeref02_digits.l0 k a0 (⟨#[]⟩ : ByteArray)
theorem neumeref02_digits.mono_l : ∀ k, (∀ y0 y1, LeO (neumeref02_digits.l0 k y0 y1) (neumeref02_digits.l0 (k + 1) y0 y1))
 | 0 => fun _ _ r h => by simp [neumeref02_digits.l0] at h
 | k + 1 => by
  have ih0 := neumeref02_digits.mono_l k
  ·intro y0 y1
   unfold neumeref02_digits.l0
   repeat' first
   | (with_reducible exact ih0 _ _)
   | (with_reducible exact LeO.refl _)
   | (with_reducible exact LeO.none _)
   | (with_reducible refine LeO.ite ?_ ?_)
   | (with_reducible refine LeO.bind ?_ (fun _ => ?_))
   | exact ih0 _ _
   | exact LeO.none _
   | refine LeO.ite ?_ ?_
   | refine LeO.bind ?_ (fun _ => ?_)
theorem neumeref02_digits.mono : ∀ a0 k, LeO (neumeref02_digits.f k a0) (neumeref02_digits.f (k + 1) a0) := by
 intro a0 k
 have ih0 := neumeref02_digits.mono_l k
 unfold neumeref02_digits.f
 repeat' first
   | (with_reducible exact ih0 _ _)
   | (with_reducible exact LeO.refl _)
   | (with_reducible exact LeO.none _)
   | (with_reducible refine LeO.ite ?_ ?_)
   | (with_reducible refine LeO.bind ?_ (fun _ => ?_))
   | exact ih0 _ _
   | exact LeO.none _
   | refine LeO.ite ?_ ?_
   | refine LeO.bind ?_ (fun _ => ?_)
set_option maxHeartbeats 8000000 in
set_option maxRecDepth 100000 in
theorem neumeref02_digits.calls (k : Nat) (a0 : Int) (r : ByteArray) (w : World) (h : neumeref02_digits.f k a0 = some r) :
  Calls Tryd.prog 47 #[.int .i64 a0] w fun e w' => e = .returned (.string r) ∧ Below w.heap.size w w' := by
 have HB := sd_ (Below.refl w.heap.size w)
 have H : (neumeref02_digits.l0 k a0 (⟨#[]⟩ : ByteArray)) = some r := h
 clear h
 have H' := sd_ H
 clear H
 go_enter Tryd.func47,Tryd.ntmps47
 go_wp2
 go_loopg [0,3] k (fun kq v0 v3 w' => ∃ (x0_1 : Int) (x3_1 : ByteArray),v0 = .int .i64 x0_1 ∧ v3 = .string x3_1 ∧ Aside0 (neumeref02_digits.l0 kq x0_1 x3_1 = some r) ∧ Aside0 (kq ≤ k) ∧ Aside0 (Below w.heap.size w w'))
 case atStart => exact ⟨(a0),((⟨#[]⟩ : ByteArray)),(by first|rfl|(simp;done)|(simp [*];done)|(simp [bne];done)),(by first|rfl|(simp;done)|(simp [*];done)|(simp [bne];done)),H',⟨Nat.le_refl _⟩,⟨by repeat (first|(with_reducible first|exact HB.out|apply ba_|apply pd_|apply d1_)|exact HB.out)⟩⟩
 case round =>
  clear H'
  obtain ⟨x0_1,x3_1,rfl,rfl,HA,HK1,HB⟩ := hrel
  cases gk with
  | zero => exact absurd HA.out (by simp [neumeref02_digits.l0])
  | succ k1 =>
   have H := HA.out
   clear HA
   simp only [neumeref02_digits.l0] at H
   by_cases c2 : x0_1 > 9
   ·rw [if_pos c2] at H
    have c2b0 : decide (9 < x0_1) = true := dt_ c2
    clear c2
    obtain ⟨y380,hy380⟩ : ∃ y_ : List Int,y_ = (([(wrap64 (48 + (Int.tmod x0_1 10))) % 256] : List Int)) := ⟨_,rfl⟩
    replace H : (if (strOfNums y380).size + x3_1.size ≤ 9223372036854775807 then (neumeref02_digits.l0 k1 (wrap64 (Int.tdiv x0_1 10)) ((strOfNums y380) ++ x3_1)) else (none)) = some r := by first|(rw [hy380];with_reducible exact H)|(have H2_ := (Option.bind_some _ _).symm.trans H;rw [hy380];with_reducible exact H2_)|(have H2_ := (Option.bind_some _ _).symm.trans H;with_reducible exact H2_)|with_reducible exact H|(rw [hy380];exact H)|exact H
    have Ny380 := sd_ hy380
    clear hy380
    by_cases c3 : (strOfNums y380).size + x3_1.size ≤ 9223372036854775807
    ·rw [if_pos c3] at H
     have c3b0 := eq_true c3
     have c3b1 : decide ((strOfNums y380).size + x3_1.size ≤ 9223372036854775807) = true := dt_ c3
     try have c3b2 : (9223372036854775807 < (strOfNums y380).size + x3_1.size) = False := eq_false (Nat.not_lt.2 c3)
     have H' := sd_ H
     clear H
     go_wp2_with (first|((with_reducible refine gate_dst (N := 10) rfl ?_);refine Kd.R_lit (Kd.int .u8) _ 5 ?hg (N := 10) ?hd (xs := ([(wrap64 (48 + (Int.tmod x0_1 10))) % 256] : List Int)) (inner := [.int .u8 ((wrap64 (48 + (Int.tmod x0_1 10))) % 256)]) (ok := fun _ => True) (okp := fun _ => True) ?hr ?hp (fun _ hk => hk) trivial (Below.refl _ _) (Nat.le_refl _) (by simp) ?_;(case hd => rfl);(case hg => rfl);(case hr => first|(go_simp;done)|(go_simp;rfl));(case hp => exact (Reps.one (show Kd.M (Kd.int .u8) _ _ _ ((wrap64 (48 + (Int.tmod x0_1 10))) % 256) [.int .u8 ((wrap64 (48 + (Int.tmod x0_1 10))) % 256)] from rfl) (Reps.none _ _)));intro v381 w4 ho5 hb hg_ hnew_;clear hg_ hnew_;(first|rw [← Ny380.out] at ho5|(simp only [Int.reduceToNat] at ho5;rw [← Ny380.out] at ho5));have HO382 := sd_ (Kd.R_lower ho5 (bz_ (bb_ HB.out e0_)));replace HB := hb_ HB e0_ hb;clear hb ho5;have hcv6 := own_string (P := Tryd.prog) Tryd.underlying58 Tryd.underlying5 Tryd.underlying9 (Kd.own_of_R HO382.out)))
     go_roundg k1
     case measure => have := HK1.out;omega
     case rel => exact ⟨(wrap64 (Int.tdiv x0_1 10)),((strOfNums y380) ++ x3_1),(by first|rfl|(simp;done)|(simp [*];done)|(simp [bne];done)),(by first|rfl|(simp;done)|(simp [*];done)|(simp [bne];done)),H',⟨by have := HK1.out;omega⟩,⟨by repeat (first|(with_reducible first|exact HB.out|apply ba_|apply pd_|apply d1_)|exact HB.out)⟩⟩
    ·rw [if_neg c3] at H
     exact absurd H (by simp)
   ·rw [if_neg c2] at H
    have c2b0 : decide (9 < x0_1) = false := df_ c2
    clear c2
    obtain ⟨y383,hy383⟩ : ∃ y_ : List Int,y_ = (([(wrap64 (48 + x0_1)) % 256] : List Int)) := ⟨_,rfl⟩
    replace H : (if (strOfNums y383).size + x3_1.size ≤ 9223372036854775807 then (some ((strOfNums y383) ++ x3_1)) else (none)) = some r := by first|(rw [hy383];with_reducible exact H)|(have H2_ := (Option.bind_some _ _).symm.trans H;rw [hy383];with_reducible exact H2_)|(have H2_ := (Option.bind_some _ _).symm.trans H;with_reducible exact H2_)|with_reducible exact H|(rw [hy383];exact H)|exact H
    have Ny383 := sd_ hy383
    clear hy383
    by_cases c7 : (strOfNums y383).size + x3_1.size ≤ 9223372036854775807
    ·rw [if_pos c7] at H
     have c7b0 := eq_true c7
     have c7b1 : decide ((strOfNums y383).size + x3_1.size ≤ 9223372036854775807) = true := dt_ c7
     try have c7b2 : (9223372036854775807 < (strOfNums y383).size + x3_1.size) = False := eq_false (Nat.not_lt.2 c7)
     obtain rfl := Option.some.inj H
     go_wp2_with (first|((with_reducible refine gate_dst (N := 19) rfl ?_);refine Kd.R_lit (Kd.int .u8) _ 5 ?hg (N := 19) ?hd (xs := ([(wrap64 (48 + x0_1)) % 256] : List Int)) (inner := [.int .u8 ((wrap64 (48 + x0_1)) % 256)]) (ok := fun _ => True) (okp := fun _ => True) ?hr ?hp (fun _ hk => hk) trivial (Below.refl _ _) (Nat.le_refl _) (by simp) ?_;(case hd => rfl);(case hg => rfl);(case hr => first|(go_simp;done)|(go_simp;rfl));(case hp => exact (Reps.one (show Kd.M (Kd.int .u8) _ _ _ ((wrap64 (48 + x0_1)) % 256) [.int .u8 ((wrap64 (48 + x0_1)) % 256)] from rfl) (Reps.none _ _)));intro v384 w8 ho9 hb hg_ hnew_;clear hg_ hnew_;(first|rw [← Ny383.out] at ho9|(simp only [Int.reduceToNat] at ho9;rw [← Ny383.out] at ho9));have HO385 := sd_ (Kd.R_lower ho9 (bz_ (bb_ HB.out e0_)));replace HB := hb_ HB e0_ hb;clear hb ho9;have hcv10 := own_string (P := Tryd.prog) Tryd.underlying58 Tryd.underlying5 Tryd.underlying9 (Kd.own_of_R HO385.out)))
     go_ret
     exact ⟨by first|rfl|(simp [errW_none,errW_some] <;> rfl)|(simp [*,errW_none,errW_some] <;> rfl),by repeat (first|(with_reducible first|exact HB.out|apply ba_|apply pd_|apply d1_)|exact HB.out)⟩
    ·rw [if_neg c7] at H
     exact absurd H (by simp)

/-! ### neumeref02_Text: function 28 -/
def neumeref02_Text.f (k : Nat) (a0_0 : Int) (a0_1 : Int) : Option (ByteArray) := (neumeref02_Check.f k a0_0 a0_1).bind fun t387 => (if t387 = true then ((neumeref02_abs.f a0_0).bind fun t388 => ((neumeref02_digits.f k t388).bind fun t389 => (if a0_0 < 0 then (if 1 + t389.size ≤ 9223372036854775807 then (if a0_1 > 1 then (if 1 + t389.size + 1 ≤ 9223372036854775807 then ((neumeref02_digits.f k a0_1).bind fun t390 => (if 1 + t389.size + 1 + t390.size ≤ 9223372036854775807 then (some ((((⟨#[45]⟩ : ByteArray) ++ t389) ++ (⟨#[47]⟩ : ByteArray)) ++ t390)) else (none))) else (none)) else (some ((⟨#[45]⟩ : ByteArray) ++ t389))) else (none)) else (if a0_1 > 1 then (if t389.size + 1 ≤ 9223372036854775807 then ((neumeref02_digits.f k a0_1).bind fun t391 => (if t389.size + 1 + t391.size ≤ 9223372036854775807 then (some ((t389 ++ (⟨#[47]⟩ : ByteArray)) ++ t391)) else (none))) else (none)) else (some t389))))) else (some (⟨#[]⟩ : ByteArray)))
theorem neumeref02_Text.mono : ∀ a0 a1 k, LeO (neumeref02_Text.f k a0 a1) (neumeref02_Text.f (k + 1) a0 a1) := by
 intro a0 a1 k
 unfold neumeref02_Text.f
 repeat' first
   | (with_reducible exact neumeref02_Check.mono _ _ _)
   | (with_reducible exact neumeref02_digits.mono _ _)
   | (with_reducible exact LeO.refl _)
   | (with_reducible exact LeO.none _)
   | (with_reducible refine LeO.ite ?_ ?_)
   | (with_reducible refine LeO.bind ?_ (fun _ => ?_))
   | exact neumeref02_Check.mono _ _ _
   | exact neumeref02_digits.mono _ _
   | exact LeO.none _
   | refine LeO.ite ?_ ?_
   | refine LeO.bind ?_ (fun _ => ?_)
set_option maxHeartbeats 8000000 in
set_option maxRecDepth 100000 in
theorem neumeref02_Text.calls (k : Nat) (a0_0 : Int) (a0_1 : Int) (r : ByteArray) (w : World) (h : neumeref02_Text.f k a0_0 a0_1 = some r) :
  Calls Tryd.prog 28 #[.agg #[.int .i64 a0_0,.int .i64 a0_1]] w fun e w' => e = .returned (.string r) ∧ Below w.heap.size w w' := by
 have hu23 := Tryd.underlying23
 have HB := sd_ (Below.refl w.heap.size w)
 have H : ((neumeref02_Check.f k a0_0 a0_1).bind fun t387 => (if t387 = true then ((neumeref02_abs.f a0_0).bind fun t388 => ((neumeref02_digits.f k t388).bind fun t389 => (if a0_0 < 0 then (if 1 + t389.size ≤ 9223372036854775807 then (if a0_1 > 1 then (if 1 + t389.size + 1 ≤ 9223372036854775807 then ((neumeref02_digits.f k a0_1).bind fun t390 => (if 1 + t389.size + 1 + t390.size ≤ 9223372036854775807 then (some ((((⟨#[45]⟩ : ByteArray) ++ t389) ++ (⟨#[47]⟩ : ByteArray)) ++ t390)) else (none))) else (none)) else (some ((⟨#[45]⟩ : ByteArray) ++ t389))) else (none)) else (if a0_1 > 1 then (if t389.size + 1 ≤ 9223372036854775807 then ((neumeref02_digits.f k a0_1).bind fun t391 => (if t389.size + 1 + t391.size ≤ 9223372036854775807 then (some ((t389 ++ (⟨#[47]⟩ : ByteArray)) ++ t391)) else (none))) else (none)) else (some t389))))) else (some (⟨#[]⟩ : ByteArray)))) = some r := h
 clear h
 replace H := ob_ H
 obtain ⟨t387,A20,H⟩ := H
 replace H : (if t387 = true then ((neumeref02_abs.f a0_0).bind fun t388 => ((neumeref02_digits.f k t388).bind fun t389 => (if a0_0 < 0 then (if 1 + t389.size ≤ 9223372036854775807 then (if a0_1 > 1 then (if 1 + t389.size + 1 ≤ 9223372036854775807 then ((neumeref02_digits.f k a0_1).bind fun t390 => (if 1 + t389.size + 1 + t390.size ≤ 9223372036854775807 then (some ((((⟨#[45]⟩ : ByteArray) ++ t389) ++ (⟨#[47]⟩ : ByteArray)) ++ t390)) else (none))) else (none)) else (some ((⟨#[45]⟩ : ByteArray) ++ t389))) else (none)) else (if a0_1 > 1 then (if t389.size + 1 ≤ 9223372036854775807 then ((neumeref02_digits.f k a0_1).bind fun t391 => (if t389.size + 1 + t391.size ≤ 9223372036854775807 then (some ((t389 ++ (⟨#[47]⟩ : ByteArray)) ++ t391)) else (none))) else (none)) else (some t389))))) else (some (⟨#[]⟩ : ByteArray))) = some r := H
 have A2 := sd_ A20
 clear A20
 by_cases c3 : t387 = true
 ·subst c3
  have H1 : ((neumeref02_abs.f a0_0).bind fun t388 => ((neumeref02_digits.f k t388).bind fun t389 => (if a0_0 < 0 then (if 1 + t389.size ≤ 9223372036854775807 then (if a0_1 > 1 then (if 1 + t389.size + 1 ≤ 9223372036854775807 then ((neumeref02_digits.f k a0_1).bind fun t390 => (if 1 + t389.size + 1 + t390.size ≤ 9223372036854775807 then (some ((((⟨#[45]⟩ : ByteArray) ++ t389) ++ (⟨#[47]⟩ : ByteArray)) ++ t390)) else (none))) else (none)) else (some ((⟨#[45]⟩ : ByteArray) ++ t389))) else (none)) else (if a0_1 > 1 then (if t389.size + 1 ≤ 9223372036854775807 then ((neumeref02_digits.f k a0_1).bind fun t391 => (if t389.size + 1 + t391.size ≤ 9223372036854775807 then (some ((t389 ++ (⟨#[47]⟩ : ByteArray)) ++ t391)) else (none))) else (none)) else (some t389))))) = some r := by rw [if_pos rfl] at H;exact H
  clear H;have H := H1;clear H1
  replace H := ob_ H
  obtain ⟨t388,A40,H⟩ := H
  replace H : ((neumeref02_digits.f k t388).bind fun t389 => (if a0_0 < 0 then (if 1 + t389.size ≤ 9223372036854775807 then (if a0_1 > 1 then (if 1 + t389.size + 1 ≤ 9223372036854775807 then ((neumeref02_digits.f k a0_1).bind fun t390 => (if 1 + t389.size + 1 + t390.size ≤ 9223372036854775807 then (some ((((⟨#[45]⟩ : ByteArray) ++ t389) ++ (⟨#[47]⟩ : ByteArray)) ++ t390)) else (none))) else (none)) else (some ((⟨#[45]⟩ : ByteArray) ++ t389))) else (none)) else (if a0_1 > 1 then (if t389.size + 1 ≤ 9223372036854775807 then ((neumeref02_digits.f k a0_1).bind fun t391 => (if t389.size + 1 + t391.size ≤ 9223372036854775807 then (some ((t389 ++ (⟨#[47]⟩ : ByteArray)) ++ t391)) else (none))) else (none)) else (some t389)))) = some r := H
  have A4 := sd_ A40
  clear A40
  replace H := ob_ H
  obtain ⟨t389,A50,H⟩ := H
  replace H : (if a0_0 < 0 then (if 1 + t389.size ≤ 9223372036854775807 then (if a0_1 > 1 then (if 1 + t389.size + 1 ≤ 9223372036854775807 then ((neumeref02_digits.f k a0_1).bind fun t390 => (if 1 + t389.size + 1 + t390.size ≤ 9223372036854775807 then (some ((((⟨#[45]⟩ : ByteArray) ++ t389) ++ (⟨#[47]⟩ : ByteArray)) ++ t390)) else (none))) else (none)) else (some ((⟨#[45]⟩ : ByteArray) ++ t389))) else (none)) else (if a0_1 > 1 then (if t389.size + 1 ≤ 9223372036854775807 then ((neumeref02_digits.f k a0_1).bind fun t391 => (if t389.size + 1 + t391.size ≤ 9223372036854775807 then (some ((t389 ++ (⟨#[47]⟩ : ByteArray)) ++ t391)) else (none))) else (none)) else (some t389))) = some r := H
  have A5 := sd_ A50
  clear A50
  by_cases c6 : a0_0 < 0
  ·rw [if_pos c6] at H
   have c6b0 : decide (a0_0 < 0) = true := dt_ c6
   clear c6
   by_cases c7 : 1 + t389.size ≤ 9223372036854775807
   ·rw [if_pos c7] at H
    have c7b0 := eq_true c7
    have c7b1 : decide (1 + t389.size ≤ 9223372036854775807) = true := dt_ c7
    try have c7b2 : (9223372036854775807 < 1 + t389.size) = False := eq_false (Nat.not_lt.2 c7)
    by_cases c8 : a0_1 > 1
    ·rw [if_pos c8] at H
     have c8b0 : decide (1 < a0_1) = true := dt_ c8
     clear c8
     by_cases c9 : 1 + t389.size + 1 ≤ 9223372036854775807
     ·rw [if_pos c9] at H
      have c9b0 := eq_true c9
      have c9b1 : decide (1 + t389.size + 1 ≤ 9223372036854775807) = true := dt_ c9
      try have c9b2 : (9223372036854775807 < 1 + t389.size + 1) = False := eq_false (Nat.not_lt.2 c9)
      replace H := ob_ H
      obtain ⟨t390,A100,H⟩ := H
      replace H : (if 1 + t389.size + 1 + t390.size ≤ 9223372036854775807 then (some ((((⟨#[45]⟩ : ByteArray) ++ t389) ++ (⟨#[47]⟩ : ByteArray)) ++ t390)) else (none)) = some r := H
      have A10 := sd_ A100
      clear A100
      by_cases c11 : 1 + t389.size + 1 + t390.size ≤ 9223372036854775807
      ·rw [if_pos c11] at H
       have c11b0 := eq_true c11
       have c11b1 : decide (1 + t389.size + 1 + t390.size ≤ 9223372036854775807) = true := dt_ c11
       try have c11b2 : (9223372036854775807 < 1 + t389.size + 1 + t390.size) = False := eq_false (Nat.not_lt.2 c11)
       obtain rfl := Option.some.inj H
       go_enter Tryd.func28,Tryd.ntmps28
       go_wp2_with (first|((with_reducible refine gate_dst (N := 1) rfl ?_);refine box_event ?hg (N := 1) ?hd (cs := #[.int .i64 a0_0,.int .i64 a0_1]) (t := 23) ?hr ?_;(case hd => rfl);(case hg => rfl);(case hr => first|(go_simp;done)|(go_simp;rfl));intro gb386 hg w12 hbox hb;have BK386 := sd_ hbox;have GW386 := gw_ HB e0_ hg;have GE386 := GW386;replace HB := hb_ HB e0_ hb;clear hb hbox hg;have hcz13_0 : w12.cell? ⟨gb386,0,none⟩ = some (.int .i64 a0_0) := (kc_ BK386.out 0).trans rfl;have hcz13_1 : w12.cell? ⟨gb386,1,none⟩ = some (.int .i64 a0_1) := (kc_ BK386.out 1).trans rfl;have hfz13_0 := kf_ BK386.out 0;have hfz13_1 := kf_ BK386.out 1)|((with_reducible refine gate_callee (f := 30) rfl ?_);refine goesL_ (some 5) rfl rfl Tryd.func30 (by kernel_rfl) rfl #[.agg #[.int .i64 a0_0,.int .i64 a0_1]] rfl (by (try simp only [lm_,lq_,lx_]);first|done|rfl|(simp only [ld_,lt_];rfl)) ?_;(with_reducible refine (neumeref02_Check.calls k a0_0 a0_1 true _ A2.out).mono ?_);rintro e w14 ⟨rfl,hb⟩;refine ⟨_,rfl,?_⟩;replace BK386 := kb_ BK386 hb;replace HB := hb_ HB (e_ GE386 e0_) hb;(try clear hb);(try clear hb2);(try clear hk);(try clear hi);have hcz15_0 : w14.cell? ⟨gb386,0,none⟩ = some (.int .i64 a0_0) := (kc_ BK386.out 0).trans rfl;have hcz15_1 : w14.cell? ⟨gb386,1,none⟩ = some (.int .i64 a0_1) := (kc_ BK386.out 1).trans rfl;have hfz15_0 := kf_ BK386.out 0;have hfz15_1 := kf_ BK386.out 1)|((with_reducible refine gate_callee (f := 40) rfl ?_);refine goesL_ (some 9) rfl rfl Tryd.func40 (by kernel_rfl) rfl #[.int .i64 a0_0] rfl (by (try simp only [lm_,lq_,lx_]);first|done|rfl|(simp only [ld_,lt_];rfl)) ?_;(with_reducible refine (neumeref02_abs.calls a0_0 t388 _ A4.out).mono ?_);rintro e w16 ⟨rfl,hb⟩;refine ⟨_,rfl,?_⟩;replace BK386 := kb_ BK386 hb;replace HB := hb_ HB (e_ GE386 e0_) hb;(try clear hb);(try clear hb2);(try clear hk);(try clear hi))|((with_reducible refine gate_callee (f := 47) rfl ?_);refine goesL_ (some 10) rfl rfl Tryd.func47 (by kernel_rfl) rfl #[.int .i64 t388] rfl (by (try simp only [lm_,lq_,lx_]);first|done|rfl|(simp only [ld_,lt_];rfl)) ?_;(with_reducible refine (neumeref02_digits.calls k t388 t389 _ A5.out).mono ?_);rintro e w17 ⟨rfl,hb⟩;refine ⟨_,rfl,?_⟩;replace BK386 := kb_ BK386 hb;replace HB := hb_ HB (e_ GE386 e0_) hb;(try clear hb);(try clear hb2);(try clear hk);(try clear hi);have hcz18_0 : w17.cell? ⟨gb386,0,none⟩ = some (.int .i64 a0_0) := (kc_ BK386.out 0).trans rfl;have hcz18_1 : w17.cell? ⟨gb386,1,none⟩ = some (.int .i64 a0_1) := (kc_ BK386.out 1).trans rfl;have hfz18_0 := kf_ BK386.out 0;have hfz18_1 := kf_ BK386.out 1)|((with_reducible refine gate_callee (f := 47) rfl ?_);refine goesL_ (some 23) rfl rfl Tryd.func47 (by kernel_rfl) rfl #[.int .i64 a0_1] rfl (by (try simp only [lm_,lq_,lx_]);first|done|rfl|(simp only [ld_,lt_];rfl)) ?_;(with_reducible refine (neumeref02_digits.calls k a0_1 t390 _ A10.out).mono ?_);rintro e w19 ⟨rfl,hb⟩;refine ⟨_,rfl,?_⟩;replace BK386 := kb_ BK386 hb;replace HB := hb_ HB (e_ GE386 e0_) hb;(try clear hb);(try clear hb2);(try clear hk);(try clear hi)))
       go_ret
       exact ⟨by first|rfl|(simp [errW_none,errW_some] <;> rfl)|(simp [*,errW_none,errW_some] <;> rfl),by repeat (first|(with_reducible first|exact HB.out|apply ba_|apply pd_|apply d1_|refine bs_ ?_ GE386.out)|exact HB.out)⟩
      ·rw [if_neg c11] at H
       exact absurd H (by simp)
     ·rw [if_neg c9] at H
      exact absurd H (by simp)
    ·rw [if_neg c8] at H
     have c8b0 : decide (1 < a0_1) = false := df_ c8
     clear c8
     obtain rfl := Option.some.inj H
     go_enter Tryd.func28,Tryd.ntmps28
     go_wp2_with (first|((with_reducible refine gate_dst (N := 1) rfl ?_);refine box_event ?hg (N := 1) ?hd (cs := #[.int .i64 a0_0,.int .i64 a0_1]) (t := 23) ?hr ?_;(case hd => rfl);(case hg => rfl);(case hr => first|(go_simp;done)|(go_simp;rfl));intro gb386 hg w20 hbox hb;have BK386 := sd_ hbox;have GW386 := gw_ HB e0_ hg;have GE386 := GW386;replace HB := hb_ HB e0_ hb;clear hb hbox hg;have hcz21_0 : w20.cell? ⟨gb386,0,none⟩ = some (.int .i64 a0_0) := (kc_ BK386.out 0).trans rfl;have hcz21_1 : w20.cell? ⟨gb386,1,none⟩ = some (.int .i64 a0_1) := (kc_ BK386.out 1).trans rfl;have hfz21_0 := kf_ BK386.out 0;have hfz21_1 := kf_ BK386.out 1)|((with_reducible refine gate_callee (f := 30) rfl ?_);refine goesL_ (some 5) rfl rfl Tryd.func30 (by kernel_rfl) rfl #[.agg #[.int .i64 a0_0,.int .i64 a0_1]] rfl (by (try simp only [lm_,lq_,lx_]);first|done|rfl|(simp only [ld_,lt_];rfl)) ?_;(with_reducible refine (neumeref02_Check.calls k a0_0 a0_1 true _ A2.out).mono ?_);rintro e w22 ⟨rfl,hb⟩;refine ⟨_,rfl,?_⟩;replace BK386 := kb_ BK386 hb;replace HB := hb_ HB (e_ GE386 e0_) hb;(try clear hb);(try clear hb2);(try clear hk);(try clear hi);have hcz23_0 : w22.cell? ⟨gb386,0,none⟩ = some (.int .i64 a0_0) := (kc_ BK386.out 0).trans rfl;have hcz23_1 : w22.cell? ⟨gb386,1,none⟩ = some (.int .i64 a0_1) := (kc_ BK386.out 1).trans rfl;have hfz23_0 := kf_ BK386.out 0;have hfz23_1 := kf_ BK386.out 1)|((with_reducible refine gate_callee (f := 40) rfl ?_);refine goesL_ (some 9) rfl rfl Tryd.func40 (by kernel_rfl) rfl #[.int .i64 a0_0] rfl (by (try simp only [lm_,lq_,lx_]);first|done|rfl|(simp only [ld_,lt_];rfl)) ?_;(with_reducible refine (neumeref02_abs.calls a0_0 t388 _ A4.out).mono ?_);rintro e w24 ⟨rfl,hb⟩;refine ⟨_,rfl,?_⟩;replace BK386 := kb_ BK386 hb;replace HB := hb_ HB (e_ GE386 e0_) hb;(try clear hb);(try clear hb2);(try clear hk);(try clear hi))|((with_reducible refine gate_callee (f := 47) rfl ?_);refine goesL_ (some 10) rfl rfl Tryd.func47 (by kernel_rfl) rfl #[.int .i64 t388] rfl (by (try simp only [lm_,lq_,lx_]);first|done|rfl|(simp only [ld_,lt_];rfl)) ?_;(with_reducible refine (neumeref02_digits.calls k t388 t389 _ A5.out).mono ?_);rintro e w25 ⟨rfl,hb⟩;refine ⟨_,rfl,?_⟩;replace BK386 := kb_ BK386 hb;replace HB := hb_ HB (e_ GE386 e0_) hb;(try clear hb);(try clear hb2);(try clear hk);(try clear hi);have hcz26_0 : w25.cell? ⟨gb386,0,none⟩ = some (.int .i64 a0_0) := (kc_ BK386.out 0).trans rfl;have hcz26_1 : w25.cell? ⟨gb386,1,none⟩ = some (.int .i64 a0_1) := (kc_ BK386.out 1).trans rfl;have hfz26_0 := kf_ BK386.out 0;have hfz26_1 := kf_ BK386.out 1))
     go_ret
     exact ⟨by first|rfl|(simp [errW_none,errW_some] <;> rfl)|(simp [*,errW_none,errW_some] <;> rfl),by repeat (first|(with_reducible first|exact HB.out|apply ba_|apply pd_|apply d1_|refine bs_ ?_ GE386.out)|exact HB.out)⟩
   ·rw [if_neg c7] at H
    exact absurd H (by simp)
  ·rw [if_neg c6] at H
   have c6b0 : decide (a0_0 < 0) = false := df_ c6
   clear c6
   by_cases c27 : a0_1 > 1
   ·rw [if_pos c27] at H
    have c27b0 : decide (1 < a0_1) = true := dt_ c27
    clear c27
    by_cases c28 : t389.size + 1 ≤ 9223372036854775807
    ·rw [if_pos c28] at H
     have c28b0 := eq_true c28
     have c28b1 : decide (t389.size + 1 ≤ 9223372036854775807) = true := dt_ c28
     try have c28b2 : (9223372036854775807 < t389.size + 1) = False := eq_false (Nat.not_lt.2 c28)
     replace H := ob_ H
     obtain ⟨t391,A290,H⟩ := H
     replace H : (if t389.size + 1 + t391.size ≤ 9223372036854775807 then (some ((t389 ++ (⟨#[47]⟩ : ByteArray)) ++ t391)) else (none)) = some r := H
     have A29 := sd_ A290
     clear A290
     by_cases c30 : t389.size + 1 + t391.size ≤ 9223372036854775807
     ·rw [if_pos c30] at H
      have c30b0 := eq_true c30
      have c30b1 : decide (t389.size + 1 + t391.size ≤ 9223372036854775807) = true := dt_ c30
      try have c30b2 : (9223372036854775807 < t389.size + 1 + t391.size) = False := eq_false (Nat.not_lt.2 c30)
      obtain rfl := Option.some.inj H
      go_enter Tryd.func28,Tryd.ntmps28
      go_wp2_with (first|((with_reducible refine gate_dst (N := 1) rfl ?_);refine box_event ?hg (N := 1) ?hd (cs := #[.int .i64 a0_0,.int .i64 a0_1]) (t := 23) ?hr ?_;(case hd => rfl);(case hg => rfl);(case hr => first|(go_simp;done)|(go_simp;rfl));intro gb386 hg w31 hbox hb;have BK386 := sd_ hbox;have GW386 := gw_ HB e0_ hg;have GE386 := GW386;replace HB := hb_ HB e0_ hb;clear hb hbox hg;have hcz32_0 : w31.cell? ⟨gb386,0,none⟩ = some (.int .i64 a0_0) := (kc_ BK386.out 0).trans rfl;have hcz32_1 : w31.cell? ⟨gb386,1,none⟩ = some (.int .i64 a0_1) := (kc_ BK386.out 1).trans rfl;have hfz32_0 := kf_ BK386.out 0;have hfz32_1 := kf_ BK386.out 1)|((with_reducible refine gate_callee (f := 30) rfl ?_);refine goesL_ (some 5) rfl rfl Tryd.func30 (by kernel_rfl) rfl #[.agg #[.int .i64 a0_0,.int .i64 a0_1]] rfl (by (try simp only [lm_,lq_,lx_]);first|done|rfl|(simp only [ld_,lt_];rfl)) ?_;(with_reducible refine (neumeref02_Check.calls k a0_0 a0_1 true _ A2.out).mono ?_);rintro e w33 ⟨rfl,hb⟩;refine ⟨_,rfl,?_⟩;replace BK386 := kb_ BK386 hb;replace HB := hb_ HB (e_ GE386 e0_) hb;(try clear hb);(try clear hb2);(try clear hk);(try clear hi);have hcz34_0 : w33.cell? ⟨gb386,0,none⟩ = some (.int .i64 a0_0) := (kc_ BK386.out 0).trans rfl;have hcz34_1 : w33.cell? ⟨gb386,1,none⟩ = some (.int .i64 a0_1) := (kc_ BK386.out 1).trans rfl;have hfz34_0 := kf_ BK386.out 0;have hfz34_1 := kf_ BK386.out 1)|((with_reducible refine gate_callee (f := 40) rfl ?_);refine goesL_ (some 9) rfl rfl Tryd.func40 (by kernel_rfl) rfl #[.int .i64 a0_0] rfl (by (try simp only [lm_,lq_,lx_]);first|done|rfl|(simp only [ld_,lt_];rfl)) ?_;(with_reducible refine (neumeref02_abs.calls a0_0 t388 _ A4.out).mono ?_);rintro e w35 ⟨rfl,hb⟩;refine ⟨_,rfl,?_⟩;replace BK386 := kb_ BK386 hb;replace HB := hb_ HB (e_ GE386 e0_) hb;(try clear hb);(try clear hb2);(try clear hk);(try clear hi))|((with_reducible refine gate_callee (f := 47) rfl ?_);refine goesL_ (some 10) rfl rfl Tryd.func47 (by kernel_rfl) rfl #[.int .i64 t388] rfl (by (try simp only [lm_,lq_,lx_]);first|done|rfl|(simp only [ld_,lt_];rfl)) ?_;(with_reducible refine (neumeref02_digits.calls k t388 t389 _ A5.out).mono ?_);rintro e w36 ⟨rfl,hb⟩;refine ⟨_,rfl,?_⟩;replace BK386 := kb_ BK386 hb;replace HB := hb_ HB (e_ GE386 e0_) hb;(try clear hb);(try clear hb2);(try clear hk);(try clear hi);have hcz37_0 : w36.cell? ⟨gb386,0,none⟩ = some (.int .i64 a0_0) := (kc_ BK386.out 0).trans rfl;have hcz37_1 : w36.cell? ⟨gb386,1,none⟩ = some (.int .i64 a0_1) := (kc_ BK386.out 1).trans rfl;have hfz37_0 := kf_ BK386.out 0;have hfz37_1 := kf_ BK386.out 1)|((with_reducible refine gate_callee (f := 47) rfl ?_);refine goesL_ (some 23) rfl rfl Tryd.func47 (by kernel_rfl) rfl #[.int .i64 a0_1] rfl (by (try simp only [lm_,lq_,lx_]);first|done|rfl|(simp only [ld_,lt_];rfl)) ?_;(with_reducible refine (neumeref02_digits.calls k a0_1 t391 _ A29.out).mono ?_);rintro e w38 ⟨rfl,hb⟩;refine ⟨_,rfl,?_⟩;replace BK386 := kb_ BK386 hb;replace HB := hb_ HB (e_ GE386 e0_) hb;(try clear hb);(try clear hb2);(try clear hk);(try clear hi)))
      go_ret
      exact ⟨by first|rfl|(simp [errW_none,errW_some] <;> rfl)|(simp [*,errW_none,errW_some] <;> rfl),by repeat (first|(with_reducible first|exact HB.out|apply ba_|apply pd_|apply d1_|refine bs_ ?_ GE386.out)|exact HB.out)⟩
     ·rw [if_neg c30] at H
      exact absurd H (by simp)
    ·rw [if_neg c28] at H
     exact absurd H (by simp)
   ·rw [if_neg c27] at H
    have c27b0 : decide (1 < a0_1) = false := df_ c27
    clear c27
    obtain rfl := Option.some.inj H
    go_enter Tryd.func28,Tryd.ntmps28
    go_wp2_with (first|((with_reducible refine gate_dst (N := 1) rfl ?_);refine box_event ?hg (N := 1) ?hd (cs := #[.int .i64 a0_0,.int .i64 a0_1]) (t := 23) ?hr ?_;(case hd => rfl);(case hg => rfl);(case hr => first|(go_simp;done)|(go_simp;rfl));intro gb386 hg w39 hbox hb;have BK386 := sd_ hbox;have GW386 := gw_ HB e0_ hg;have GE386 := GW386;replace HB := hb_ HB e0_ hb;clear hb hbox hg;have hcz40_0 : w39.cell? ⟨gb386,0,none⟩ = some (.int .i64 a0_0) := (kc_ BK386.out 0).trans rfl;have hcz40_1 : w39.cell? ⟨gb386,1,none⟩ = some (.int .i64 a0_1) := (kc_ BK386.out 1).trans rfl;have hfz40_0 := kf_ BK386.out 0;have hfz40_1 := kf_ BK386.out 1)|((with_reducible refine gate_callee (f := 30) rfl ?_);refine goesL_ (some 5) rfl rfl Tryd.func30 (by kernel_rfl) rfl #[.agg #[.int .i64 a0_0,.int .i64 a0_1]] rfl (by (try simp only [lm_,lq_,lx_]);first|done|rfl|(simp only [ld_,lt_];rfl)) ?_;(with_reducible refine (neumeref02_Check.calls k a0_0 a0_1 true _ A2.out).mono ?_);rintro e w41 ⟨rfl,hb⟩;refine ⟨_,rfl,?_⟩;replace BK386 := kb_ BK386 hb;replace HB := hb_ HB (e_ GE386 e0_) hb;(try clear hb);(try clear hb2);(try clear hk);(try clear hi);have hcz42_0 : w41.cell? ⟨gb386,0,none⟩ = some (.int .i64 a0_0) := (kc_ BK386.out 0).trans rfl;have hcz42_1 : w41.cell? ⟨gb386,1,none⟩ = some (.int .i64 a0_1) := (kc_ BK386.out 1).trans rfl;have hfz42_0 := kf_ BK386.out 0;have hfz42_1 := kf_ BK386.out 1)|((with_reducible refine gate_callee (f := 40) rfl ?_);refine goesL_ (some 9) rfl rfl Tryd.func40 (by kernel_rfl) rfl #[.int .i64 a0_0] rfl (by (try simp only [lm_,lq_,lx_]);first|done|rfl|(simp only [ld_,lt_];rfl)) ?_;(with_reducible refine (neumeref02_abs.calls a0_0 t388 _ A4.out).mono ?_);rintro e w43 ⟨rfl,hb⟩;refine ⟨_,rfl,?_⟩;replace BK386 := kb_ BK386 hb;replace HB := hb_ HB (e_ GE386 e0_) hb;(try clear hb);(try clear hb2);(try clear hk);(try clear hi))|((with_reducible refine gate_callee (f := 47) rfl ?_);refine goesL_ (some 10) rfl rfl Tryd.func47 (by kernel_rfl) rfl #[.int .i64 t388] rfl (by (try simp only [lm_,lq_,lx_]);first|done|rfl|(simp only [ld_,lt_];rfl)) ?_;(with_reducible refine (neumeref02_digits.calls k t388 t389 _ A5.out).mono ?_);rintro e w44 ⟨rfl,hb⟩;refine ⟨_,rfl,?_⟩;replace BK386 := kb_ BK386 hb;replace HB := hb_ HB (e_ GE386 e0_) hb;(try clear hb);(try clear hb2);(try clear hk);(try clear hi);have hcz45_0 : w44.cell? ⟨gb386,0,none⟩ = some (.int .i64 a0_0) := (kc_ BK386.out 0).trans rfl;have hcz45_1 : w44.cell? ⟨gb386,1,none⟩ = some (.int .i64 a0_1) := (kc_ BK386.out 1).trans rfl;have hfz45_0 := kf_ BK386.out 0;have hfz45_1 := kf_ BK386.out 1))
    go_ret
    exact ⟨by first|rfl|(simp [errW_none,errW_some] <;> rfl)|(simp [*,errW_none,errW_some] <;> rfl),by repeat (first|(with_reducible first|exact HB.out|apply ba_|apply pd_|apply d1_|refine bs_ ?_ GE386.out)|exact HB.out)⟩
 ·replace c3 := bf_ c3
  subst c3
  have H1 : (some (⟨#[]⟩ : ByteArray)) = some r := by rw [if_neg (show ¬ (false = true) by decide)] at H;exact H
  clear H;have H := H1;clear H1
  obtain rfl := Option.some.inj H
  go_enter Tryd.func28,Tryd.ntmps28
  go_wp2_with (first|((with_reducible refine gate_dst (N := 1) rfl ?_);refine box_event ?hg (N := 1) ?hd (cs := #[.int .i64 a0_0,.int .i64 a0_1]) (t := 23) ?hr ?_;(case hd => rfl);(case hg => rfl);(case hr => first|(go_simp;done)|(go_simp;rfl));intro gb386 hg w46 hbox hb;have BK386 := sd_ hbox;have GW386 := gw_ HB e0_ hg;have GE386 := GW386;replace HB := hb_ HB e0_ hb;clear hb hbox hg;have hcz47_0 : w46.cell? ⟨gb386,0,none⟩ = some (.int .i64 a0_0) := (kc_ BK386.out 0).trans rfl;have hcz47_1 : w46.cell? ⟨gb386,1,none⟩ = some (.int .i64 a0_1) := (kc_ BK386.out 1).trans rfl;have hfz47_0 := kf_ BK386.out 0;have hfz47_1 := kf_ BK386.out 1)|((with_reducible refine gate_callee (f := 30) rfl ?_);refine goesL_ (some 5) rfl rfl Tryd.func30 (by kernel_rfl) rfl #[.agg #[.int .i64 a0_0,.int .i64 a0_1]] rfl (by (try simp only [lm_,lq_,lx_]);first|done|rfl|(simp only [ld_,lt_];rfl)) ?_;(with_reducible refine (neumeref02_Check.calls k a0_0 a0_1 false _ A2.out).mono ?_);rintro e w48 ⟨rfl,hb⟩;refine ⟨_,rfl,?_⟩;replace BK386 := kb_ BK386 hb;replace HB := hb_ HB (e_ GE386 e0_) hb;(try clear hb);(try clear hb2);(try clear hk);(try clear hi)))
  go_ret
  exact ⟨by first|rfl|(simp [errW_none,errW_some] <;> rfl)|(simp [*,errW_none,errW_some] <;> rfl),by repeat (first|(with_reducible first|exact HB.out|apply ba_|apply pd_|apply d1_|refine bs_ ?_ GE386.out)|exact HB.out)⟩

/-! ### neumeref02_number: function 44 -/
def neumeref02_number.l0 : Nat → ByteArray → Int → Int → Option (Int × Int)
 | 0, _, _, _ => none
 | k + 1, x0, x1, x6 => if x1 < (x0.size : Int) then (if 0 ≤ x1 then (if (bt x0 x1) ≥ 48 then (if (bt x0 x1) ≤ 57 then (if x6 < 1125899906842624 then (neumeref02_number.l0 k x0 (wrap64 (x1 + 1)) (wrap64 ((wrap64 (10 * x6)) + (((bt x0 x1) - 48) % 256)))) else (some (x6, x1))) else (some (x6, x1))) else (some (x6, x1))) else (none)) else (some (x6, x1))
def neumeref02_number.f (k : Nat) (a0 : ByteArray) (a1 : Int) : Option (Int × Int) := neumeref02_number.l0 k a0 a1 0
theorem neumeref02_number.mono_l : ∀ k, (∀ y0 y1 y2, LeO (neumeref02_number.l0 k y0 y1 y2) (neumeref02_number.l0 (k + 1) y0 y1 y2))
 | 0 => fun _ _ _ r h => by simp [neumeref02_number.l0] at h
 | k + 1 => by
  have ih0 := neumeref02_number.mono_l k
  ·intro y0 y1 y2
   unfold neumeref02_number.l0
   repeat' first
   | (with_reducible exact ih0 _ _ _)
   | (with_reducible exact LeO.refl _)
   | (with_reducible exact LeO.none _)
   | (with_reducible refine LeO.ite ?_ ?_)
   | (with_reducible refine LeO.bind ?_ (fun _ => ?_))
   | exact ih0 _ _ _
   | exact LeO.none _
   | refine LeO.ite ?_ ?_
   | refine LeO.bind ?_ (fun _ => ?_)
theorem neumeref02_number.mono : ∀ a0 a1 k, LeO (neumeref02_number.f k a0 a1) (neumeref02_number.f (k + 1) a0 a1) := by
 intro a0 a1 k
 have ih0 := neumeref02_number.mono_l k
 unfold neumeref02_number.f
 repeat' first
   | (with_reducible exact ih0 _ _ _)
   | (with_reducible exact LeO.refl _)
   | (with_reducible exact LeO.none _)
   | (with_reducible refine LeO.ite ?_ ?_)
   | (with_reducible refine LeO.bind ?_ (fun _ => ?_))
   | exact ih0 _ _ _
   | exact LeO.none _
   | refine LeO.ite ?_ ?_
   | refine LeO.bind ?_ (fun _ => ?_)
set_option maxHeartbeats 8000000 in
set_option maxRecDepth 100000 in
theorem neumeref02_number.calls (k : Nat) (a0 : ByteArray) (a1 : Int) (r1 : Int) (r2 : Int) (w : World) (h : neumeref02_number.f k a0 a1 = some (r1, r2)) :
  Calls Tryd.prog 44 #[.string a0,.int .i64 a1] w fun e w' => e = .returned (.tuple #[.int .i64 r1,.int .i64 r2]) ∧ Drawn0 w w' := by
 have H : (neumeref02_number.l0 k a0 a1 0) = some (r1,r2) := h
 clear h
 have H' := sd_ H
 clear H
 go_enter Tryd.func44,Tryd.ntmps44
 go_wp2
 go_loopg [1,6] k (fun kq v1 v6 w' => ∃ (x1_1 : Int) (x6_1 : Int),v1 = .int .i64 x1_1 ∧ v6 = .int .i64 x6_1 ∧ Aside0 (neumeref02_number.l0 kq a0 x1_1 x6_1 = some (r1,r2)) ∧ Aside0 (kq ≤ k) ∧ Drawn0 w w')
 case atStart => exact ⟨(a1),(0),(by first|rfl|(simp;done)|(simp [*];done)|(simp [bne];done)),(by first|rfl|(simp;done)|(simp [*];done)|(simp [bne];done)),H',⟨Nat.le_refl _⟩,by repeat (first|exact Drawn0.refl _|apply Drawn0.step)⟩
 case round =>
  clear H'
  try clear p2
  obtain ⟨x1_1,x6_1,rfl,rfl,HA,HK1,⟨m1,rfl⟩⟩ := hrel
  cases gk with
  | zero => exact absurd HA.out (by simp [neumeref02_number.l0])
  | succ k1 =>
   have H := HA.out
   clear HA
   simp only [neumeref02_number.l0] at H
   by_cases c3 : x1_1 < (a0.size : Int)
   ·rw [if_pos c3] at H
    have c3b0 : decide (x1_1 < (a0.size : Int)) = true := dt_ c3
    clear c3
    by_cases c4 : 0 ≤ x1_1
    ·rw [if_pos c4] at H
     have c4b0 : decide (0 ≤ x1_1) = true := dt_ c4
     clear c4
     by_cases c6 : (bt a0 x1_1) ≥ 48
     ·rw [if_pos c6] at H
      have c6b0 : decide (48 ≤ (bt a0 x1_1)) = true := dt_ c6
      clear c6
      by_cases c8 : (bt a0 x1_1) ≤ 57
      ·rw [if_pos c8] at H
       have c8b0 : decide ((bt a0 x1_1) ≤ 57) = true := dt_ c8
       clear c8
       by_cases c9 : x6_1 < 1125899906842624
       ·rw [if_pos c9] at H
        have c9b0 : decide (x6_1 < 1125899906842624) = true := dt_ c9
        clear c9
        have H' := sd_ H
        clear H
        have p5 : 0 ≤ (x1_1 : Int) := od_ (by first|(with_reducible assumption)|assumption)
        have q5 : x1_1 < (a0.size : Int) := od_ (by first|(with_reducible assumption)|assumption)
        have hx5 := bt_at a0 x1_1
        replace p5 := eq_true p5
        replace q5 := eq_true q5
        have p7 : 0 ≤ (x1_1 : Int) := od_ (by first|(with_reducible assumption)|assumption)
        have q7 : x1_1 < (a0.size : Int) := od_ (by first|(with_reducible assumption)|assumption)
        have hx7 := bt_at a0 x1_1
        replace p7 := eq_true p7
        replace q7 := eq_true q7
        have p10 : 0 ≤ (x1_1 : Int) := od_ (by first|(with_reducible assumption)|assumption)
        have q10 : x1_1 < (a0.size : Int) := od_ (by first|(with_reducible assumption)|assumption)
        have hx10 := bt_at a0 x1_1
        replace p10 := eq_true p10
        replace q10 := eq_true q10
        go_wp2
        go_roundg k1
        case measure => have := HK1.out;omega
        case rel => exact ⟨(wrap64 (x1_1 + 1)),(wrap64 ((wrap64 (10 * x6_1)) + (((bt a0 x1_1) - 48) % 256))),(by first|rfl|(simp;done)|(simp [*];done)|(simp [bne];done)),(by first|rfl|(simp;done)|(simp [*];done)|(simp [bne];done)),H',⟨by have := HK1.out;omega⟩,by repeat (first|exact Drawn0.refl _|apply Drawn0.step)⟩
       ·rw [if_neg c9] at H
        have c9b0 : decide (x6_1 < 1125899906842624) = false := df_ c9
        clear c9
        simp only [Option.some.injEq,Prod.mk.injEq] at H
        obtain ⟨rfl,rfl⟩ := H
        have p5 : 0 ≤ (x1_1 : Int) := od_ (by first|(with_reducible assumption)|assumption)
        have q5 : x1_1 < (a0.size : Int) := od_ (by first|(with_reducible assumption)|assumption)
        have hx5 := bt_at a0 x1_1
        replace p5 := eq_true p5
        replace q5 := eq_true q5
        have p7 : 0 ≤ (x1_1 : Int) := od_ (by first|(with_reducible assumption)|assumption)
        have q7 : x1_1 < (a0.size : Int) := od_ (by first|(with_reducible assumption)|assumption)
        have hx7 := bt_at a0 x1_1
        replace p7 := eq_true p7
        replace q7 := eq_true q7
        go_wp2
        go_ret2
        exact ⟨by first|rfl|(simp;done)|(simp [*];done),by repeat (first|exact Drawn0.refl _|apply Drawn0.step)⟩
      ·rw [if_neg c8] at H
       have c8b0 : decide ((bt a0 x1_1) ≤ 57) = false := df_ c8
       clear c8
       simp only [Option.some.injEq,Prod.mk.injEq] at H
       obtain ⟨rfl,rfl⟩ := H
       have p5 : 0 ≤ (x1_1 : Int) := od_ (by first|(with_reducible assumption)|assumption)
       have q5 : x1_1 < (a0.size : Int) := od_ (by first|(with_reducible assumption)|assumption)
       have hx5 := bt_at a0 x1_1
       replace p5 := eq_true p5
       replace q5 := eq_true q5
       have p7 : 0 ≤ (x1_1 : Int) := od_ (by first|(with_reducible assumption)|assumption)
       have q7 : x1_1 < (a0.size : Int) := od_ (by first|(with_reducible assumption)|assumption)
       have hx7 := bt_at a0 x1_1
       replace p7 := eq_true p7
       replace q7 := eq_true q7
       go_wp2
       go_ret2
       exact ⟨by first|rfl|(simp;done)|(simp [*];done),by repeat (first|exact Drawn0.refl _|apply Drawn0.step)⟩
     ·rw [if_neg c6] at H
      have c6b0 : decide (48 ≤ (bt a0 x1_1)) = false := df_ c6
      clear c6
      simp only [Option.some.injEq,Prod.mk.injEq] at H
      obtain ⟨rfl,rfl⟩ := H
      have p5 : 0 ≤ (x1_1 : Int) := od_ (by first|(with_reducible assumption)|assumption)
      have q5 : x1_1 < (a0.size : Int) := od_ (by first|(with_reducible assumption)|assumption)
      have hx5 := bt_at a0 x1_1
      replace p5 := eq_true p5
      replace q5 := eq_true q5
      go_wp2
      go_ret2
      exact ⟨by first|rfl|(simp;done)|(simp [*];done),by repeat (first|exact Drawn0.refl _|apply Drawn0.step)⟩
    ·rw [if_neg c4] at H
     exact absurd H (by simp)
   ·rw [if_neg c3] at H
    have c3b0 : decide (x1_1 < (a0.size : Int)) = false := df_ c3
    clear c3
    simp only [Option.some.injEq,Prod.mk.injEq] at H
    obtain ⟨rfl,rfl⟩ := H
    go_wp2
    go_ret2
    exact ⟨by first|rfl|(simp;done)|(simp [*];done),by repeat (first|exact Drawn0.refl _|apply Drawn0.step)⟩

end Go.Proofs.YtmbdbinbdiiapaaDoor.P
