-- Written by a program of this session (wip/tools/xprint.py, over the kit's print): Lean checks it.
import Derived.Test.YtdiccfonlojlfaaGreatDoorPx0
import Derived.Test.YtdiccfonlojlfaaGreatDoorPx4
namespace Go.Proofs.YtdiccfonlojlfaaGreatDoor.P
open Go.RowKit Go.Proofs.YtdiccfonlojlfaaGreatDoorW.PrintWords Go.Proofs.YtdiccfonlojlfaaGreatDoorW.PrintLast Go.Proofs.YtdiccfonlojlfaaGreatDoorW.PrintMore
attribute [local go_sem] max2_int min2_int max_two min_two max_three min_three max_four min_four   -- for this text's walks alone
set_option linter.unusedVariables false
set_option linter.unusedSimpArgs false

/-! ### api_Rat: function 54 -/
section
open Go.Region
variable {P : Program} {ops : Array Oper} {Q : Exit → Act → World → Prop} {md : Region.Mode} {S : World → Prop} {ds : List Nat}
/-- A call of a function value, in a region. -/
theorem goesF_ {oi : Oper} {N : Option Tmp} {a : Act} {w : World} {K : Act → World → Prop} {f : FuncId} {fn : Func} {ag : Array Operand} {ts : Array TypeId} {c : Operand} (hf : P.funcs[f]? = some fn) (hname : (fn.name == "runtime.NumGoroutine") = false) (args : Array Value)
  (hw : Region.wanted oi (yielded ops a.tmps) = true) (hN : oi.dst = N) (hop : oi.op = .call { callee := .value c, args := ag, argTypes := ts }) (hb : fn.body.isSome = true) (hv : a.eval c = .func (.func f) #[] #[]) (ha : ag.map a.eval = args)
  (h : Calls P f args w fun e w' => ∃ v, e = .returned v ∧ K (a.put N v) w') : if Region.wanted oi (yielded ops a.tmps) = true then Oper.wp P oi a w K Q else K (a.put N undef) w := by
 refine call_ f args hw hN ?_ h
 have he := enters_ hf hname hb args w
 unfold execOp
 simp [hop, resolve, Deferred.ofValue, invoke, hv, ha, he]
end
def bsf_l : Nat → List S25 → Int → Int → Int → Int → Option Int
 | 0, _, _, _, _, _ => none
 | k + 1, l, t0, t1, i, j => if i < j then (if 0 ≤ i ∧ j ≤ (l.length : Int) then ((rat_Cmp.f k (rd_T25 l ((i + j) / 2)).f0 (rd_T25 l ((i + j) / 2)).f1 t0 t1).bind fun c => if c < 0 then bsf_l k l t0 t1 ((i + j) / 2 + 1) j else bsf_l k l t0 t1 i ((i + j) / 2)) else none) else some i
def api_Rat.f (k : Nat) (l : List S25) (t0 t1 : Int) (_u : Unit) : Option (Int × Bool) := if 1000 < l.length then none else (bsf_l k l t0 t1 0 (l.length : Int)).bind fun p => if p < (l.length : Int) then (if 0 ≤ p then ((rat_Cmp.f k (rd_T25 l p).f0 (rd_T25 l p).f1 t0 t1).bind fun c => some (p, decide (c = 0))) else none) else some (p, false)
theorem bsf_mono : ∀ k l t0 t1 i j, LeO (bsf_l k l t0 t1 i j) (bsf_l (k + 1) l t0 t1 i j)
 | 0 => fun _ _ _ _ _ r h => by simp [bsf_l] at h
 | k + 1 => by
  have ih := bsf_mono k
  intro l t0 t1 i j
  unfold bsf_l
  repeat' first
   | (with_reducible exact ih _ _ _ _ _)
   | (with_reducible exact rat_Cmp.mono _ _ _ _ _)
   | (with_reducible exact LeO.refl _)
   | (with_reducible refine LeO.ite ?_ ?_)
   | (with_reducible refine LeO.bind ?_ (fun _ => ?_))
theorem api_Rat.mono : ∀ a0 a1 a2 a3 k, LeO (api_Rat.f k a0 a1 a2 a3) (api_Rat.f (k + 1) a0 a1 a2 a3) := by
 intro a0 a1 a2 a3 k
 unfold api_Rat.f
 repeat' first
  | (with_reducible exact bsf_mono _ _ _ _ _ _)
  | (with_reducible exact rat_Cmp.mono _ _ _ _ _)
  | (with_reducible exact LeO.refl _)
  | (with_reducible refine LeO.ite ?_ ?_)
  | (with_reducible refine LeO.bind ?_ (fun _ => ?_))
set_option maxHeartbeats 8000000 in
set_option maxRecDepth 100000 in
theorem api_Rat.calls (k : Nat) (A0 : Option Addr) (c0 : Nat) (l0 : List S25) (t0 t1 : Int) (u : Unit) (r1 : Int) (r2 : Bool) (w : World) (hr0 : Kd.C k25 w A0 l0.length l0) (hc0 : l0.length ≤ c0) (h : api_Rat.f k l0 t0 t1 u = some (r1, r2)) :
  Calls Tryz.prog 54 #[.slice A0 l0.length c0, .agg #[.int .i64 t0, .int .i64 t1], .func (.func 52) #[] #[]] w fun e w' => e = .returned (.tuple #[.int .i64 r1, .bool r2]) ∧ Below w.heap.size w w' := by
 have HR0 := sd_ hr0
 have HC0 := sd_ hc0
 clear hr0 hc0
 unfold api_Rat.f at h
 split at h
 ·cases h
 rename_i hL
 have hL : l0.length ≤ 1000 := Nat.le_of_not_lt hL
 have H := sd_ h
 clear h
 go_enter Tryz.func54, Tryz.ntmps54
 go_wp2_with ((with_reducible refine gate_dst (N := 4) rfl ?_); refine box_event ?hg (N := 4) ?hd (cs := #[.int .i64 t0, .int .i64 t1]) (t := 25) ?hr ?_; (case hd => rfl); (case hg => rfl); (case hr => first | (go_simp; done) | (go_simp; rfl)); intro g1 hg w6 hbox hb; have BK := sd_ hbox; have GE : Aside0 (w.heap.size ≤ g1) := ⟨Nat.le_of_eq hg.symm⟩; have HB := sd_ hb; clear hb hbox hg)
 go_loopg [9, 10] k (fun kq v9 v10 w' => ∃ (i j : Int), v9 = .int .i64 i ∧ v10 = .int .i64 j ∧ 0 ≤ i ∧ i ≤ j ∧ j ≤ (l0.length : Int) ∧ Aside0 (((bsf_l kq l0 t0 t1 i j).bind fun p => if p < (l0.length : Int) then (if 0 ≤ p then ((rat_Cmp.f k (rd_T25 l0 p).f0 (rd_T25 l0 p).f1 t0 t1).bind fun c => some (p, decide (c = 0))) else none) else some (p, false)) = some (r1, r2)) ∧ Aside0 (kq ≤ k) ∧ Aside0 (w'.heap[g1]? = some (.cells #[.int .i64 t0, .int .i64 t1] 25 (0, 0))) ∧ Aside0 (Below w.heap.size w w'))
 case atStart => exact ⟨0, (l0.length : Int), rfl, rfl, by omega, by omega, by omega, H, ⟨Nat.le_refl _⟩, BK, HB⟩
 case round =>
  obtain ⟨i, j, rfl, rfl, q0, q1, q2, HA, HK, BK_w, HB_w⟩ := hrel
  cases gk with
  | zero => exact absurd HA.out (by simp [bsf_l])
  | succ k1 =>
   have H := HA.out
   clear HA
   simp only [bsf_l] at H
   by_cases c4 : i < j
   ·rw [if_pos c4, if_pos ⟨q0, q2⟩] at H
    have p0 : 0 ≤ (i + j) / 2 := by omega
    have p1 : (i + j) / 2 < j := by omega
    have p2 : i ≤ (i + j) / 2 := by omega
    obtain ⟨p, hp, hq⟩ := Option.bind_eq_some_iff.1 H
    obtain ⟨c, hc, hp⟩ := Option.bind_eq_some_iff.1 hp
    have HP := sd_ hp
    have HQ := sd_ hq
    clear H hp hq
    have CB : (decide (c < 0) = true ∧ c < 0) ∨ (decide (c < 0) = false ∧ ¬ c < 0) := (Decidable.em (c < 0)).elim (fun q => .inl ⟨dt_ q, q⟩) (fun q => .inr ⟨df_ q, q⟩)
    go_wp2
    obtain ⟨h, hh⟩ : ∃ h, h = (i + j) / 2 := ⟨_, rfl⟩
    rw [← hh] at p0 p1 p2 hc
    rw [← hh]
    have HH := sd_ hh
    clear hh
    have p3 : h < (l0.length : Int) := by omega
    obtain ⟨ad, e, hx0, hx1⟩ := at_T25 HR0.out h p0 p3
    cases e
    generalize (rd_T25 l0 h).f0 = e0 at hx0 hc
    generalize (rd_T25 l0 h).f1 = e1 at hx1 hc
    have AC := sd_ hc
    clear hc
    have HB_d := sd_ (d1_ HB_w.out)
    have BK_d := sd_ (kd_ BK_w.out)
    have hc0_d := pw_cell_below HB_d.out hx0
    have hc1_d := pw_cell_below HB_d.out hx1
    have hc2_d : wr.drew.cell? ⟨g1, 0, none⟩ = some (.int .i64 t0) := (kc_ BK_d.out 0).trans rfl
    have hc3_d : wr.drew.cell? ⟨g1, 1, none⟩ = some (.int .i64 t1) := (kc_ BK_d.out 1).trans rfl
    clear hx0 hx1 HB_w BK_w
    replace p0 := eq_true p0
    replace p3 := eq_true p3
    refine start_ (n := 8) (S := fun w' => w'.cell? (ad.add (h.toNat * 2)) = some (.int .i64 e0) ∧ w'.cell? ⟨(ad.add (h.toNat * 2)).block, (ad.add (h.toNat * 2)).off + 1, none⟩ = some (.int .i64 e1) ∧ w'.cell? ⟨g1, 0, none⟩ = some (.int .i64 t0) ∧ w'.cell? ⟨g1, 1, none⟩ = some (.int .i64 t1)) (ds := []) #[false, false, false, false, false, false, false, false] (by kernel_rfl) rfl rfl ⟨hc0_d, hc1_d, hc2_d, hc3_d⟩ (fun hHeld => ?_)
    generalize wr.drew = W2 at *
    refine pure_ (i := 0) (N := some 24) (v := ?_) (a' := ?_) #[true, false, false, false, false, false, false, false] rfl rfl (by kernel_rfl) (fun _ _ _ h => h) (Or.inl ⟨by rfl, ?_⟩) ?_ ?_
    rotate_left; (intro w'; go_simp; with_reducible rfl); rotate_left; (simp only [Act.put, ls_, lz_, lc_, i64_w, i32_w]; rfl)
    refine pure_ (i := 1) (N := some 25) (v := ?_) (a' := ?_) #[true, true, false, false, false, false, false, false] rfl rfl (by kernel_rfl) (fun _ _ _ h => h) (Or.inl ⟨by rfl, ?_⟩) ?_ ?_
    rotate_left; (intro w'; go_simp; with_reducible rfl); rotate_left; (simp only [Act.put, ls_, lz_, lc_, i64_w, i32_w]; rfl)
    refine pure_ (i := 2) (N := some 26) (v := ?_) (a' := ?_) #[true, true, true, false, false, false, false, false] rfl rfl (by kernel_rfl) (fun _ _ _ h => h) (Or.inl ⟨by rfl, ?_⟩) ?_ ?_
    rotate_left; (intro w'; go_simp; with_reducible rfl); rotate_left; (simp only [Act.put, ls_, lz_, lc_, i64_w, i32_w]; rfl)
    refine pure_ (i := 3) (N := some 27) (v := ?_) (a' := ?_) #[true, true, true, true, false, false, false, false] rfl rfl (by kernel_rfl) (fun _ _ _ h => h) (Or.inl ⟨by rfl, ?_⟩) ?_ ?_
    rotate_left; (intro w'; go_simp; with_reducible rfl); rotate_left; (simp only [Act.put, ls_, lz_, lc_, i64_w, i32_w]; rfl)
    refine take_ (i := 4) (N := some 28) (v := ?_) (a' := ?_) #[true, true, true, true, true, false, false, false] rfl rfl (by kernel_rfl) (fun _ _ _ h => h) (Or.inl ⟨by rfl, ?_⟩) hHeld ?_ ?_
    rotate_left
    ·rintro w' ⟨s0, s1, s2, s3⟩
     go_simp
     with_reducible rfl
    rotate_left
    ·simp only [Act.put, ls_, lz_, lc_, i64_w, i32_w]
     rfl
    refine take_ (i := 5) (N := some 29) (v := ?_) (a' := ?_) #[true, true, true, true, true, true, false, false] rfl rfl (by kernel_rfl) (fun _ _ _ h => h) (Or.inl ⟨by rfl, ?_⟩) hHeld ?_ ?_
    rotate_left
    ·rintro w' ⟨s0, s1, s2, s3⟩
     go_simp
     with_reducible rfl
    rotate_left
    ·simp only [Act.put, ls_, lz_, lc_, i64_w, i32_w]
     rfl
    refine one_ (i := 6) (N := some 30) #[true, true, true, true, true, true, true, false] rfl rfl (by kernel_rfl) (by decide) (fun K hK => ?_)
    refine goesF_ Tryz.func52 (by kernel_rfl) #[.agg #[.int .i64 e0, .int .i64 e1], .agg #[.int .i64 t0, .int .i64 t1]] (by rfl) rfl rfl rfl (by rfl) (by (simp only [lm_, lq_, lx_]; rfl)) ?_
    with_reducible refine (rat_Cmp.calls _ e0 e1 t0 t1 c _ AC.out).mono ?_
    rintro e w5 ⟨rfl, hb⟩
    refine ⟨_, rfl, ?_⟩
    have hc0_w5 := pw_cell_below hb hc0_d
    have hc1_w5 := pw_cell_below hb hc1_d
    have hc2_w5 := pw_cell_below hb hc2_d
    have hc3_w5 := pw_cell_below hb hc3_d
    have HB_w5 := sd_ (bt_ HB_d.out hb)
    have BK_w5 := sd_ (blk_below BK_d.out hb)
    clear hb
    refine hK.out _ _ ⟨hc0_w5, hc1_w5, hc2_w5, hc3_w5⟩ (fun hHeld => ?_)
    clear hK K
    refine norm_ (a' := ?_) ?_ ?_
    rotate_left
    ·show Act.put _ (some 30) _ = _
     simp only [Act.put, ls_, lz_, lc_, i64_w, i32_w]
     rfl
    refine pure_ (i := 7) (N := some 31) (v := ?_) (a' := ?_) #[true, true, true, true, true, true, true, true] rfl rfl (by kernel_rfl) (fun _ _ _ h => h) (Or.inl ⟨by rfl, ?_⟩) ?_ ?_
    rotate_left; (intro w'; go_simp; with_reducible rfl); rotate_left; (simp only [Act.put, ls_, lz_, lc_, i64_w, i32_w]; rfl)
    refine done_ (by kernel_rfl) ?_

    rcases CB with ⟨cb, cq⟩ | ⟨cb, cq⟩
    ·have HA' := HP.out
     rw [if_pos cq, ← HH.out] at HA'
     have HA2 := sd_ HA'
     clear HA' HP cq
     rw [cb]
     go_wp2
     go_roundg k1
     case measure => have := HK.out; omega
     case rel => exact ⟨h + 1, j, rfl, rfl, by omega, by omega, by omega, ⟨by rw [HA2.out]; exact HQ.out⟩, ⟨by have := HK.out; omega⟩, BK_w5, HB_w5⟩
    ·have HA' := HP.out
     rw [if_neg (show ¬ c < 0 by omega), ← HH.out] at HA'
     have HA2 := sd_ HA'
     clear HA' HP cq
     rw [cb]
     go_wp2
     go_roundg k1
     case measure => have := HK.out; omega
     case rel => exact ⟨i, h, rfl, rfl, by omega, by omega, by omega, ⟨by rw [HA2.out]; exact HQ.out⟩, ⟨by have := HK.out; omega⟩, BK_w5, HB_w5⟩
   ·rw [if_neg c4, Option.bind_some] at H
    have c4b : decide (i < j) = false := df_ c4
    clear c4
    by_cases c5 : i < (l0.length : Int)
    ·rw [if_pos c5, if_pos q0] at H
     have c5b : decide (i < (l0.length : Int)) = true := dt_ c5
     obtain ⟨c, hc, hp⟩ := Option.bind_eq_some_iff.1 H
     clear H
     have HP := Option.some.inj hp
     clear hp
     simp only [Prod.mk.injEq] at HP
     obtain ⟨rfl, rfl⟩ := HP
     have p0 := q0
     have p3 := c5
     clear c5
     go_wp2
     obtain ⟨ad, e, hx0, hx1⟩ := at_T25 HR0.out i p0 p3
     cases e
     generalize (rd_T25 l0 i).f0 = e0 at hx0 hc
     generalize (rd_T25 l0 i).f1 = e1 at hx1 hc
     have AC := sd_ hc
     clear hc
     have HB_d := sd_ (d1_ HB_w.out)
     have BK_d := sd_ (kd_ BK_w.out)
     have hc0_d := pw_cell_below HB_d.out hx0
     have hc1_d := pw_cell_below HB_d.out hx1
     have hc2_d : wr.drew.cell? ⟨g1, 0, none⟩ = some (.int .i64 t0) := (kc_ BK_d.out 0).trans rfl
     have hc3_d : wr.drew.cell? ⟨g1, 1, none⟩ = some (.int .i64 t1) := (kc_ BK_d.out 1).trans rfl
     clear hx0 hx1 HB_w BK_w
     replace p0 := eq_true p0
     replace p3 := eq_true p3
     refine start_ (n := 16) (S := fun w' => w'.cell? (ad.add (i.toNat * 2)) = some (.int .i64 e0) ∧ w'.cell? ⟨(ad.add (i.toNat * 2)).block, (ad.add (i.toNat * 2)).off + 1, none⟩ = some (.int .i64 e1) ∧ w'.cell? ⟨g1, 0, none⟩ = some (.int .i64 t0) ∧ w'.cell? ⟨g1, 1, none⟩ = some (.int .i64 t1)) (ds := []) #[false, false, false, false, false, false, false, false, false, false, false, false, false, false, false, false] (by kernel_rfl) rfl rfl ⟨hc0_d, hc1_d, hc2_d, hc3_d⟩ (fun hHeld => ?_)
     generalize wr.drew = W2 at *
     refine pure_ (i := 0) (N := some 35) (v := ?_) (a' := ?_) #[true, false, false, false, false, false, false, false, false, false, false, false, false, false, false, false] rfl rfl (by kernel_rfl) (fun _ _ _ h => h) (Or.inl ⟨by rfl, ?_⟩) ?_ ?_
     rotate_left; (intro w'; go_simp; with_reducible rfl); rotate_left; (simp only [Act.put, ls_, lz_, lc_, i64_w, i32_w]; rfl)
     refine pure_ (i := 1) (N := some 36) (v := ?_) (a' := ?_) #[true, true, false, false, false, false, false, false, false, false, false, false, false, false, false, false] rfl rfl (by kernel_rfl) (fun _ _ _ h => h) (Or.inl ⟨by rfl, ?_⟩) ?_ ?_
     rotate_left; (intro w'; go_simp; with_reducible rfl); rotate_left; (simp only [Act.put, ls_, lz_, lc_, i64_w, i32_w]; rfl)
     refine pure_ (i := 2) (N := some 37) (v := ?_) (a' := ?_) #[true, true, true, false, false, false, false, false, false, false, false, false, false, false, false, false] rfl rfl (by kernel_rfl) (fun _ _ _ h => h) (Or.inl ⟨by rfl, ?_⟩) ?_ ?_
     rotate_left; (intro w'; go_simp; with_reducible rfl); rotate_left; (simp only [Act.put, ls_, lz_, lc_, i64_w, i32_w]; rfl)
     refine pure_ (i := 3) (N := some 38) (v := ?_) (a' := ?_) #[true, true, true, true, false, false, false, false, false, false, false, false, false, false, false, false] rfl rfl (by kernel_rfl) (fun _ _ _ h => h) (Or.inl ⟨by rfl, ?_⟩) ?_ ?_
     rotate_left; (intro w'; go_simp; with_reducible rfl); rotate_left; (simp only [Act.put, ls_, lz_, lc_, i64_w, i32_w]; rfl)
     refine pure_ (i := 4) (N := some 39) (v := ?_) (a' := ?_) #[true, true, true, true, true, false, false, false, false, false, false, false, false, false, false, false] rfl rfl (by kernel_rfl) (fun _ _ _ h => h) (Or.inl ⟨by rfl, ?_⟩) ?_ ?_
     rotate_left; (intro w'; go_simp; with_reducible rfl); rotate_left; (simp only [Act.put, ls_, lz_, lc_, i64_w, i32_w]; rfl)
     refine pure_ (i := 5) (N := some 40) (v := ?_) (a' := ?_) #[true, true, true, true, true, true, false, false, false, false, false, false, false, false, false, false] rfl rfl (by kernel_rfl) (fun _ _ _ h => h) (Or.inl ⟨by rfl, ?_⟩) ?_ ?_
     rotate_left; (intro w'; go_simp; with_reducible rfl); rotate_left; (simp only [Act.put, ls_, lz_, lc_, i64_w, i32_w]; rfl)
     refine pure_ (i := 6) (N := some 41) (v := ?_) (a' := ?_) #[true, true, true, true, true, true, true, false, false, false, false, false, false, false, false, false] rfl rfl (by kernel_rfl) (fun _ _ _ h => h) (Or.inl ⟨by rfl, ?_⟩) ?_ ?_
     rotate_left; (intro w'; go_simp; with_reducible rfl); rotate_left; (simp only [Act.put, ls_, lz_, lc_, i64_w, i32_w]; rfl)
     refine pure_ (i := 7) (N := some 42) (v := ?_) (a' := ?_) #[true, true, true, true, true, true, true, true, false, false, false, false, false, false, false, false] rfl rfl (by kernel_rfl) (fun _ _ _ h => h) (Or.inl ⟨by rfl, ?_⟩) ?_ ?_
     rotate_left; (intro w'; go_simp; with_reducible rfl); rotate_left; (simp only [Act.put, ls_, lz_, lc_, i64_w, i32_w]; rfl)
     refine pure_ (i := 8) (N := some 43) (v := ?_) (a' := ?_) #[true, true, true, true, true, true, true, true, true, false, false, false, false, false, false, false] rfl rfl (by kernel_rfl) (fun _ _ _ h => h) (Or.inl ⟨by rfl, ?_⟩) ?_ ?_
     rotate_left; (intro w'; go_simp; with_reducible rfl); rotate_left; (simp only [Act.put, ls_, lz_, lc_, i64_w, i32_w]; rfl)
     refine take_ (i := 9) (N := some 44) (v := ?_) (a' := ?_) #[true, true, true, true, true, true, true, true, true, true, false, false, false, false, false, false] rfl rfl (by kernel_rfl) (fun _ _ _ h => h) (Or.inl ⟨by rfl, ?_⟩) hHeld ?_ ?_
     rotate_left
     ·rintro w' ⟨s0, s1, s2, s3⟩
      go_simp
      with_reducible rfl
     rotate_left
     ·simp only [Act.put, ls_, lz_, lc_, i64_w, i32_w]
      rfl
     refine take_ (i := 10) (N := some 45) (v := ?_) (a' := ?_) #[true, true, true, true, true, true, true, true, true, true, true, false, false, false, false, false] rfl rfl (by kernel_rfl) (fun _ _ _ h => h) (Or.inl ⟨by rfl, ?_⟩) hHeld ?_ ?_
     rotate_left
     ·rintro w' ⟨s0, s1, s2, s3⟩
      go_simp
      with_reducible rfl
     rotate_left
     ·simp only [Act.put, ls_, lz_, lc_, i64_w, i32_w]
      rfl
     refine one_ (i := 11) (N := some 46) #[true, true, true, true, true, true, true, true, true, true, true, true, false, false, false, false] rfl rfl (by kernel_rfl) (by decide) (fun K hK => ?_)
     refine goesF_ Tryz.func52 (by kernel_rfl) #[.agg #[.int .i64 e0, .int .i64 e1], .agg #[.int .i64 t0, .int .i64 t1]] (by rfl) rfl rfl rfl (by rfl) (by (simp only [lm_, lq_, lx_]; rfl)) ?_
     with_reducible refine (rat_Cmp.calls _ e0 e1 t0 t1 c _ AC.out).mono ?_
     rintro e w8 ⟨rfl, hb⟩
     refine ⟨_, rfl, ?_⟩
     have hc0_w8 := pw_cell_below hb hc0_d
     have hc1_w8 := pw_cell_below hb hc1_d
     have hc2_w8 := pw_cell_below hb hc2_d
     have hc3_w8 := pw_cell_below hb hc3_d
     have HB_w8 := sd_ (bt_ HB_d.out hb)
     have BK_w8 := sd_ (blk_below BK_d.out hb)
     clear hb
     refine hK.out _ _ ⟨hc0_w8, hc1_w8, hc2_w8, hc3_w8⟩ (fun hHeld => ?_)
     clear hK K
     refine norm_ (a' := ?_) ?_ ?_
     rotate_left
     ·show Act.put _ (some 46) _ = _
      simp only [Act.put, ls_, lz_, lc_, i64_w, i32_w]
      rfl
     refine pure_ (i := 12) (N := some 47) (v := ?_) (a' := ?_) #[true, true, true, true, true, true, true, true, true, true, true, true, true, false, false, false] rfl rfl (by kernel_rfl) (fun _ _ _ h => h) (Or.inl ⟨by rfl, ?_⟩) ?_ ?_
     rotate_left; (intro w'; go_simp; with_reducible rfl); rotate_left; (simp only [Act.put, ls_, lz_, lc_, i64_w, i32_w]; rfl)
     refine pure_ (i := 13) (N := some 48) (v := ?_) (a' := ?_) #[true, true, true, true, true, true, true, true, true, true, true, true, true, true, false, false] rfl rfl (by kernel_rfl) (fun _ _ _ h => h) (Or.inl ⟨by rfl, ?_⟩) ?_ ?_
     rotate_left; (intro w'; go_simp; with_reducible rfl); rotate_left; (simp only [Act.put, ls_, lz_, lc_, i64_w, i32_w]; rfl)
     refine pure_ (i := 14) (N := some 6) (v := ?_) (a' := ?_) #[true, true, true, true, true, true, true, true, true, true, true, true, true, true, true, false] rfl rfl (by kernel_rfl) (fun _ _ _ h => h) (Or.inl ⟨by rfl, ?_⟩) ?_ ?_
     rotate_left; (intro w'; go_simp; with_reducible rfl); rotate_left; (simp only [Act.put, ls_, lz_, lc_, i64_w, i32_w]; rfl)
     refine pure_ (i := 15) (N := some 7) (v := ?_) (a' := ?_) #[true, true, true, true, true, true, true, true, true, true, true, true, true, true, true, true] rfl rfl (by kernel_rfl) (fun _ _ _ h => h) (Or.inl ⟨by rfl, ?_⟩) ?_ ?_
     rotate_left; (intro w'; go_simp; with_reducible rfl); rotate_left; (simp only [Act.put, ls_, lz_, lc_, i64_w, i32_w]; rfl)
     refine done_ (by kernel_rfl) ?_

     go_wp2
     go_ret2
     exact ⟨by first | rfl | simp, HB_w8.out⟩
    ·rw [if_neg c5] at H
     have c5b : decide (i < (l0.length : Int)) = false := df_ c5
     have HP := Option.some.inj H
     clear H c5
     simp only [Prod.mk.injEq] at HP
     obtain ⟨rfl, rfl⟩ := HP
     have HB_d := sd_ (d1_ HB_w.out)
     clear HB_w BK_w
     go_wp2
     refine start_ (n := 16) (S := fun w' => True) (ds := []) #[false, false, false, false, false, false, false, false, false, false, false, false, false, false, false, false] (by kernel_rfl) rfl rfl trivial (fun hHeld => ?_)
     generalize wr.drew = W2 at *
     refine pure_ (i := 0) (N := some 35) (v := ?_) (a' := ?_) #[true, false, false, false, false, false, false, false, false, false, false, false, false, false, false, false] rfl rfl (by kernel_rfl) (fun _ _ _ h => h) (Or.inl ⟨by rfl, ?_⟩) ?_ ?_
     rotate_left; (intro w'; go_simp; with_reducible rfl); rotate_left; (simp only [Act.put, ls_, lz_, lc_, i64_w, i32_w]; rfl)
     refine pure_ (i := 1) (N := some 36) (v := ?_) (a' := ?_) #[true, true, false, false, false, false, false, false, false, false, false, false, false, false, false, false] rfl rfl (by kernel_rfl) (fun _ _ _ h => h) (Or.inl ⟨by rfl, ?_⟩) ?_ ?_
     rotate_left; (intro w'; go_simp; with_reducible rfl); rotate_left; (simp only [Act.put, ls_, lz_, lc_, i64_w, i32_w]; rfl)
     refine pure_ (i := 2) (N := some 37) (v := ?_) (a' := ?_) #[true, true, true, false, false, false, false, false, false, false, false, false, false, false, false, false] rfl rfl (by kernel_rfl) (fun _ _ _ h => h) (Or.inl ⟨by rfl, ?_⟩) ?_ ?_
     rotate_left; (intro w'; go_simp; with_reducible rfl); rotate_left; (simp only [Act.put, ls_, lz_, lc_, i64_w, i32_w]; rfl)
     refine pure_ (i := 3) (N := some 38) (v := ?_) (a' := ?_) #[true, true, true, true, false, false, false, false, false, false, false, false, false, false, false, false] rfl rfl (by kernel_rfl) (fun _ _ _ h => h) (Or.inl ⟨by rfl, ?_⟩) ?_ ?_
     rotate_left; (intro w'; go_simp; with_reducible rfl); rotate_left; (simp only [Act.put, ls_, lz_, lc_, i64_w, i32_w]; rfl)
     refine pure_ (i := 4) (N := some 39) (v := ?_) (a' := ?_) #[true, true, true, true, true, false, false, false, false, false, false, false, false, false, false, false] rfl rfl (by kernel_rfl) (fun _ _ _ h => h) (Or.inl ⟨by rfl, ?_⟩) ?_ ?_
     rotate_left; (intro w'; go_simp; with_reducible rfl); rotate_left; (simp only [Act.put, ls_, lz_, lc_, i64_w, i32_w]; rfl)
     refine pure_ (i := 5) (N := some 40) (v := undef) (a' := ?_) #[true, true, true, true, true, true, false, false, false, false, false, false, false, false, false, false] rfl rfl (by kernel_rfl) (fun _ _ _ h => h) (Or.inr ⟨by rfl, rfl⟩) ?_ ?_
     rotate_left
     ·simp only [Act.put, ls_, lz_, lc_, i64_w, i32_w]
      rfl
     refine pure_ (i := 6) (N := some 41) (v := undef) (a' := ?_) #[true, true, true, true, true, true, true, false, false, false, false, false, false, false, false, false] rfl rfl (by kernel_rfl) (fun _ _ _ h => h) (Or.inr ⟨by rfl, rfl⟩) ?_ ?_
     rotate_left
     ·simp only [Act.put, ls_, lz_, lc_, i64_w, i32_w]
      rfl
     refine pure_ (i := 7) (N := some 42) (v := undef) (a' := ?_) #[true, true, true, true, true, true, true, true, false, false, false, false, false, false, false, false] rfl rfl (by kernel_rfl) (fun _ _ _ h => h) (Or.inr ⟨by rfl, rfl⟩) ?_ ?_
     rotate_left
     ·simp only [Act.put, ls_, lz_, lc_, i64_w, i32_w]
      rfl
     refine pure_ (i := 8) (N := some 43) (v := undef) (a' := ?_) #[true, true, true, true, true, true, true, true, true, false, false, false, false, false, false, false] rfl rfl (by kernel_rfl) (fun _ _ _ h => h) (Or.inr ⟨by rfl, rfl⟩) ?_ ?_
     rotate_left
     ·simp only [Act.put, ls_, lz_, lc_, i64_w, i32_w]
      rfl
     refine pure_ (i := 9) (N := some 44) (v := undef) (a' := ?_) #[true, true, true, true, true, true, true, true, true, true, false, false, false, false, false, false] rfl rfl (by kernel_rfl) (fun _ _ _ h => h) (Or.inr ⟨by rfl, rfl⟩) ?_ ?_
     rotate_left
     ·simp only [Act.put, ls_, lz_, lc_, i64_w, i32_w]
      rfl
     refine pure_ (i := 10) (N := some 45) (v := undef) (a' := ?_) #[true, true, true, true, true, true, true, true, true, true, true, false, false, false, false, false] rfl rfl (by kernel_rfl) (fun _ _ _ h => h) (Or.inr ⟨by rfl, rfl⟩) ?_ ?_
     rotate_left
     ·simp only [Act.put, ls_, lz_, lc_, i64_w, i32_w]
      rfl
     refine pure_ (i := 11) (N := some 46) (v := undef) (a' := ?_) #[true, true, true, true, true, true, true, true, true, true, true, true, false, false, false, false] rfl rfl (by kernel_rfl) (fun _ _ _ h => h) (Or.inr ⟨by rfl, rfl⟩) ?_ ?_
     rotate_left
     ·simp only [Act.put, ls_, lz_, lc_, i64_w, i32_w]
      rfl
     refine pure_ (i := 12) (N := some 47) (v := undef) (a' := ?_) #[true, true, true, true, true, true, true, true, true, true, true, true, true, false, false, false] rfl rfl (by kernel_rfl) (fun _ _ _ h => h) (Or.inr ⟨by rfl, rfl⟩) ?_ ?_
     rotate_left
     ·simp only [Act.put, ls_, lz_, lc_, i64_w, i32_w]
      rfl
     refine pure_ (i := 13) (N := some 48) (v := ?_) (a' := ?_) #[true, true, true, true, true, true, true, true, true, true, true, true, true, true, false, false] rfl rfl (by kernel_rfl) (fun _ _ _ h => h) (Or.inl ⟨by rfl, ?_⟩) ?_ ?_
     rotate_left; (intro w'; go_simp; with_reducible rfl); rotate_left; (simp only [Act.put, ls_, lz_, lc_, i64_w, i32_w]; rfl)
     refine pure_ (i := 14) (N := some 6) (v := ?_) (a' := ?_) #[true, true, true, true, true, true, true, true, true, true, true, true, true, true, true, false] rfl rfl (by kernel_rfl) (fun _ _ _ h => h) (Or.inl ⟨by rfl, ?_⟩) ?_ ?_
     rotate_left; (intro w'; go_simp; with_reducible rfl); rotate_left; (simp only [Act.put, ls_, lz_, lc_, i64_w, i32_w]; rfl)
     refine pure_ (i := 15) (N := some 7) (v := ?_) (a' := ?_) #[true, true, true, true, true, true, true, true, true, true, true, true, true, true, true, true] rfl rfl (by kernel_rfl) (fun _ _ _ h => h) (Or.inl ⟨by rfl, ?_⟩) ?_ ?_
     rotate_left; (intro w'; go_simp; with_reducible rfl); rotate_left; (simp only [Act.put, ls_, lz_, lc_, i64_w, i32_w]; rfl)
     refine done_ (by kernel_rfl) ?_

     go_wp2
     go_ret2
     exact ⟨by first | rfl | simp, HB_d.out⟩

/-! ### rat_Floor: function 55 -/
def rat_Floor.f (k : Nat) (a0_0 : Int) (a0_1 : Int) : Option (Int) := (rat_Check.f k a0_0 a0_1).bind fun t274 => (if t274 = true then (if a0_1 = 0 then (none) else (if a0_0 < 0 then (if a0_0 = (wrap64 ((wrap64 (Int.tdiv a0_0 a0_1)) * a0_1)) then (some (wrap64 (Int.tdiv a0_0 a0_1))) else (some (wrap64 ((wrap64 (Int.tdiv a0_0 a0_1)) - 1)))) else (some (wrap64 (Int.tdiv a0_0 a0_1))))) else (some 0))
theorem rat_Floor.mono : ∀ a0 a1 k, LeO (rat_Floor.f k a0 a1) (rat_Floor.f (k + 1) a0 a1) := by
 intro a0 a1 k
 unfold rat_Floor.f
 repeat' first
   | (with_reducible exact rat_Check.mono _ _ _)
   | (with_reducible exact LeO.refl _)
   | (with_reducible exact LeO.none _)
   | (with_reducible refine LeO.ite ?_ ?_)
   | (with_reducible refine LeO.bind ?_ (fun _ => ?_))
   | exact rat_Check.mono _ _ _
   | exact LeO.none _
   | refine LeO.ite ?_ ?_
   | refine LeO.bind ?_ (fun _ => ?_)
set_option maxHeartbeats 8000000 in
set_option maxRecDepth 100000 in
theorem rat_Floor.calls (k : Nat) (a0_0 : Int) (a0_1 : Int) (r : Int) (w : World) (h : rat_Floor.f k a0_0 a0_1 = some r) :
  Calls Tryz.prog 55 #[.agg #[.int .i64 a0_0, .int .i64 a0_1]] w fun e w' => e = .returned (.int .i64 r) ∧ Below w.heap.size w w' := by
 have hu25 := Tryz.underlying25
 have HB := sd_ (Below.refl w.heap.size w)
 have H : ((rat_Check.f k a0_0 a0_1).bind fun t274 => (if t274 = true then (if a0_1 = 0 then (none) else (if a0_0 < 0 then (if a0_0 = (wrap64 ((wrap64 (Int.tdiv a0_0 a0_1)) * a0_1)) then (some (wrap64 (Int.tdiv a0_0 a0_1))) else (some (wrap64 ((wrap64 (Int.tdiv a0_0 a0_1)) - 1)))) else (some (wrap64 (Int.tdiv a0_0 a0_1))))) else (some 0))) = some r := h
 clear h
 replace H := ob_ H
 obtain ⟨t274, A20, H⟩ := H
 replace H : (if t274 = true then (if a0_1 = 0 then (none) else (if a0_0 < 0 then (if a0_0 = (wrap64 ((wrap64 (Int.tdiv a0_0 a0_1)) * a0_1)) then (some (wrap64 (Int.tdiv a0_0 a0_1))) else (some (wrap64 ((wrap64 (Int.tdiv a0_0 a0_1)) - 1)))) else (some (wrap64 (Int.tdiv a0_0 a0_1))))) else (some 0)) = some r := H
 have A2 := sd_ A20
 clear A20
 by_cases c3 : t274 = true
 ·subst c3
  have H1 : (if a0_1 = 0 then (none) else (if a0_0 < 0 then (if a0_0 = (wrap64 ((wrap64 (Int.tdiv a0_0 a0_1)) * a0_1)) then (some (wrap64 (Int.tdiv a0_0 a0_1))) else (some (wrap64 ((wrap64 (Int.tdiv a0_0 a0_1)) - 1)))) else (some (wrap64 (Int.tdiv a0_0 a0_1))))) = some r := by rw [if_pos rfl] at H; exact H
  clear H; have H := H1; clear H1
  by_cases c4 : a0_1 = 0
  ·rw [if_pos c4] at H
   exact absurd H (by simp)
  ·rw [if_neg c4] at H
   have c4b0 : (a0_1 == 0) = false := beq_eq_false_iff_ne.mpr c4
   have c4b1 : (a0_1 != 0) = true := bne_iff_ne.mpr c4
   by_cases c5 : a0_0 < 0
   ·rw [if_pos c5] at H
    have c5b0 : decide (a0_0 < 0) = true := dt_ c5
    clear c5
    by_cases c6 : a0_0 = (wrap64 ((wrap64 (Int.tdiv a0_0 a0_1)) * a0_1))
    ·rw [if_pos c6] at H
     have c6b0 : (a0_0 == (wrap64 ((wrap64 (Int.tdiv a0_0 a0_1)) * a0_1))) = true := beq_iff_eq.mpr c6
     have c6b1 : (a0_0 != (wrap64 ((wrap64 (Int.tdiv a0_0 a0_1)) * a0_1))) = false := bne_eq_false_iff_eq.mpr c6
     clear c6
     obtain rfl := Option.some.inj H
     go_enter Tryz.func55, Tryz.ntmps55
     go_wp2_with (first | ((with_reducible refine gate_dst (N := 1) rfl ?_); refine box_event ?hg (N := 1) ?hd (cs := #[.int .i64 a0_0, .int .i64 a0_1]) (t := 25) ?hr ?_; (case hd => rfl); (case hg => rfl); (case hr => first | (go_simp; done) | (go_simp; rfl)); intro gb273 hg w7 hbox hb; have BK273 := sd_ hbox; have GW273 := gw_ HB e0_ hg; have GE273 := GW273; replace HB := hb_ HB e0_ hb; clear hb hbox hg; have hcz8_0 : w7.cell? ⟨gb273, 0, none⟩ = some (.int .i64 a0_0) := (kc_ BK273.out 0).trans rfl; have hcz8_1 : w7.cell? ⟨gb273, 1, none⟩ = some (.int .i64 a0_1) := (kc_ BK273.out 1).trans rfl; have hfz8_0 := kf_ BK273.out 0; have hfz8_1 := kf_ BK273.out 1) | ((with_reducible refine gate_callee (f := 44) rfl ?_); refine goesL_ (some 5) rfl rfl Tryz.func44 (by kernel_rfl) rfl #[.agg #[.int .i64 a0_0, .int .i64 a0_1]] rfl (by (try simp only [lm_, lq_, lx_]); first | done | rfl | (simp only [ld_, lt_]; rfl)) ?_; (with_reducible refine (rat_Check.calls k a0_0 a0_1 true _ A2.out).mono ?_); rintro e w9 ⟨rfl, hb⟩; refine ⟨_, rfl, ?_⟩; replace BK273 := kb_ BK273 hb; replace HB := hb_ HB (e_ GE273 e0_) hb; (try clear hb); (try clear hb2); (try clear hk); (try clear hi); have hcz10_0 : w9.cell? ⟨gb273, 0, none⟩ = some (.int .i64 a0_0) := (kc_ BK273.out 0).trans rfl; have hcz10_1 : w9.cell? ⟨gb273, 1, none⟩ = some (.int .i64 a0_1) := (kc_ BK273.out 1).trans rfl; have hfz10_0 := kf_ BK273.out 0; have hfz10_1 := kf_ BK273.out 1))
     go_ret
     exact ⟨by first | rfl | (simp [errW_none, errW_some] <;> rfl) | (simp [*, errW_none, errW_some] <;> rfl), by repeat (first | (with_reducible first | exact HB.out | apply ba_ | apply pd_ | apply d1_ | refine bs_ ?_ GE273.out) | exact HB.out)⟩
    ·rw [if_neg c6] at H
     have c6b0 : (a0_0 == (wrap64 ((wrap64 (Int.tdiv a0_0 a0_1)) * a0_1))) = false := beq_eq_false_iff_ne.mpr c6
     have c6b1 : (a0_0 != (wrap64 ((wrap64 (Int.tdiv a0_0 a0_1)) * a0_1))) = true := bne_iff_ne.mpr c6
     obtain rfl := Option.some.inj H
     go_enter Tryz.func55, Tryz.ntmps55
     go_wp2_with (first | ((with_reducible refine gate_dst (N := 1) rfl ?_); refine box_event ?hg (N := 1) ?hd (cs := #[.int .i64 a0_0, .int .i64 a0_1]) (t := 25) ?hr ?_; (case hd => rfl); (case hg => rfl); (case hr => first | (go_simp; done) | (go_simp; rfl)); intro gb273 hg w11 hbox hb; have BK273 := sd_ hbox; have GW273 := gw_ HB e0_ hg; have GE273 := GW273; replace HB := hb_ HB e0_ hb; clear hb hbox hg; have hcz12_0 : w11.cell? ⟨gb273, 0, none⟩ = some (.int .i64 a0_0) := (kc_ BK273.out 0).trans rfl; have hcz12_1 : w11.cell? ⟨gb273, 1, none⟩ = some (.int .i64 a0_1) := (kc_ BK273.out 1).trans rfl; have hfz12_0 := kf_ BK273.out 0; have hfz12_1 := kf_ BK273.out 1) | ((with_reducible refine gate_callee (f := 44) rfl ?_); refine goesL_ (some 5) rfl rfl Tryz.func44 (by kernel_rfl) rfl #[.agg #[.int .i64 a0_0, .int .i64 a0_1]] rfl (by (try simp only [lm_, lq_, lx_]); first | done | rfl | (simp only [ld_, lt_]; rfl)) ?_; (with_reducible refine (rat_Check.calls k a0_0 a0_1 true _ A2.out).mono ?_); rintro e w13 ⟨rfl, hb⟩; refine ⟨_, rfl, ?_⟩; replace BK273 := kb_ BK273 hb; replace HB := hb_ HB (e_ GE273 e0_) hb; (try clear hb); (try clear hb2); (try clear hk); (try clear hi); have hcz14_0 : w13.cell? ⟨gb273, 0, none⟩ = some (.int .i64 a0_0) := (kc_ BK273.out 0).trans rfl; have hcz14_1 : w13.cell? ⟨gb273, 1, none⟩ = some (.int .i64 a0_1) := (kc_ BK273.out 1).trans rfl; have hfz14_0 := kf_ BK273.out 0; have hfz14_1 := kf_ BK273.out 1))
     go_ret
     exact ⟨by first | rfl | (simp [errW_none, errW_some] <;> rfl) | (simp [*, errW_none, errW_some] <;> rfl), by repeat (first | (with_reducible first | exact HB.out | apply ba_ | apply pd_ | apply d1_ | refine bs_ ?_ GE273.out) | exact HB.out)⟩
   ·rw [if_neg c5] at H
    have c5b0 : decide (a0_0 < 0) = false := df_ c5
    clear c5
    obtain rfl := Option.some.inj H
    go_enter Tryz.func55, Tryz.ntmps55
    go_wp2_with (first | ((with_reducible refine gate_dst (N := 1) rfl ?_); refine box_event ?hg (N := 1) ?hd (cs := #[.int .i64 a0_0, .int .i64 a0_1]) (t := 25) ?hr ?_; (case hd => rfl); (case hg => rfl); (case hr => first | (go_simp; done) | (go_simp; rfl)); intro gb273 hg w15 hbox hb; have BK273 := sd_ hbox; have GW273 := gw_ HB e0_ hg; have GE273 := GW273; replace HB := hb_ HB e0_ hb; clear hb hbox hg; have hcz16_0 : w15.cell? ⟨gb273, 0, none⟩ = some (.int .i64 a0_0) := (kc_ BK273.out 0).trans rfl; have hcz16_1 : w15.cell? ⟨gb273, 1, none⟩ = some (.int .i64 a0_1) := (kc_ BK273.out 1).trans rfl; have hfz16_0 := kf_ BK273.out 0; have hfz16_1 := kf_ BK273.out 1) | ((with_reducible refine gate_callee (f := 44) rfl ?_); refine goesL_ (some 5) rfl rfl Tryz.func44 (by kernel_rfl) rfl #[.agg #[.int .i64 a0_0, .int .i64 a0_1]] rfl (by (try simp only [lm_, lq_, lx_]); first | done | rfl | (simp only [ld_, lt_]; rfl)) ?_; (with_reducible refine (rat_Check.calls k a0_0 a0_1 true _ A2.out).mono ?_); rintro e w17 ⟨rfl, hb⟩; refine ⟨_, rfl, ?_⟩; replace BK273 := kb_ BK273 hb; replace HB := hb_ HB (e_ GE273 e0_) hb; (try clear hb); (try clear hb2); (try clear hk); (try clear hi); have hcz18_0 : w17.cell? ⟨gb273, 0, none⟩ = some (.int .i64 a0_0) := (kc_ BK273.out 0).trans rfl; have hcz18_1 : w17.cell? ⟨gb273, 1, none⟩ = some (.int .i64 a0_1) := (kc_ BK273.out 1).trans rfl; have hfz18_0 := kf_ BK273.out 0; have hfz18_1 := kf_ BK273.out 1))
    go_ret
    exact ⟨by first | rfl | (simp [errW_none, errW_some] <;> rfl) | (simp [*, errW_none, errW_some] <;> rfl), by repeat (first | (with_reducible first | exact HB.out | apply ba_ | apply pd_ | apply d1_ | refine bs_ ?_ GE273.out) | exact HB.out)⟩
 ·replace c3 := bf_ c3
  subst c3
  have H1 : (some 0) = some r := by rw [if_neg (show ¬ (false = true) by decide)] at H; exact H
  clear H; have H := H1; clear H1
  obtain rfl := Option.some.inj H
  go_enter Tryz.func55, Tryz.ntmps55
  go_wp2_with (first | ((with_reducible refine gate_dst (N := 1) rfl ?_); refine box_event ?hg (N := 1) ?hd (cs := #[.int .i64 a0_0, .int .i64 a0_1]) (t := 25) ?hr ?_; (case hd => rfl); (case hg => rfl); (case hr => first | (go_simp; done) | (go_simp; rfl)); intro gb273 hg w19 hbox hb; have BK273 := sd_ hbox; have GW273 := gw_ HB e0_ hg; have GE273 := GW273; replace HB := hb_ HB e0_ hb; clear hb hbox hg; have hcz20_0 : w19.cell? ⟨gb273, 0, none⟩ = some (.int .i64 a0_0) := (kc_ BK273.out 0).trans rfl; have hcz20_1 : w19.cell? ⟨gb273, 1, none⟩ = some (.int .i64 a0_1) := (kc_ BK273.out 1).trans rfl; have hfz20_0 := kf_ BK273.out 0; have hfz20_1 := kf_ BK273.out 1) | ((with_reducible refine gate_callee (f := 44) rfl ?_); refine goesL_ (some 5) rfl rfl Tryz.func44 (by kernel_rfl) rfl #[.agg #[.int .i64 a0_0, .int .i64 a0_1]] rfl (by (try simp only [lm_, lq_, lx_]); first | done | rfl | (simp only [ld_, lt_]; rfl)) ?_; (with_reducible refine (rat_Check.calls k a0_0 a0_1 false _ A2.out).mono ?_); rintro e w21 ⟨rfl, hb⟩; refine ⟨_, rfl, ?_⟩; replace BK273 := kb_ BK273 hb; replace HB := hb_ HB (e_ GE273 e0_) hb; (try clear hb); (try clear hb2); (try clear hk); (try clear hi)))
  go_ret
  exact ⟨by first | rfl | (simp [errW_none, errW_some] <;> rfl) | (simp [*, errW_none, errW_some] <;> rfl), by repeat (first | (with_reducible first | exact HB.out | apply ba_ | apply pd_ | apply d1_ | refine bs_ ?_ GE273.out) | exact HB.out)⟩

end Go.Proofs.YtdiccfonlojlfaaGreatDoor.P
