-- Written by a program of this session (wip/tools/xprint.py), after the kit's row: Lean checks it.
import Derived.Test.YtcbeibmoblgaeaaRows
import Derived.Test.YtcbeibmoblgaeaaPx11
import Derived.Test.YtcbeibmoblgaeaaPureSpringTells
import Derived.Test.YtcbeibmoblgaeaaOpens
import Derived.WalkKit
import Derived.ProofKit
import Derived.OpenShut
import Derived.ShutString
import Derived.ChangeOld
import Derived.Below
import Derived.SizedLaws
import Derived.Carry
namespace Go.Proofs.Ytcbeibmoblgaeaa.springTells
open Go.ChangeShapes Go.WideShapes Go.ChangeAt Go.RowKit Go.Proofs.Ytcbeibmoblgaeaa.Opens Go.Proofs.Ytcbeibmoblgaeaa.P Go.Proofs.YtcbeibmoblgaeaaW.PrintWords
set_option linter.unusedVariables false
theorem own : ownKnob Try.prog.godebug = none := by kernel_rfl
theorem laidOut : laidOutB Try.prog = true := by kernel_rfl
set_option maxRecDepth 100000 in
theorem lifted (os : Os) (started : os.Started) (H : Type) (enc : TypeId × Value → H) :
    ReturnsInHanded {} Try.checked os 3 .any (Rows.springTellsSpec.pre6 enc Try.prog Try.f3 Rows.springTellsRow.domain false) (Rows.springTellsSpec.post enc Try.prog Try.f3 false true false false) := by
  refine returnsInHanded_of_change_sized (C := Try.checked) own started (by kernel_rfl) Try.func3
    (ChangeSpec.witness6 (enc := enc) (C := Try.checked) false ⟨#[], #[.agg #[.int .i64 0, .int .i64 0], .slice none 0 0, .int .i64 0, .int .i64 0, .int .i64 0, .int .i64 0], []⟩ 8 (by kernel_rfl) (by kernel_rfl) (by kernel_rfl) (by kernel_rfl)) ?_
  intro W base args ds gs before hval0 hW hcnd hsz0 _
  have hsz : (DataW.weightsEach Try.prog (Try.f3.params.toList ++ Rows.springTellsSpec.plain.varTypes Try.prog) (ds ++ gs)).all (· ≤ reachBytes) = true := hsz0
  have hval : ∀ (j : Nat) t v, Try.f3.params[j]? = some t → args[j]? = some v → Value.okWide Try.prog W .any base t v := hval0
  have hW' := hW
  obtain ⟨p, q, hA0, hV, rfl, hfz, hnd⟩ := hW
  have hA : DataW.TrodAll enc Try.prog W 0 (fun _ => true) true Try.f3.params.toList args.toList ds p := hA0
  rw [Try.params3] at hA hval hsz
  obtain ⟨v0, vs0, d0, ds0, p0, q0, hargs, rfl, rfl, h0, r0⟩ := trodAll_cons hA
  obtain ⟨v1, vs1, d1, ds1, p1, q1, rfl, rfl, rfl, h1, r1⟩ := trodAll_cons r0
  obtain ⟨v2, vs2, d2, ds2, p2, q2, rfl, rfl, rfl, h2, r2⟩ := trodAll_cons r1
  obtain ⟨v3, vs3, d3, ds3, p3, q3, rfl, rfl, rfl, h3, r3⟩ := trodAll_cons r2
  obtain ⟨v4, vs4, d4, ds4, p4, q4, rfl, rfl, rfl, h4, r4⟩ := trodAll_cons r3
  obtain ⟨v5, vs5, d5, ds5, p5, q5, rfl, rfl, rfl, h5, r5⟩ := trodAll_cons r4
  obtain ⟨rfl, rfl, rfl⟩ := trodAll_nil r5
  obtain rfl : args = #[v0, v1, v2, v3, v4, v5] := by cases args; simp_all
  obtain ⟨rfl, rfl⟩ := trodVars_none hV
  have lt0 : ∀ x ∈ p0, x.block < W.heap.size := by obtain ⟨m, hm⟩ := h0; exact DataW.trod_lt m _ _ _ hm
  obtain ⟨x0, K0, w0⟩ : ∃ x : S23, (k23).K W x v0.cells.toList ∧ ((Lit.int .i64 x.f0).wf = true ∧ (Lit.int .i64 x.f1).wf = true) := Rdb.arg (wf := fun x : S23 => ((Lit.int .i64 x.f0).wf = true ∧ (Lit.int .i64 x.f1).wf = true)) (Rdb.struct (fun x : S23 => (x.f0, x.f1)) (fun y => (⟨y.1, y.2⟩ : S23)) (fun _ => rfl) Try.underlying23 (by kernel_rfl) (RdbF.cons rfl (by kernel_rfl) rfl (Rdb.int Try.underlying3) (RdbF.one rfl (by kernel_rfl) (Rdb.int Try.underlying3)))) hsz 0 rfl rfl h0
  obtain ⟨vs0_, rfl, _⟩ := okWide_struct Try.underlying23 (hval 0 23 v0 rfl rfl)
  have e0 := k23_open K0
  obtain rfl : vs0_ = #[.int .i64 x0.f0, .int .i64 x0.f1] := by cases vs0_; simpa [Value.cells] using e0
  have lt1 : ∀ x ∈ p1, x.block < W.heap.size := by obtain ⟨m, hm⟩ := h1; exact DataW.trod_lt m _ _ _ hm
  obtain ⟨x1, K1, w1⟩ : ∃ x : List (S48), ((Kd.slice 48 k48)).K W x v1.cells.toList ∧ (x.length ≤ 9223372036854775807 ∧ x.length * 56 ≤ 140737488351232 ∧ ∀ z2_ ∈ x, (True ∧ ((Lit.int .i64 z2_.f1.f0).wf = true ∧ (Lit.int .i64 z2_.f1.f1).wf = true) ∧ (Lit.int .i64 z2_.f2).wf = true ∧ (z2_.f3.length ≤ 9223372036854775807 ∧ z2_.f3.length * 16 ≤ 140737488351232 ∧ ∀ z3_ ∈ z2_.f3, ((Lit.int .i64 z3_.f0).wf = true ∧ (Lit.int .i64 z3_.f1).wf = true)))) := Rdb.arg (wf := fun x : List (S48) => (x.length ≤ 9223372036854775807 ∧ x.length * 56 ≤ 140737488351232 ∧ ∀ z4_ ∈ x, (True ∧ ((Lit.int .i64 z4_.f1.f0).wf = true ∧ (Lit.int .i64 z4_.f1.f1).wf = true) ∧ (Lit.int .i64 z4_.f2).wf = true ∧ (z4_.f3.length ≤ 9223372036854775807 ∧ z4_.f3.length * 16 ≤ 140737488351232 ∧ ∀ z5_ ∈ z4_.f3, ((Lit.int .i64 z5_.f0).wf = true ∧ (Lit.int .i64 z5_.f1).wf = true))))) (Rdb.slice 56 Try.underlying24 (by kernel_rfl) (by kernel_rfl) (Rdb.struct (fun x : S48 => (x.f0, x.f1, x.f2, x.f3)) (fun y => (⟨y.1, y.2.1, y.2.2.1, y.2.2.2⟩ : S48)) (fun _ => rfl) Try.underlying48 (by kernel_rfl) (RdbF.cons rfl (by kernel_rfl) rfl (Rdb.bool Try.underlying4) (RdbF.cons rfl (by kernel_rfl) rfl (Rdb.struct (fun x : S23 => (x.f0, x.f1)) (fun y => (⟨y.1, y.2⟩ : S23)) (fun _ => rfl) Try.underlying23 (by kernel_rfl) (RdbF.cons rfl (by kernel_rfl) rfl (Rdb.int Try.underlying3) (RdbF.one rfl (by kernel_rfl) (Rdb.int Try.underlying3)))) (RdbF.cons rfl (by kernel_rfl) rfl (Rdb.int Try.underlying3) (RdbF.one rfl (by kernel_rfl) (Rdb.slice 16 Try.underlying46 (by kernel_rfl) (by kernel_rfl) (Rdb.struct (fun x : S77 => (x.f0, x.f1)) (fun y => (⟨y.1, y.2⟩ : S77)) (fun _ => rfl) Try.underlying77 (by kernel_rfl) (RdbF.cons rfl (by kernel_rfl) rfl (Rdb.int Try.underlying3) (RdbF.one rfl (by kernel_rfl) (Rdb.int Try.underlying3))))))))))) hsz 1 rfl rfl h1
  obtain ⟨a1, len1, cap1, rfl⟩ := okWide_slice Try.underlying24 (hval 1 24 v1 rfl rfl)
  obtain ⟨A1, c1, e1, hc1, hr1⟩ := K1
  obtain ⟨rfl, rfl, rfl⟩ : a1 = A1 ∧ len1 = x1.length ∧ cap1 = c1 := by simpa [Value.cells] using e1
  have lt2 : ∀ x ∈ p2, x.block < W.heap.size := by obtain ⟨m, hm⟩ := h2; exact DataW.trod_lt m _ _ _ hm
  obtain ⟨x2, K2, w2⟩ : ∃ x : Int, ((Kd.int .i64)).K W x v2.cells.toList ∧ (Lit.int .i64 x).wf = true := Rdb.arg (wf := fun x : Int => (Lit.int .i64 x).wf = true) (Rdb.int Try.underlying3) hsz 2 rfl rfl h2
  obtain rfl : v2 = .int .i64 x2 := by obtain ⟨b, hb⟩ := okWide_int Try.underlying3 (hval 2 3 v2 rfl rfl); subst hb; have K := K2; simpa [Value.cells, Kd.int, Kd.bool, Kd.string, Kd.scalar] using K
  have lt3 : ∀ x ∈ p3, x.block < W.heap.size := by obtain ⟨m, hm⟩ := h3; exact DataW.trod_lt m _ _ _ hm
  obtain ⟨x3, K3, w3⟩ : ∃ x : Int, ((Kd.int .i64)).K W x v3.cells.toList ∧ (Lit.int .i64 x).wf = true := Rdb.arg (wf := fun x : Int => (Lit.int .i64 x).wf = true) (Rdb.int Try.underlying3) hsz 3 rfl rfl h3
  obtain rfl : v3 = .int .i64 x3 := by obtain ⟨b, hb⟩ := okWide_int Try.underlying3 (hval 3 3 v3 rfl rfl); subst hb; have K := K3; simpa [Value.cells, Kd.int, Kd.bool, Kd.string, Kd.scalar] using K
  have lt4 : ∀ x ∈ p4, x.block < W.heap.size := by obtain ⟨m, hm⟩ := h4; exact DataW.trod_lt m _ _ _ hm
  obtain ⟨x4, K4, w4⟩ : ∃ x : Int, ((Kd.int .i64)).K W x v4.cells.toList ∧ (Lit.int .i64 x).wf = true := Rdb.arg (wf := fun x : Int => (Lit.int .i64 x).wf = true) (Rdb.int Try.underlying3) hsz 4 rfl rfl h4
  obtain rfl : v4 = .int .i64 x4 := by obtain ⟨b, hb⟩ := okWide_int Try.underlying3 (hval 4 3 v4 rfl rfl); subst hb; have K := K4; simpa [Value.cells, Kd.int, Kd.bool, Kd.string, Kd.scalar] using K
  have lt5 : ∀ x ∈ p5, x.block < W.heap.size := by obtain ⟨m, hm⟩ := h5; exact DataW.trod_lt m _ _ _ hm
  obtain ⟨x5, K5, w5⟩ : ∃ x : Int, ((Kd.int .i64)).K W x v5.cells.toList ∧ (Lit.int .i64 x).wf = true := Rdb.arg (wf := fun x : Int => (Lit.int .i64 x).wf = true) (Rdb.int Try.underlying3) hsz 5 rfl rfl h5
  obtain rfl : v5 = .int .i64 x5 := by obtain ⟨b, hb⟩ := okWide_int Try.underlying3 (hval 5 3 v5 rfl rfl); subst hb; have K := K5; simpa [Value.cells, Kd.int, Kd.bool, Kd.string, Kd.scalar] using K
  clear hA0 hval0 hsz0 hsz
  obtain ⟨k, hk⟩ := Pure.SpringTells x0 x1 x2 x3 x4 x5 w0 w1 w2 w3 w4 w5
  refine (P.neumelaw28_SpringTells.calls k _ _ _ _ _ _ _ _ _ true W hr1 hc1 hk).mono fun e W' ⟨he, bel⟩ => ?_
  subst he
  exact ⟨_, rfl, _, _, _, [], _, [], hW', trodAll_mk1 (shut_bool Try.underlying4 _), (trodAll_cons_mk (Below.trod laidOut (by kernel_rfl) (of_decide_eq_true (by kernel_rfl)) h0 bel lt0) (trodAll_cons_mk (Below.trod laidOut (by kernel_rfl) (of_decide_eq_true (by kernel_rfl)) h1 bel lt1) (trodAll_cons_mk (Below.trod laidOut (by kernel_rfl) (of_decide_eq_true (by kernel_rfl)) h2 bel lt2) (trodAll_cons_mk (Below.trod laidOut (by kernel_rfl) (of_decide_eq_true (by kernel_rfl)) h3 bel lt3) (trodAll_cons_mk (Below.trod laidOut (by kernel_rfl) (of_decide_eq_true (by kernel_rfl)) h4 bel lt4) (trodAll_cons_mk (Below.trod laidOut (by kernel_rfl) (of_decide_eq_true (by kernel_rfl)) h5 bel lt5) trodAll_mk0)))))), rfl, bel.frame _, fun h => by cases h⟩
theorem over : Rows.springTellsRow.holds Try.pinned (OpenSpec.ofChange Rows.springTellsSpec) :=
  OpenClaim.holds_of_wide 3 Try.f3 rfl rfl rfl rfl rfl rfl rfl ⟨rfl, rfl, rfl, rfl, rfl⟩ rfl rfl rfl rfl rfl (by kernel_rfl) Try.func3 (by kernel_rfl)
    (of_decide_eq_true (by kernel_rfl)) (by unfold Func.isWrapper; first | (rw [if_pos (by decide +kernel)]; kernel_rfl) | (rw [if_neg (by decide +kernel)]; exact ⟨rfl, rfl⟩))
    (fun os started H enc _ => lifted os started H enc)
theorem proved : Rows.SpringTellsSaid := over
#print axioms proved
end Go.Proofs.Ytcbeibmoblgaeaa.springTells
namespace Go.Proofs.Ytcbeibmoblgaeaa
/-- The row, under a short name, for the claim. -/
theorem springTells_holds : Rows.SpringTellsSaid := springTells.proved
end Go.Proofs.Ytcbeibmoblgaeaa
