-- Written by a program of this session (wip/tools/xprint.py), after the kit's row: Lean checks it.
import Derived.Test.YtkncoedagigliaaDoorRows
import Derived.Test.YtkncoedagigliaaDoorPx8
import Derived.Test.YtkncoedagigliaaDoorPurePitchTells
import Derived.Test.YtkncoedagigliaaDoorOpens
import Derived.Test.YtkncoedagigliaaDoorLaid
import Derived.Test.YtkncoedagigliaaDoorCards
import Derived.Test.YtkncoedagigliaaDoorTie
import Derived.SevenTiedAt
import Derived.WalkKit
import Derived.ProofKit
import Derived.OpenShut
import Derived.ShutString
import Derived.ChangeOld
import Derived.Below
import Derived.SizedLaws
import Derived.Carry
namespace Go.Proofs.YtkncoedagigliaaDoor.pitchTells
open Go.ChangeShapes Go.WideShapes Go.ChangeAt Go.RowKit Go.Proofs.YtkncoedagigliaaDoor.Opens Go.Proofs.YtkncoedagigliaaDoor.P Go.Proofs.YtkncoedagigliaaDoorW.PrintWords
set_option linter.unusedVariables false
theorem own : ownKnob Tryd.prog.godebug = none := by kernel_rfl
theorem laidOut : laidOutB Tryd.prog = true := by kernel_rfl
set_option maxRecDepth 100000 in
theorem lifted (os : Os) (started : os.Started) (H : Type) (enc : TypeId × Value → H) :
    ReturnsInHanded {} Tryd.checked os 3 .any (fun w args => (Rows.pitchTellsSpec.pre enc Tryd.prog Tryd.f3 [] false w args ∧ laidMetH Tryd.prog Laid.laid w) ∧ sizedMet enc Tryd.prog Tryd.f3 (OpenSpec.ofChange Rows.pitchTellsSpec) false w args) (Rows.pitchTellsSpec.post enc Tryd.prog Tryd.f3 false true false false) := by
  refine Laid.returnsInHanded_both (C := Tryd.checked) (X := fun w _ => laidMetH Tryd.prog Laid.laid w) (fun _ _ _ hh h => h.of_heap hh) own started (by kernel_rfl) Tryd.func3
    (ChangeSpec.witness_at (enc := enc) (C := Tryd.checked) (os := os) (X := fun w _ => laidMetH Tryd.prog Laid.laid w) false (Laid.laidWorld os) #[.agg #[.int .i64 0, .int .i64 0, .int .i64 0], .int .i64 0, .int .i64 0, .string ByteArray.empty] 8 rfl (by kernel_rfl) (by kernel_rfl) (by kernel_rfl) (by kernel_rfl) (by kernel_rfl) (Laid.laidWorld_met os _)) ?_
  intro W base args ds gs before hval0 hW hcnd hsz0 hL hSh _
  have hE := Aside0.mk (Laid.handle_of_laid hSh)
  have hsz : (DataW.weightsEach Tryd.prog (Tryd.f3.params.toList ++ Rows.pitchTellsSpec.plain.varTypes Tryd.prog) (ds ++ gs)).all (· ≤ reachBytes) = true := hsz0
  have hval : ∀ (j : Nat) t v, Tryd.f3.params[j]? = some t → args[j]? = some v → Value.okWide Tryd.prog W .any base t v := hval0
  have hW' := hW
  obtain ⟨p, q, hA0, hV, rfl, hfz, hnd⟩ := hW
  have hA : DataW.TrodAll enc Tryd.prog W 0 (fun _ => true) true Tryd.f3.params.toList args.toList ds p := hA0
  rw [Tryd.params3] at hA hval hsz
  obtain ⟨v0, vs0, d0, ds0, p0, q0, hargs, rfl, rfl, h0, r0⟩ := trodAll_cons hA
  obtain ⟨v1, vs1, d1, ds1, p1, q1, rfl, rfl, rfl, h1, r1⟩ := trodAll_cons r0
  obtain ⟨v2, vs2, d2, ds2, p2, q2, rfl, rfl, rfl, h2, r2⟩ := trodAll_cons r1
  obtain ⟨v3, vs3, d3, ds3, p3, q3, rfl, rfl, rfl, h3, r3⟩ := trodAll_cons r2
  obtain ⟨rfl, rfl, rfl⟩ := trodAll_nil r3
  obtain rfl : args = #[v0, v1, v2, v3] := by cases args; simp_all
  obtain ⟨rfl, rfl⟩ := trodVars_none hV
  have lt0 : ∀ x ∈ p0, x.block < W.heap.size := by obtain ⟨m, hm⟩ := h0; exact DataW.trod_lt m _ _ _ hm
  obtain ⟨x0, K0, w0⟩ : ∃ x : S23, (k23).K W x v0.cells.toList ∧ ((Lit.int .i64 x.f0).wf = true ∧ (Lit.int .i64 x.f1).wf = true ∧ (Lit.int .i64 x.f2).wf = true) := Rdb.arg (wf := fun x : S23 => ((Lit.int .i64 x.f0).wf = true ∧ (Lit.int .i64 x.f1).wf = true ∧ (Lit.int .i64 x.f2).wf = true)) (Rdb.struct (fun x : S23 => (x.f0, x.f1, x.f2)) (fun y => (⟨y.1, y.2.1, y.2.2⟩ : S23)) (fun _ => rfl) Tryd.underlying23 (by kernel_rfl) (RdbF.cons rfl (by kernel_rfl) rfl (Rdb.int Tryd.underlying3) (RdbF.cons rfl (by kernel_rfl) rfl (Rdb.int Tryd.underlying3) (RdbF.one rfl (by kernel_rfl) (Rdb.int Tryd.underlying3))))) hsz 0 rfl rfl h0
  obtain ⟨vs0_, rfl, _⟩ := okWide_struct Tryd.underlying23 (hval 0 23 v0 rfl rfl)
  have e0 := k23_open K0
  obtain rfl : vs0_ = #[.int .i64 x0.f0, .int .i64 x0.f1, .int .i64 x0.f2] := by cases vs0_; simpa [Value.cells] using e0
  have lt1 : ∀ x ∈ p1, x.block < W.heap.size := by obtain ⟨m, hm⟩ := h1; exact DataW.trod_lt m _ _ _ hm
  obtain ⟨x1, K1, w1⟩ : ∃ x : Int, ((Kd.int .i64)).K W x v1.cells.toList ∧ (Lit.int .i64 x).wf = true := Rdb.arg (wf := fun x : Int => (Lit.int .i64 x).wf = true) (Rdb.int Tryd.underlying24) hsz 1 rfl rfl h1
  obtain rfl : v1 = .int .i64 x1 := by obtain ⟨b, hb⟩ := okWide_int Tryd.underlying24 (hval 1 24 v1 rfl rfl); subst hb; have K := K1; simpa [Value.cells, Kd.int, Kd.bool, Kd.string, Kd.scalar] using K
  have lt2 : ∀ x ∈ p2, x.block < W.heap.size := by obtain ⟨m, hm⟩ := h2; exact DataW.trod_lt m _ _ _ hm
  obtain ⟨x2, K2, w2⟩ : ∃ x : Int, ((Kd.int .i64)).K W x v2.cells.toList ∧ (Lit.int .i64 x).wf = true := Rdb.arg (wf := fun x : Int => (Lit.int .i64 x).wf = true) (Rdb.int Tryd.underlying3) hsz 2 rfl rfl h2
  obtain rfl : v2 = .int .i64 x2 := by obtain ⟨b, hb⟩ := okWide_int Tryd.underlying3 (hval 2 3 v2 rfl rfl); subst hb; have K := K2; simpa [Value.cells, Kd.int, Kd.bool, Kd.string, Kd.scalar] using K
  have lt3 : ∀ x ∈ p3, x.block < W.heap.size := by obtain ⟨m, hm⟩ := h3; exact DataW.trod_lt m _ _ _ hm
  obtain ⟨x3, K3, w3⟩ : ∃ x : ByteArray, (Kd.string).K W x v3.cells.toList ∧ x.size ≤ 140737488351232 := Rdb.arg (wf := fun x : ByteArray => x.size ≤ 140737488351232) (Rdb.string Tryd.underlying9) hsz 3 rfl rfl h3
  obtain rfl : v3 = .string x3 := by obtain ⟨b, hb⟩ := okWide_string Tryd.underlying9 (hval 3 9 v3 rfl rfl); subst hb; have K := K3; simpa [Value.cells, Kd.int, Kd.bool, Kd.string, Kd.scalar] using K
  clear hA0 hval0 hsz0 hsz
  obtain ⟨k, hk⟩ := Pure.PitchTells x0 x1 x2 x3 w0 w1 w2 w3
  refine (P.neumelaw06_PitchTells.calls k _ _ _ _ _ _ true W  hE ⟨rfl⟩ hk).mono fun e W' ⟨he, bel⟩ => ?_
  subst he
  exact ⟨_, rfl, _, _, _, [], _, [], hW', trodAll_mk1 (shut_bool Tryd.underlying4 _), (trodAll_cons_mk (Below.trod laidOut (by kernel_rfl) (of_decide_eq_true (by kernel_rfl)) h0 bel lt0) (trodAll_cons_mk (Below.trod laidOut (by kernel_rfl) (of_decide_eq_true (by kernel_rfl)) h1 bel lt1) (trodAll_cons_mk (Below.trod laidOut (by kernel_rfl) (of_decide_eq_true (by kernel_rfl)) h2 bel lt2) (trodAll_cons_mk (Below.trod laidOut (by kernel_rfl) (of_decide_eq_true (by kernel_rfl)) h3 bel lt3) trodAll_mk0)))), rfl, bel.frame _, fun h => by cases h⟩
theorem over : Rows.pitchTellsRow.holds Tryd.pinned (OpenSpec.ofChange Rows.pitchTellsSpec) :=
  OpenClaim.holds_of_wide 3 Tryd.f3 rfl rfl rfl rfl rfl rfl rfl ⟨rfl, rfl, rfl, rfl, rfl⟩ rfl rfl rfl rfl rfl (by kernel_rfl) Tryd.func3 (by kernel_rfl)
    (of_decide_eq_true (by kernel_rfl)) (by unfold Func.isWrapper; first | (rw [if_pos (by decide +kernel)]; kernel_rfl) | (rw [if_neg (by decide +kernel)]; exact ⟨rfl, rfl⟩))
    (fun os started H enc _ => lifted os started H enc)
theorem row : Rows.PitchTellsSaid := over
theorem card : Rows.PitchTellsCardSaid :=
  Claim7.holds_tied_plain_at .later [] [.data, .pinned] true (true, "e9c3c58a14ffd31b88b2cab5e03d4dc71f79e64b8971395adc801b40a7ef24f7") false row (fun _ h => by cases h) (by kernel_rfl) (fun _ h => by cases h) pitchTells_row_tie rfl ⟨rfl, rfl⟩ (by kernel_rfl) rfl
    (fun f fn hf hfn => by
      obtain rfl : f = 3 := (Option.some.inj ((show _ = some 3 by kernel_rfl).symm.trans hf)).symm
      obtain rfl : fn = Tryd.f3 := (Option.some.inj (Tryd.func3.symm.trans hfn)).symm
      exact ⟨by kernel_rfl, fun j t ht => by
        rw [Tryd.params3] at ht
        have hm : t ∈ [23, 24, 3, 9] := by simpa using Array.mem_of_getElem? ht
        have hall : ([23, 24, 3, 9].all fun u => !Tryd.prog.wantsStandIn u) = true := by kernel_rfl
        exact (show Tryd.prog.wantsStandIn t = false by simpa using List.all_eq_true.1 hall t hm)⟩)
    (by kernel_rfl)
#print axioms card
end Go.Proofs.YtkncoedagigliaaDoor.pitchTells
namespace Go.Proofs.YtkncoedagigliaaDoor
/-- The row, under a short name, for the claim. -/
theorem pitchTells_holds : Rows.PitchTellsCardSaid := pitchTells.card
end Go.Proofs.YtkncoedagigliaaDoor
