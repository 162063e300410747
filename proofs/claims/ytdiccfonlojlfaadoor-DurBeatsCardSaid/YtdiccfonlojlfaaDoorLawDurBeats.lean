-- Written by a program of this session (wip/tools/xprint.py), after the kit's row: Lean checks it.
import Derived.Test.YtdiccfonlojlfaaDoorRows
import Derived.Test.YtdiccfonlojlfaaDoorPx19
import Derived.Test.YtdiccfonlojlfaaDoorPureDurBeats
import Derived.Test.YtdiccfonlojlfaaDoorOpens
import Derived.Test.YtdiccfonlojlfaaDoorLaid
import Derived.Test.YtdiccfonlojlfaaDoorCards
import Derived.Test.YtdiccfonlojlfaaDoorTie
import Derived.SevenTiedAt
import Derived.WalkKit
import Derived.ProofKit
import Derived.OpenShut
import Derived.ShutString
import Derived.ChangeOld
import Derived.Below
import Derived.SizedLaws
import Derived.Carry
namespace Go.Proofs.YtdiccfonlojlfaaDoor.durBeats
open Go.ChangeShapes Go.WideShapes Go.ChangeAt Go.RowKit Go.Proofs.YtdiccfonlojlfaaDoor.Opens Go.Proofs.YtdiccfonlojlfaaDoor.P Go.Proofs.YtdiccfonlojlfaaDoorW.PrintWords
set_option linter.unusedVariables false
theorem own : ownKnob Tryd.prog.godebug = none := by kernel_rfl
theorem laidOut : laidOutB Tryd.prog = true := by kernel_rfl
set_option maxRecDepth 100000 in
theorem lifted (os : Os) (started : os.Started) (H : Type) (enc : TypeId × Value → H) :
    ReturnsInHanded {} Tryd.checked os 5 .any (fun w args => (Rows.durBeatsSpec.pre enc Tryd.prog Tryd.f5 [] false w args ∧ laidMetH Tryd.prog Laid.laid w) ∧ sizedMet enc Tryd.prog Tryd.f5 (OpenSpec.ofChange Rows.durBeatsSpec) false w args) (Rows.durBeatsSpec.post enc Tryd.prog Tryd.f5 false true false false) := by
  refine returnsInHanded_of_change_and (C := Tryd.checked) (X := fun w _ => laidMetH Tryd.prog Laid.laid w) (fun _ _ _ hh h => h.of_heap hh) own started (by kernel_rfl) Tryd.func5
    (ChangeSpec.witness_at (enc := enc) (C := Tryd.checked) (os := os) (X := fun w _ => laidMetH Tryd.prog Laid.laid w) false (Laid.laidWorld os) #[.agg #[.int .i64 0, .int .i64 0], .agg #[.int .i64 0, .int .i64 0]] 8 rfl (by kernel_rfl) (by kernel_rfl) (by kernel_rfl) (by kernel_rfl) (by kernel_rfl) (Laid.laidWorld_met os _)) ?_
  intro W base args ds gs before hval0 hW hcnd hsz0 hL _
  have hE := Aside0.mk (Laid.handle_of_laid hL)
  have hsz : (DataW.weightsEach Tryd.prog (Tryd.f5.params.toList ++ Rows.durBeatsSpec.plain.varTypes Tryd.prog) (ds ++ gs)).all (· ≤ reachBytes) = true := hsz0
  have hval : ∀ (j : Nat) t v, Tryd.f5.params[j]? = some t → args[j]? = some v → Value.okWide Tryd.prog W .any base t v := hval0
  have hW' := hW
  obtain ⟨p, q, hA0, hV, rfl, hfz, hnd⟩ := hW
  have hA : DataW.TrodAll enc Tryd.prog W 0 (fun _ => true) true Tryd.f5.params.toList args.toList ds p := hA0
  rw [Tryd.params5] at hA hval hsz
  obtain ⟨v0, vs0, d0, ds0, p0, q0, hargs, rfl, rfl, h0, r0⟩ := trodAll_cons hA
  obtain ⟨v1, vs1, d1, ds1, p1, q1, rfl, rfl, rfl, h1, r1⟩ := trodAll_cons r0
  obtain ⟨rfl, rfl, rfl⟩ := trodAll_nil r1
  obtain rfl : args = #[v0, v1] := by cases args; simp_all
  obtain ⟨rfl, rfl⟩ := trodVars_none hV
  have lt0 : ∀ x ∈ p0, x.block < W.heap.size := by obtain ⟨m, hm⟩ := h0; exact DataW.trod_lt m _ _ _ hm
  obtain ⟨x0, K0, w0⟩ : ∃ x : S42, (k42).K W x v0.cells.toList ∧ ((Lit.int .i64 x.f0).wf = true ∧ (Lit.int .i64 x.f1).wf = true) := Rdb.arg (wf := fun x : S42 => ((Lit.int .i64 x.f0).wf = true ∧ (Lit.int .i64 x.f1).wf = true)) (Rdb.struct (fun x : S42 => (x.f0, x.f1)) (fun y => (⟨y.1, y.2⟩ : S42)) (fun _ => rfl) Tryd.underlying42 (by kernel_rfl) (RdbF.cons rfl (by kernel_rfl) rfl (Rdb.int Tryd.underlying3) (RdbF.one rfl (by kernel_rfl) (Rdb.int Tryd.underlying3)))) hsz 0 rfl rfl h0
  obtain ⟨vs0_, rfl, _⟩ := okWide_struct Tryd.underlying42 (hval 0 42 v0 rfl rfl)
  have e0 := k42_open K0
  obtain rfl : vs0_ = #[.int .i64 x0.f0, .int .i64 x0.f1] := by cases vs0_; simpa [Value.cells] using e0
  have lt1 : ∀ x ∈ p1, x.block < W.heap.size := by obtain ⟨m, hm⟩ := h1; exact DataW.trod_lt m _ _ _ hm
  obtain ⟨x1, K1, w1⟩ : ∃ x : S25, (k25).K W x v1.cells.toList ∧ ((Lit.int .i64 x.f0).wf = true ∧ (Lit.int .i64 x.f1).wf = true) := Rdb.arg (wf := fun x : S25 => ((Lit.int .i64 x.f0).wf = true ∧ (Lit.int .i64 x.f1).wf = true)) (Rdb.struct (fun x : S25 => (x.f0, x.f1)) (fun y => (⟨y.1, y.2⟩ : S25)) (fun _ => rfl) Tryd.underlying25 (by kernel_rfl) (RdbF.cons rfl (by kernel_rfl) rfl (Rdb.int Tryd.underlying3) (RdbF.one rfl (by kernel_rfl) (Rdb.int Tryd.underlying3)))) hsz 1 rfl rfl h1
  obtain ⟨vs1_, rfl, _⟩ := okWide_struct Tryd.underlying25 (hval 1 25 v1 rfl rfl)
  have e1 := k25_open K1
  obtain rfl : vs1_ = #[.int .i64 x1.f0, .int .i64 x1.f1] := by cases vs1_; simpa [Value.cells] using e1
  clear hA0 hval0 hsz0 hsz
  obtain ⟨k, hk⟩ := Pure.DurBeats x0 x1 w0 w1
  refine (P.neumelaw07_DurBeats.calls k _ _ _ _ true W  ⟨rfl⟩ hk).mono fun e W' ⟨he, bel⟩ => ?_
  subst he
  exact ⟨_, rfl, _, _, _, [], _, [], hW', trodAll_mk1 (shut_bool Tryd.underlying4 _), (trodAll_cons_mk (Below.trod laidOut (by kernel_rfl) (of_decide_eq_true (by kernel_rfl)) h0 bel lt0) (trodAll_cons_mk (Below.trod laidOut (by kernel_rfl) (of_decide_eq_true (by kernel_rfl)) h1 bel lt1) trodAll_mk0)), rfl, bel.frame _, fun h => by cases h⟩
theorem over : Rows.durBeatsRow.holds Tryd.pinned (OpenSpec.ofChange Rows.durBeatsSpec) :=
  OpenClaim.holds_of_wide 5 Tryd.f5 rfl rfl rfl rfl rfl rfl rfl ⟨rfl, rfl, rfl, rfl, rfl⟩ rfl rfl rfl rfl rfl (by kernel_rfl) Tryd.func5 (by kernel_rfl)
    (of_decide_eq_true (by kernel_rfl)) (by unfold Func.isWrapper; first | (rw [if_pos (by decide +kernel)]; kernel_rfl) | (rw [if_neg (by decide +kernel)]; exact ⟨rfl, rfl⟩))
    (fun os started H enc _ => lifted os started H enc)
theorem row : Rows.DurBeatsSaid := over
theorem card : Rows.DurBeatsCardSaid :=
  Claim7.holds_tied_plain_at .later [] [.data, .pinned] true (true, "dde33e790ae269969d04eec6408b7dff6ce820026c0cb3c134263926e3a41439") true row (fun _ h => by cases h) (by kernel_rfl) (fun _ h => by cases h) durBeats_row_tie rfl ⟨rfl, rfl⟩ (by kernel_rfl) rfl
    (fun f fn hf hfn => by
      obtain rfl : f = 5 := (Option.some.inj ((show _ = some 5 by kernel_rfl).symm.trans hf)).symm
      obtain rfl : fn = Tryd.f5 := (Option.some.inj (Tryd.func5.symm.trans hfn)).symm
      exact ⟨by kernel_rfl, fun j t ht => by
        rw [Tryd.params5] at ht
        have hm : t ∈ [42, 25] := by simpa using Array.mem_of_getElem? ht
        have hall : ([42, 25].all fun u => !Tryd.prog.wantsStandIn u) = true := by kernel_rfl
        exact (show Tryd.prog.wantsStandIn t = false by simpa using List.all_eq_true.1 hall t hm)⟩)
    (by kernel_rfl)
#print axioms card
end Go.Proofs.YtdiccfonlojlfaaDoor.durBeats
namespace Go.Proofs.YtdiccfonlojlfaaDoor
/-- The row, under a short name, for the claim. -/
theorem durBeats_holds : Rows.DurBeatsCardSaid := durBeats.card
end Go.Proofs.YtdiccfonlojlfaaDoor
