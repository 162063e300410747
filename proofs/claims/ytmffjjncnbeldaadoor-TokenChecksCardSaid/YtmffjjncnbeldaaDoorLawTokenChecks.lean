-- Written by a program of this session (wip/tools/xprint.py), after the kit's row: Lean checks it.
import Derived.Test.YtmffjjncnbeldaaDoorRows
import Derived.Test.YtmffjjncnbeldaaDoorPx14
import Derived.Test.YtmffjjncnbeldaaDoorPureTokenChecks
import Derived.Test.YtmffjjncnbeldaaDoorOpens
import Derived.Test.YtmffjjncnbeldaaDoorLaid
import Derived.Test.YtmffjjncnbeldaaDoorCards
import Derived.Test.YtmffjjncnbeldaaDoorTie
import Derived.SevenTiedAt
import Derived.WalkKit
import Derived.ProofKit
import Derived.OpenShut
import Derived.ShutString
import Derived.ChangeOld
import Derived.Below
import Derived.SizedLaws
import Derived.Carry
namespace Go.Proofs.YtmffjjncnbeldaaDoor.tokenChecks
open Go.ChangeShapes Go.WideShapes Go.ChangeAt Go.RowKit Go.Proofs.YtmffjjncnbeldaaDoor.Opens Go.Proofs.YtmffjjncnbeldaaDoor.P Go.Proofs.YtmffjjncnbeldaaDoorW.PrintWords
set_option linter.unusedVariables false
theorem own : ownKnob Tryd.prog.godebug = none := by kernel_rfl
theorem laidOut : laidOutB Tryd.prog = true := by kernel_rfl
set_option maxRecDepth 100000 in
theorem lifted (os : Os) (started : os.Started) (H : Type) (enc : TypeId × Value → H) :
    ReturnsInHanded {} Tryd.checked os 4 .any (fun w args => (Rows.tokenChecksSpec.pre enc Tryd.prog Tryd.f4 [] false w args ∧ laidMetH Tryd.prog Laid.laid w) ∧ sizedMet enc Tryd.prog Tryd.f4 (OpenSpec.ofChange Rows.tokenChecksSpec) false w args) (Rows.tokenChecksSpec.post enc Tryd.prog Tryd.f4 false true false false) := by
  refine returnsInHanded_of_change_and (C := Tryd.checked) (X := fun w _ => laidMetH Tryd.prog Laid.laid w) (fun _ _ _ hh h => h.of_heap hh) own started (by kernel_rfl) Tryd.func4
    (ChangeSpec.witness_at (enc := enc) (C := Tryd.checked) (os := os) (X := fun w _ => laidMetH Tryd.prog Laid.laid w) false (Laid.laidWorld os) #[.slice none 0 0] 8 rfl (by kernel_rfl) (by kernel_rfl) (by kernel_rfl) (by kernel_rfl) (by kernel_rfl) (Laid.laidWorld_met os _)) ?_
  intro W base args ds gs before hval0 hW hcnd hsz0 hL _
  have hE := Aside0.mk (Laid.handle_of_laid hL)
  have hsz : (DataW.weightsEach Tryd.prog (Tryd.f4.params.toList ++ Rows.tokenChecksSpec.plain.varTypes Tryd.prog) (ds ++ gs)).all (· ≤ reachBytes) = true := hsz0
  have hval : ∀ (j : Nat) t v, Tryd.f4.params[j]? = some t → args[j]? = some v → Value.okWide Tryd.prog W .any base t v := hval0
  have hW' := hW
  obtain ⟨p, q, hA0, hV, rfl, hfz, hnd⟩ := hW
  have hA : DataW.TrodAll enc Tryd.prog W 0 (fun _ => true) true Tryd.f4.params.toList args.toList ds p := hA0
  rw [Tryd.params4] at hA hval hsz
  obtain ⟨v0, vs0, d0, ds0, p0, q0, hargs, rfl, rfl, h0, r0⟩ := trodAll_cons hA
  obtain ⟨rfl, rfl, rfl⟩ := trodAll_nil r0
  obtain rfl : args = #[v0] := by cases args; simp_all
  obtain ⟨rfl, rfl⟩ := trodVars_none hV
  have lt0 : ∀ x ∈ p0, x.block < W.heap.size := by obtain ⟨m, hm⟩ := h0; exact DataW.trod_lt m _ _ _ hm
  obtain ⟨x0, K0, w0⟩ : ∃ x : List (S34), ((Kd.slice 34 k34)).K W x v0.cells.toList ∧ (x.length ≤ 9223372036854775807 ∧ x.length * 32 ≤ 140737488351232 ∧ ∀ z1_ ∈ x, ((Lit.int .i64 z1_.f0).wf = true ∧ z1_.f1.size ≤ 140737488351232 ∧ (Lit.int .i64 z1_.f2).wf = true)) := Rdb.arg (wf := fun x : List (S34) => (x.length ≤ 9223372036854775807 ∧ x.length * 32 ≤ 140737488351232 ∧ ∀ z2_ ∈ x, ((Lit.int .i64 z2_.f0).wf = true ∧ z2_.f1.size ≤ 140737488351232 ∧ (Lit.int .i64 z2_.f2).wf = true))) (Rdb.slice 32 Tryd.underlying23 (by kernel_rfl) (by kernel_rfl) (Rdb.struct (fun x : S34 => (x.f0, x.f1, x.f2)) (fun y => (⟨y.1, y.2.1, y.2.2⟩ : S34)) (fun _ => rfl) Tryd.underlying34 (by kernel_rfl) (RdbF.cons rfl (by kernel_rfl) rfl (Rdb.int Tryd.underlying3) (RdbF.cons rfl (by kernel_rfl) rfl (Rdb.string Tryd.underlying9) (RdbF.one rfl (by kernel_rfl) (Rdb.int Tryd.underlying3)))))) hsz 0 rfl rfl h0
  obtain ⟨a0, len0, cap0, rfl⟩ := okWide_slice Tryd.underlying23 (hval 0 23 v0 rfl rfl)
  obtain ⟨A0, c0, e0, hc0, hr0⟩ := K0
  obtain ⟨rfl, rfl, rfl⟩ : a0 = A0 ∧ len0 = x0.length ∧ cap0 = c0 := by simpa [Value.cells] using e0
  clear hA0 hval0 hsz0 hsz
  obtain ⟨k, hk⟩ := Pure.TokenChecks x0 w0
  refine (P.neumelaw08_TokenChecks.calls k _ _ _ true W hr0 hc0 hE ⟨rfl⟩ hk).mono fun e W' ⟨he, bel⟩ => ?_
  subst he
  exact ⟨_, rfl, _, _, _, [], _, [], hW', trodAll_mk1 (shut_bool Tryd.underlying4 _), (trodAll_cons_mk (Below.trod laidOut (by kernel_rfl) (of_decide_eq_true (by kernel_rfl)) h0 bel lt0) trodAll_mk0), rfl, bel.frame _, fun h => by cases h⟩
theorem over : Rows.tokenChecksRow.holds Tryd.pinned (OpenSpec.ofChange Rows.tokenChecksSpec) :=
  OpenClaim.holds_of_wide 4 Tryd.f4 rfl rfl rfl rfl rfl rfl rfl ⟨rfl, rfl, rfl, rfl, rfl⟩ rfl rfl rfl rfl rfl (by kernel_rfl) Tryd.func4 (by kernel_rfl)
    (of_decide_eq_true (by kernel_rfl)) (by unfold Func.isWrapper; first | (rw [if_pos (by decide +kernel)]; kernel_rfl) | (rw [if_neg (by decide +kernel)]; exact ⟨rfl, rfl⟩))
    (fun os started H enc _ => lifted os started H enc)
theorem row : Rows.TokenChecksSaid := over
theorem card : Rows.TokenChecksCardSaid :=
  Claim7.holds_tied_plain_at .later [] [.data, .pinned] true (true, "a93d8b058405ed0f9d79ac5bb9163f9336ce69c23986cf1c42b40ba2515f935a") false row (fun _ h => by cases h) (by kernel_rfl) (fun _ h => by cases h) tokenChecks_row_tie rfl ⟨rfl, rfl⟩ (by kernel_rfl) rfl
    (fun f fn hf hfn => by
      obtain rfl : f = 4 := (Option.some.inj ((show _ = some 4 by kernel_rfl).symm.trans hf)).symm
      obtain rfl : fn = Tryd.f4 := (Option.some.inj (Tryd.func4.symm.trans hfn)).symm
      exact ⟨by kernel_rfl, fun j t ht => by
        rw [Tryd.params4] at ht
        have hm : t ∈ [23] := by simpa using Array.mem_of_getElem? ht
        have hall : ([23].all fun u => !Tryd.prog.wantsStandIn u) = true := by kernel_rfl
        exact (show Tryd.prog.wantsStandIn t = false by simpa using List.all_eq_true.1 hall t hm)⟩)
    (by kernel_rfl)
#print axioms card
end Go.Proofs.YtmffjjncnbeldaaDoor.tokenChecks
namespace Go.Proofs.YtmffjjncnbeldaaDoor
/-- The row, under a short name, for the claim. -/
theorem tokenChecks_holds : Rows.TokenChecksCardSaid := tokenChecks.card
end Go.Proofs.YtmffjjncnbeldaaDoor
