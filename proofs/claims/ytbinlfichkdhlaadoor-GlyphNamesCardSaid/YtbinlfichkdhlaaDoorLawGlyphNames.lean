-- Written by a program of this session (wip/tools/xprint.py), after the kit's row: Lean checks it.
import Derived.Test.YtbinlfichkdhlaaDoorRows
import Derived.Test.YtbinlfichkdhlaaDoorPx9
import Derived.Test.YtbinlfichkdhlaaDoorPureGlyphNames
import Derived.Test.YtbinlfichkdhlaaDoorOpens
import Derived.Test.YtbinlfichkdhlaaDoorLaid
import Derived.Test.YtbinlfichkdhlaaDoorCards
import Derived.Test.YtbinlfichkdhlaaDoorTie
import Derived.SevenTiedAt
import Derived.WalkKit
import Derived.ProofKit
import Derived.OpenShut
import Derived.ShutString
import Derived.ChangeOld
import Derived.Below
import Derived.SizedLaws
import Derived.Carry
namespace Go.Proofs.YtbinlfichkdhlaaDoor.glyphNames
open Go.ChangeShapes Go.WideShapes Go.ChangeAt Go.RowKit Go.Proofs.YtbinlfichkdhlaaDoor.Opens Go.Proofs.YtbinlfichkdhlaaDoor.P Go.Proofs.YtbinlfichkdhlaaDoorW.PrintWords
set_option linter.unusedVariables false
theorem own : ownKnob Tryd.prog.godebug = none := by kernel_rfl
theorem laidOut : laidOutB Tryd.prog = true := by kernel_rfl
set_option maxRecDepth 100000 in
theorem lifted (os : Os) (started : os.Started) (H : Type) (enc : TypeId × Value → H) :
    ReturnsInHanded {} Tryd.checked os 3 .any (fun w args => (Rows.glyphNamesSpec.pre enc Tryd.prog Tryd.f3 [] false w args ∧ laidMetH Tryd.prog Laid.laid w) ∧ sizedMet enc Tryd.prog Tryd.f3 (OpenSpec.ofChange Rows.glyphNamesSpec) false w args) (Rows.glyphNamesSpec.post enc Tryd.prog Tryd.f3 false true false false) := by
  refine returnsInHanded_of_change_and (C := Tryd.checked) (X := fun w _ => laidMetH Tryd.prog Laid.laid w) (fun _ _ _ hh h => h.of_heap hh) own started (by kernel_rfl) Tryd.func3
    (ChangeSpec.witness_shaped (enc := enc) (C := Tryd.checked) (os := os) (X := fun w _ => laidMetH Tryd.prog Laid.laid w) false (World.doorLaid Tryd.prog 400 os) #[.int .i64 0, .int .i64 0] 8 rfl (World.shaped_of_RefB (by kernel_rfl) (by kernel_rfl)) (by kernel_rfl) (by kernel_rfl) (by kernel_rfl) (Laid.laidWorld_met os _)) ?_
  intro W base args ds gs before hval0 hW hcnd hsz0 hL _
  have hE := Aside0.mk (Laid.handle_of_laid hL)
  have hsz : (DataW.weightsEach Tryd.prog (Tryd.f3.params.toList ++ Rows.glyphNamesSpec.plain.varTypes Tryd.prog) (ds ++ gs)).all (· ≤ reachBytes) = true := hsz0
  have hval : ∀ (j : Nat) t v, Tryd.f3.params[j]? = some t → args[j]? = some v → Value.okWide Tryd.prog W .any base t v := hval0
  have hW' := hW
  obtain ⟨p, q, hA0, hV, rfl, hfz, hnd⟩ := hW
  have hA : DataW.TrodAll enc Tryd.prog W 0 (fun _ => true) true Tryd.f3.params.toList args.toList ds p := hA0
  rw [Tryd.params3] at hA hval hsz
  obtain ⟨v0, vs0, d0, ds0, p0, q0, hargs, rfl, rfl, h0, r0⟩ := trodAll_cons hA
  obtain ⟨v1, vs1, d1, ds1, p1, q1, rfl, rfl, rfl, h1, r1⟩ := trodAll_cons r0
  obtain ⟨rfl, rfl, rfl⟩ := trodAll_nil r1
  obtain rfl : args = #[v0, v1] := by cases args; simp_all
  obtain ⟨rfl, rfl⟩ := trodVars_none hV
  have lt0 : ∀ x ∈ p0, x.block < W.heap.size := by obtain ⟨m, hm⟩ := h0; exact DataW.trod_lt m _ _ _ hm
  obtain ⟨x0, K0, w0⟩ : ∃ x : Int, ((Kd.int .i64)).K W x v0.cells.toList ∧ (Lit.int .i64 x).wf = true := Rdb.arg (wf := fun x : Int => (Lit.int .i64 x).wf = true) (Rdb.int Tryd.underlying22) hsz 0 rfl rfl h0
  obtain rfl : v0 = .int .i64 x0 := by obtain ⟨b, hb⟩ := okWide_int Tryd.underlying22 (hval 0 22 v0 rfl rfl); subst hb; have K := K0; simpa [Value.cells, Kd.int, Kd.bool, Kd.string, Kd.scalar] using K
  have lt1 : ∀ x ∈ p1, x.block < W.heap.size := by obtain ⟨m, hm⟩ := h1; exact DataW.trod_lt m _ _ _ hm
  obtain ⟨x1, K1, w1⟩ : ∃ x : Int, ((Kd.int .i64)).K W x v1.cells.toList ∧ (Lit.int .i64 x).wf = true := Rdb.arg (wf := fun x : Int => (Lit.int .i64 x).wf = true) (Rdb.int Tryd.underlying22) hsz 1 rfl rfl h1
  obtain rfl : v1 = .int .i64 x1 := by obtain ⟨b, hb⟩ := okWide_int Tryd.underlying22 (hval 1 22 v1 rfl rfl); subst hb; have K := K1; simpa [Value.cells, Kd.int, Kd.bool, Kd.string, Kd.scalar] using K
  clear hA0 hval0 hsz0 hsz
  obtain ⟨k, hk⟩ := Pure.GlyphNames x0 x1 w0 w1
  refine (P.neumelaw05_GlyphNames.calls k _ _ true W  hE ⟨rfl⟩ hk).mono fun e W' ⟨he, bel⟩ => ?_
  subst he
  exact ⟨_, rfl, _, _, _, [], _, [], hW', trodAll_mk1 (shut_bool Tryd.underlying4 _), (trodAll_cons_mk (Below.trod laidOut (by kernel_rfl) (of_decide_eq_true (by kernel_rfl)) h0 bel lt0) (trodAll_cons_mk (Below.trod laidOut (by kernel_rfl) (of_decide_eq_true (by kernel_rfl)) h1 bel lt1) trodAll_mk0)), rfl, bel.frame _, fun h => by cases h⟩
theorem over : Rows.glyphNamesRow.holds Tryd.pinned (OpenSpec.ofChange Rows.glyphNamesSpec) :=
  OpenClaim.holds_of_wide 3 Tryd.f3 rfl rfl rfl rfl rfl rfl rfl ⟨rfl, rfl, rfl, rfl, rfl⟩ rfl rfl rfl rfl rfl (by kernel_rfl) Tryd.func3 (by kernel_rfl)
    (of_decide_eq_true (by kernel_rfl)) (by unfold Func.isWrapper; first | (rw [if_pos (by decide +kernel)]; kernel_rfl) | (rw [if_neg (by decide +kernel)]; exact ⟨rfl, rfl⟩))
    (fun os started H enc _ => lifted os started H enc)
theorem row : Rows.GlyphNamesSaid := over
theorem card : Rows.GlyphNamesCardSaid :=
  Claim7.holds_tied_plain_at .later [] [.handle, .listed, .data] true (true, "13409d35ce4e677d1ebe7243f135dac45219304797d3692bd0208f5a52909de0") true row (fun _ h => by cases h) (by kernel_rfl) (fun _ h => by cases h) glyphNames_row_tie rfl ⟨rfl, rfl⟩ (by kernel_rfl) rfl
    (fun f fn hf hfn => by
      obtain rfl : f = 3 := (Option.some.inj ((show _ = some 3 by kernel_rfl).symm.trans hf)).symm
      obtain rfl : fn = Tryd.f3 := (Option.some.inj (Tryd.func3.symm.trans hfn)).symm
      exact ⟨by kernel_rfl, fun j t ht => by
        rw [Tryd.params3] at ht
        have hm : t ∈ [22, 22] := by simpa using Array.mem_of_getElem? ht
        have hall : ([22, 22].all fun u => !Tryd.prog.wantsStandIn u) = true := by kernel_rfl
        exact (show Tryd.prog.wantsStandIn t = false by simpa using List.all_eq_true.1 hall t hm)⟩)
    (by kernel_rfl)
#print axioms card
end Go.Proofs.YtbinlfichkdhlaaDoor.glyphNames
namespace Go.Proofs.YtbinlfichkdhlaaDoor
/-- The row, under a short name, for the claim. -/
theorem glyphNames_holds : Rows.GlyphNamesCardSaid := glyphNames.card
end Go.Proofs.YtbinlfichkdhlaaDoor
