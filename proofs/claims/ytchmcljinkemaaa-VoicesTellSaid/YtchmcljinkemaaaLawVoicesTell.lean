-- Written by a program of this session (wip/tools/xprint.py), after the kit's row: Lean checks it.
import Derived.Test.YtchmcljinkemaaaRows
import Derived.Test.YtchmcljinkemaaaPx9
import Derived.Test.YtchmcljinkemaaaPureVoicesTell
import Derived.Test.YtchmcljinkemaaaOpens
import Derived.WalkKit
import Derived.ProofKit
import Derived.OpenShut
import Derived.ShutString
import Derived.ChangeOld
import Derived.Below
import Derived.SizedLaws
import Derived.Carry
namespace Go.Proofs.Ytchmcljinkemaaa.voicesTell
open Go.ChangeShapes Go.WideShapes Go.ChangeAt Go.RowKit Go.Proofs.Ytchmcljinkemaaa.Opens Go.Proofs.Ytchmcljinkemaaa.P Go.Proofs.YtchmcljinkemaaaW.PrintWords
set_option linter.unusedVariables false
theorem own : ownKnob Try.prog.godebug = none := by kernel_rfl
theorem laidOut : laidOutB Try.prog = true := by kernel_rfl
set_option maxRecDepth 100000 in
theorem lifted (os : Os) (started : os.Started) (H : Type) (enc : TypeId × Value → H) :
    ReturnsInHanded {} Try.checked os 3 .any (Rows.voicesTellSpec.pre6 enc Try.prog Try.f3 Rows.voicesTellRow.domain false) (Rows.voicesTellSpec.post enc Try.prog Try.f3 false true false false) := by
  refine returnsInHanded_of_change_sized (C := Try.checked) own started (by kernel_rfl) Try.func3
    (ChangeSpec.witness6 (enc := enc) (C := Try.checked) false ⟨#[], #[.slice none 0 0, .slice none 0 0, .bool false], []⟩ 8 (by kernel_rfl) (by kernel_rfl) (by kernel_rfl) (by kernel_rfl)) ?_
  intro W base args ds gs before hval0 hW hcnd hsz0 _
  have hsz : (DataW.weightsEach Try.prog (Try.f3.params.toList ++ Rows.voicesTellSpec.plain.varTypes Try.prog) (ds ++ gs)).all (· ≤ reachBytes) = true := hsz0
  have hval : ∀ (j : Nat) t v, Try.f3.params[j]? = some t → args[j]? = some v → Value.okWide Try.prog W .any base t v := hval0
  have hW' := hW
  obtain ⟨p, q, hA0, hV, rfl, hfz, hnd⟩ := hW
  have hA : DataW.TrodAll enc Try.prog W 0 (fun _ => true) true Try.f3.params.toList args.toList ds p := hA0
  rw [Try.params3] at hA hval hsz
  obtain ⟨v0, vs0, d0, ds0, p0, q0, hargs, rfl, rfl, h0, r0⟩ := trodAll_cons hA
  obtain ⟨v1, vs1, d1, ds1, p1, q1, rfl, rfl, rfl, h1, r1⟩ := trodAll_cons r0
  obtain ⟨v2, vs2, d2, ds2, p2, q2, rfl, rfl, rfl, h2, r2⟩ := trodAll_cons r1
  obtain ⟨rfl, rfl, rfl⟩ := trodAll_nil r2
  obtain rfl : args = #[v0, v1, v2] := by cases args; simp_all
  obtain ⟨rfl, rfl⟩ := trodVars_none hV
  have lt0 : ∀ x ∈ p0, x.block < W.heap.size := by obtain ⟨m, hm⟩ := h0; exact DataW.trod_lt m _ _ _ hm
  obtain ⟨x0, K0, w0⟩ : ∃ x : List (S45), ((Kd.slice 45 k45)).K W x v0.cells.toList ∧ (x.length ≤ 9223372036854775807 ∧ x.length * 32 ≤ 140737488351232 ∧ ∀ z3_ ∈ x, ((Lit.int .i64 z3_.f0).wf = true ∧ (Lit.int .i64 z3_.f1).wf = true ∧ (Lit.int .i64 z3_.f2).wf = true ∧ (Lit.int .i64 z3_.f3).wf = true)) := Rdb.arg (wf := fun x : List (S45) => (x.length ≤ 9223372036854775807 ∧ x.length * 32 ≤ 140737488351232 ∧ ∀ z4_ ∈ x, ((Lit.int .i64 z4_.f0).wf = true ∧ (Lit.int .i64 z4_.f1).wf = true ∧ (Lit.int .i64 z4_.f2).wf = true ∧ (Lit.int .i64 z4_.f3).wf = true))) (Rdb.slice 32 Try.underlying22 (by kernel_rfl) (by kernel_rfl) (Rdb.struct (fun x : S45 => (x.f0, x.f1, x.f2, x.f3)) (fun y => (⟨y.1, y.2.1, y.2.2.1, y.2.2.2⟩ : S45)) (fun _ => rfl) Try.underlying45 (by kernel_rfl) (RdbF.cons rfl (by kernel_rfl) rfl (Rdb.int Try.underlying3) (RdbF.cons rfl (by kernel_rfl) rfl (Rdb.int Try.underlying3) (RdbF.cons rfl (by kernel_rfl) rfl (Rdb.int Try.underlying3) (RdbF.one rfl (by kernel_rfl) (Rdb.int Try.underlying3))))))) hsz 0 rfl rfl h0
  obtain ⟨a0, len0, cap0, rfl⟩ := okWide_slice Try.underlying22 (hval 0 22 v0 rfl rfl)
  obtain ⟨A0, c0, e0, hc0, hr0⟩ := K0
  obtain ⟨rfl, rfl, rfl⟩ : a0 = A0 ∧ len0 = x0.length ∧ cap0 = c0 := by simpa [Value.cells] using e0
  have lt1 : ∀ x ∈ p1, x.block < W.heap.size := by obtain ⟨m, hm⟩ := h1; exact DataW.trod_lt m _ _ _ hm
  obtain ⟨x1, K1, w1⟩ : ∃ x : List (List (S45)), ((Kd.slice 22 (Kd.slice 45 k45))).K W x v1.cells.toList ∧ (x.length ≤ 9223372036854775807 ∧ x.length * 24 ≤ 140737488351232 ∧ ∀ z5_ ∈ x, (z5_.length ≤ 9223372036854775807 ∧ z5_.length * 32 ≤ 140737488351232 ∧ ∀ z6_ ∈ z5_, ((Lit.int .i64 z6_.f0).wf = true ∧ (Lit.int .i64 z6_.f1).wf = true ∧ (Lit.int .i64 z6_.f2).wf = true ∧ (Lit.int .i64 z6_.f3).wf = true))) := Rdb.arg (wf := fun x : List (List (S45)) => (x.length ≤ 9223372036854775807 ∧ x.length * 24 ≤ 140737488351232 ∧ ∀ z7_ ∈ x, (z7_.length ≤ 9223372036854775807 ∧ z7_.length * 32 ≤ 140737488351232 ∧ ∀ z8_ ∈ z7_, ((Lit.int .i64 z8_.f0).wf = true ∧ (Lit.int .i64 z8_.f1).wf = true ∧ (Lit.int .i64 z8_.f2).wf = true ∧ (Lit.int .i64 z8_.f3).wf = true)))) (Rdb.slice 24 Try.underlying23 (by kernel_rfl) (by kernel_rfl) (Rdb.slice 32 Try.underlying22 (by kernel_rfl) (by kernel_rfl) (Rdb.struct (fun x : S45 => (x.f0, x.f1, x.f2, x.f3)) (fun y => (⟨y.1, y.2.1, y.2.2.1, y.2.2.2⟩ : S45)) (fun _ => rfl) Try.underlying45 (by kernel_rfl) (RdbF.cons rfl (by kernel_rfl) rfl (Rdb.int Try.underlying3) (RdbF.cons rfl (by kernel_rfl) rfl (Rdb.int Try.underlying3) (RdbF.cons rfl (by kernel_rfl) rfl (Rdb.int Try.underlying3) (RdbF.one rfl (by kernel_rfl) (Rdb.int Try.underlying3)))))))) hsz 1 rfl rfl h1
  obtain ⟨a1, len1, cap1, rfl⟩ := okWide_slice Try.underlying23 (hval 1 23 v1 rfl rfl)
  obtain ⟨A1, c1, e1, hc1, hr1⟩ := K1
  obtain ⟨rfl, rfl, rfl⟩ : a1 = A1 ∧ len1 = x1.length ∧ cap1 = c1 := by simpa [Value.cells] using e1
  have lt2 : ∀ x ∈ p2, x.block < W.heap.size := by obtain ⟨m, hm⟩ := h2; exact DataW.trod_lt m _ _ _ hm
  obtain ⟨x2, K2, w2⟩ : ∃ x : Bool, (Kd.bool).K W x v2.cells.toList ∧ True := Rdb.arg (wf := fun x : Bool => True) (Rdb.bool Try.underlying4) hsz 2 rfl rfl h2
  obtain rfl : v2 = .bool x2 := by obtain ⟨b, hb⟩ := okWide_bool Try.underlying4 (hval 2 4 v2 rfl rfl); subst hb; have K := K2; simpa [Value.cells, Kd.int, Kd.bool, Kd.string, Kd.scalar] using K
  clear hA0 hval0 hsz0 hsz
  obtain ⟨k, hk⟩ := Pure.VoicesTell x0 x1 x2 w0 w1
  refine (P.neumelaw24_VoicesTell.calls k _ _ _ _ _ _ _ true W hr0 hc0 hr1 hc1 ⟨rfl⟩ hk).mono fun e W' ⟨he, bel⟩ => ?_
  subst he
  exact ⟨_, rfl, _, _, _, [], _, [], hW', trodAll_mk1 (shut_bool Try.underlying4 _), (trodAll_cons_mk (Below.trod laidOut (by kernel_rfl) (of_decide_eq_true (by kernel_rfl)) h0 bel lt0) (trodAll_cons_mk (Below.trod laidOut (by kernel_rfl) (of_decide_eq_true (by kernel_rfl)) h1 bel lt1) (trodAll_cons_mk (Below.trod laidOut (by kernel_rfl) (of_decide_eq_true (by kernel_rfl)) h2 bel lt2) trodAll_mk0))), rfl, bel.frame _, fun h => by cases h⟩
theorem over : Rows.voicesTellRow.holds Try.pinned (OpenSpec.ofChange Rows.voicesTellSpec) :=
  OpenClaim.holds_of_wide 3 Try.f3 rfl rfl rfl rfl rfl rfl rfl ⟨rfl, rfl, rfl, rfl, rfl⟩ rfl rfl rfl rfl rfl (by kernel_rfl) Try.func3 (by kernel_rfl)
    (of_decide_eq_true (by kernel_rfl)) (by unfold Func.isWrapper; first | (rw [if_pos (by decide +kernel)]; kernel_rfl) | (rw [if_neg (by decide +kernel)]; exact ⟨rfl, rfl⟩))
    (fun os started H enc _ => lifted os started H enc)
theorem proved : Rows.VoicesTellSaid := over
#print axioms proved
end Go.Proofs.Ytchmcljinkemaaa.voicesTell
namespace Go.Proofs.Ytchmcljinkemaaa
/-- The row, under a short name, for the claim. -/
theorem voicesTell_holds : Rows.VoicesTellSaid := voicesTell.proved
end Go.Proofs.Ytchmcljinkemaaa
