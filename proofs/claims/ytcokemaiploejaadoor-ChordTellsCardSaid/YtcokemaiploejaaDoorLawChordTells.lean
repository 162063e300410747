-- Written by a program of this session (wip/tools/xprint.py), after the kit's row: Lean checks it.
import Derived.Test.YtcokemaiploejaaDoorRows
import Derived.Test.YtcokemaiploejaaDoorPx19
import Derived.Test.YtcokemaiploejaaDoorPureChordTells
import Derived.Test.YtcokemaiploejaaDoorOpens
import Derived.Test.YtcokemaiploejaaDoorLaid
import Derived.Test.YtcokemaiploejaaDoorCards
import Derived.Test.YtcokemaiploejaaDoorTie
import Derived.SevenTiedAt
import Derived.WalkKit
import Derived.ProofKit
import Derived.OpenShut
import Derived.ShutString
import Derived.ChangeOld
import Derived.Below
import Derived.SizedLaws
import Derived.Carry
namespace Go.Proofs.YtcokemaiploejaaDoor.chordTells
open Go.ChangeShapes Go.WideShapes Go.ChangeAt Go.RowKit Go.Proofs.YtcokemaiploejaaDoor.Opens Go.Proofs.YtcokemaiploejaaDoor.P Go.Proofs.YtcokemaiploejaaDoorW.PrintWords
set_option linter.unusedVariables false
theorem own : ownKnob Tryd.prog.godebug = none := by kernel_rfl
theorem laidOut : laidOutB Tryd.prog = true := by kernel_rfl
set_option maxRecDepth 100000 in
theorem lifted (os : Os) (started : os.Started) (H : Type) (enc : TypeId × Value → H) :
    ReturnsInHanded {} Tryd.checked os 3 .any (fun w args => (Rows.chordTellsSpec.pre enc Tryd.prog Tryd.f3 [] false w args ∧ laidMetH Tryd.prog Laid.laid w) ∧ sizedMet enc Tryd.prog Tryd.f3 (OpenSpec.ofChange Rows.chordTellsSpec) false w args) (Rows.chordTellsSpec.post enc Tryd.prog Tryd.f3 false true false false) := by
  refine returnsInHanded_of_change_and (C := Tryd.checked) (X := fun w _ => laidMetH Tryd.prog Laid.laid w) (fun _ _ _ hh h => h.of_heap hh) own started (by kernel_rfl) Tryd.func3
    (ChangeSpec.witness_at (enc := enc) (C := Tryd.checked) (os := os) (X := fun w _ => laidMetH Tryd.prog Laid.laid w) false (Laid.laidWorld os) #[.slice none 0 0, .slice none 0 0, .int .i64 0, .bool false, .bool false] 8 rfl (by kernel_rfl) (by kernel_rfl) (by kernel_rfl) (by kernel_rfl) (by kernel_rfl) (Laid.laidWorld_met os _)) ?_
  intro W base args ds gs before hval0 hW hcnd hsz0 hL _
  have hE := Aside0.mk (Laid.handle_of_laid hL)
  have hsz : (DataW.weightsEach Tryd.prog (Tryd.f3.params.toList ++ Rows.chordTellsSpec.plain.varTypes Tryd.prog) (ds ++ gs)).all (· ≤ reachBytes) = true := hsz0
  have hval : ∀ (j : Nat) t v, Tryd.f3.params[j]? = some t → args[j]? = some v → Value.okWide Tryd.prog W .any base t v := hval0
  have hW' := hW
  obtain ⟨p, q, hA0, hV, rfl, hfz, hnd⟩ := hW
  have hA : DataW.TrodAll enc Tryd.prog W 0 (fun _ => true) true Tryd.f3.params.toList args.toList ds p := hA0
  rw [Tryd.params3] at hA hval hsz
  obtain ⟨v0, vs0, d0, ds0, p0, q0, hargs, rfl, rfl, h0, r0⟩ := trodAll_cons hA
  obtain ⟨v1, vs1, d1, ds1, p1, q1, rfl, rfl, rfl, h1, r1⟩ := trodAll_cons r0
  obtain ⟨v2, vs2, d2, ds2, p2, q2, rfl, rfl, rfl, h2, r2⟩ := trodAll_cons r1
  obtain ⟨v3, vs3, d3, ds3, p3, q3, rfl, rfl, rfl, h3, r3⟩ := trodAll_cons r2
  obtain ⟨v4, vs4, d4, ds4, p4, q4, rfl, rfl, rfl, h4, r4⟩ := trodAll_cons r3
  obtain ⟨rfl, rfl, rfl⟩ := trodAll_nil r4
  obtain rfl : args = #[v0, v1, v2, v3, v4] := by cases args; simp_all
  obtain ⟨rfl, rfl⟩ := trodVars_none hV
  have lt0 : ∀ x ∈ p0, x.block < W.heap.size := by obtain ⟨m, hm⟩ := h0; exact DataW.trod_lt m _ _ _ hm
  obtain ⟨x0, K0, w0⟩ : ∃ x : List Int, ((Kd.slice 3 (Kd.int .i64))).K W x v0.cells.toList ∧ (x.length ≤ 9223372036854775807 ∧ x.length * 8 ≤ 140737488351232 ∧ ∀ z2_ ∈ x, (Lit.int .i64 z2_).wf = true) := Rdb.arg (wf := fun x : List Int => (x.length ≤ 9223372036854775807 ∧ x.length * 8 ≤ 140737488351232 ∧ ∀ z3_ ∈ x, (Lit.int .i64 z3_).wf = true)) (Rdb.slice 8 Tryd.underlying22 (by kernel_rfl) (by kernel_rfl) (Rdb.int Tryd.underlying3)) hsz 0 rfl rfl h0
  obtain ⟨a0, len0, cap0, rfl⟩ := okWide_slice Tryd.underlying22 (hval 0 22 v0 rfl rfl)
  obtain ⟨A0, c0, e0, hc0, hr0⟩ := K0
  obtain ⟨rfl, rfl, rfl⟩ : a0 = A0 ∧ len0 = x0.length ∧ cap0 = c0 := by simpa [Value.cells] using e0
  have lt1 : ∀ x ∈ p1, x.block < W.heap.size := by obtain ⟨m, hm⟩ := h1; exact DataW.trod_lt m _ _ _ hm
  obtain ⟨x1, K1, w1⟩ : ∃ x : List Int, ((Kd.slice 3 (Kd.int .i64))).K W x v1.cells.toList ∧ (x.length ≤ 9223372036854775807 ∧ x.length * 8 ≤ 140737488351232 ∧ ∀ z4_ ∈ x, (Lit.int .i64 z4_).wf = true) := Rdb.arg (wf := fun x : List Int => (x.length ≤ 9223372036854775807 ∧ x.length * 8 ≤ 140737488351232 ∧ ∀ z5_ ∈ x, (Lit.int .i64 z5_).wf = true)) (Rdb.slice 8 Tryd.underlying22 (by kernel_rfl) (by kernel_rfl) (Rdb.int Tryd.underlying3)) hsz 1 rfl rfl h1
  obtain ⟨a1, len1, cap1, rfl⟩ := okWide_slice Tryd.underlying22 (hval 1 22 v1 rfl rfl)
  obtain ⟨A1, c1, e1, hc1, hr1⟩ := K1
  obtain ⟨rfl, rfl, rfl⟩ : a1 = A1 ∧ len1 = x1.length ∧ cap1 = c1 := by simpa [Value.cells] using e1
  have lt2 : ∀ x ∈ p2, x.block < W.heap.size := by obtain ⟨m, hm⟩ := h2; exact DataW.trod_lt m _ _ _ hm
  obtain ⟨x2, K2, w2⟩ : ∃ x : Int, ((Kd.int .i64)).K W x v2.cells.toList ∧ (Lit.int .i64 x).wf = true := Rdb.arg (wf := fun x : Int => (Lit.int .i64 x).wf = true) (Rdb.int Tryd.underlying23) hsz 2 rfl rfl h2
  obtain rfl : v2 = .int .i64 x2 := by obtain ⟨b, hb⟩ := okWide_int Tryd.underlying23 (hval 2 23 v2 rfl rfl); subst hb; have K := K2; simpa [Value.cells, Kd.int, Kd.bool, Kd.string, Kd.scalar] using K
  have lt3 : ∀ x ∈ p3, x.block < W.heap.size := by obtain ⟨m, hm⟩ := h3; exact DataW.trod_lt m _ _ _ hm
  obtain ⟨x3, K3, w3⟩ : ∃ x : Bool, (Kd.bool).K W x v3.cells.toList ∧ True := Rdb.arg (wf := fun x : Bool => True) (Rdb.bool Tryd.underlying4) hsz 3 rfl rfl h3
  obtain rfl : v3 = .bool x3 := by obtain ⟨b, hb⟩ := okWide_bool Tryd.underlying4 (hval 3 4 v3 rfl rfl); subst hb; have K := K3; simpa [Value.cells, Kd.int, Kd.bool, Kd.string, Kd.scalar] using K
  have lt4 : ∀ x ∈ p4, x.block < W.heap.size := by obtain ⟨m, hm⟩ := h4; exact DataW.trod_lt m _ _ _ hm
  obtain ⟨x4, K4, w4⟩ : ∃ x : Bool, (Kd.bool).K W x v4.cells.toList ∧ True := Rdb.arg (wf := fun x : Bool => True) (Rdb.bool Tryd.underlying4) hsz 4 rfl rfl h4
  obtain rfl : v4 = .bool x4 := by obtain ⟨b, hb⟩ := okWide_bool Tryd.underlying4 (hval 4 4 v4 rfl rfl); subst hb; have K := K4; simpa [Value.cells, Kd.int, Kd.bool, Kd.string, Kd.scalar] using K
  clear hA0 hval0 hsz0 hsz
  obtain ⟨k, hk⟩ := Pure.ChordTells x0 x1 x2 x3 x4 w0 w1 w2
  refine (P.neumelaw23_ChordTells.calls k _ _ _ _ _ _ _ _ _ true W hr0 hc0 hr1 hc1 hE ⟨rfl⟩ hk).mono fun e W' ⟨he, bel⟩ => ?_
  subst he
  exact ⟨_, rfl, _, _, _, [], _, [], hW', trodAll_mk1 (shut_bool Tryd.underlying4 _), (trodAll_cons_mk (Below.trod laidOut (by kernel_rfl) (of_decide_eq_true (by kernel_rfl)) h0 bel lt0) (trodAll_cons_mk (Below.trod laidOut (by kernel_rfl) (of_decide_eq_true (by kernel_rfl)) h1 bel lt1) (trodAll_cons_mk (Below.trod laidOut (by kernel_rfl) (of_decide_eq_true (by kernel_rfl)) h2 bel lt2) (trodAll_cons_mk (Below.trod laidOut (by kernel_rfl) (of_decide_eq_true (by kernel_rfl)) h3 bel lt3) (trodAll_cons_mk (Below.trod laidOut (by kernel_rfl) (of_decide_eq_true (by kernel_rfl)) h4 bel lt4) trodAll_mk0))))), rfl, bel.frame _, fun h => by cases h⟩
theorem over : Rows.chordTellsRow.holds Tryd.pinned (OpenSpec.ofChange Rows.chordTellsSpec) :=
  OpenClaim.holds_of_wide 3 Tryd.f3 rfl rfl rfl rfl rfl rfl rfl ⟨rfl, rfl, rfl, rfl, rfl⟩ rfl rfl rfl rfl rfl (by kernel_rfl) Tryd.func3 (by kernel_rfl)
    (of_decide_eq_true (by kernel_rfl)) (by unfold Func.isWrapper; first | (rw [if_pos (by decide +kernel)]; kernel_rfl) | (rw [if_neg (by decide +kernel)]; exact ⟨rfl, rfl⟩))
    (fun os started H enc _ => lifted os started H enc)
theorem row : Rows.ChordTellsSaid := over
theorem card : Rows.ChordTellsCardSaid :=
  Claim7.holds_tied_plain_at .later [] [.handle] true (true, "e1e196bbf4bd068b8d4a8b532ea7dde686b017f50f9a4c09303d421b3b0340c8") true row (fun _ h => by cases h) (by kernel_rfl) (fun _ h => by cases h) chordTells_row_tie rfl ⟨rfl, rfl⟩ (by kernel_rfl) rfl
    (fun f fn hf hfn => by
      obtain rfl : f = 3 := (Option.some.inj ((show _ = some 3 by kernel_rfl).symm.trans hf)).symm
      obtain rfl : fn = Tryd.f3 := (Option.some.inj (Tryd.func3.symm.trans hfn)).symm
      exact ⟨by kernel_rfl, fun j t ht => by
        rw [Tryd.params3] at ht
        have hm : t ∈ [22, 22, 23, 4, 4] := by simpa using Array.mem_of_getElem? ht
        have hall : ([22, 22, 23, 4, 4].all fun u => !Tryd.prog.wantsStandIn u) = true := by kernel_rfl
        exact (show Tryd.prog.wantsStandIn t = false by simpa using List.all_eq_true.1 hall t hm)⟩)
    (by kernel_rfl)
#print axioms card
end Go.Proofs.YtcokemaiploejaaDoor.chordTells
namespace Go.Proofs.YtcokemaiploejaaDoor
/-- The row, under a short name, for the claim. -/
theorem chordTells_holds : Rows.ChordTellsCardSaid := chordTells.card
end Go.Proofs.YtcokemaiploejaaDoor
