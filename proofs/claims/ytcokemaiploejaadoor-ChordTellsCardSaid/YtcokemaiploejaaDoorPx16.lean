-- Written by a program of this session (wip/tools/xprint.py, over the kit's print): Lean checks it.
import Derived.Test.YtcokemaiploejaaDoorPx0
import Derived.Test.YtcokemaiploejaaDoorPx4
import Derived.Test.YtcokemaiploejaaDoorPx13
import Derived.Test.YtcokemaiploejaaDoorPx15
namespace Go.Proofs.YtcokemaiploejaaDoor.P
open Go.RowKit Go.Proofs.YtcokemaiploejaaDoorW.PrintWords Go.Proofs.YtcokemaiploejaaDoorW.PrintLast Go.Proofs.YtcokemaiploejaaDoorW.PrintMore
attribute [local go_sem] max2_int min2_int max_two min_two max_three min_three max_four min_four   -- for this text's walks alone
set_option linter.unusedVariables false
set_option linter.unusedSimpArgs false

/-! ### box_shifted: function 38 -/
section
variable {P : Program} {ops : Array Oper} {Q : Exit → Act → World → Prop} {md : Region.Mode} {S : World → Prop} {ds : List Nat}
/-- A call of a function value that holds what it captured, in a region. -/
theorem goesV_ {oi : Oper} {N : Option Tmp} {a : Act} {w : World} {K : Act → World → Prop} {f : FuncId} {fn : Func} {ag : Array Operand} {ts : Array TypeId} {c : Operand} (hf : P.funcs[f]? = some fn) (hname : (fn.name == "runtime.NumGoroutine") = false) (args cs : Array Value)
  (hw : Region.wanted oi (yielded ops a.tmps) = true) (hN : oi.dst = N) (hop : oi.op = .call { callee := .value c, args := ag, argTypes := ts }) (hb : fn.body.isSome = true) (hv : a.eval c = .func (.func f) #[] cs ∧ ag.map a.eval ++ cs = args)
  (h : Calls P f args w fun e w' => ∃ v, e = .returned v ∧ K (a.put N v) w') : if Region.wanted oi (yielded ops a.tmps) = true then Oper.wp P oi a w K Q else K (a.put N undef) w := by
 refine call_ f args hw hN ?_ h
 have he := enters_ hf hname hb args w
 obtain ⟨hc, hargs⟩ := hv
 unfold execOp
 simp [hop, resolve, Deferred.ofValue, invoke, hc, hargs, he]
end
/-- What the call has made, and what it holds: the box that came in, its results, whether all was right, and perhaps one block more. -/
structure Sh (w0 W : World) (gb gr go : Nat) (x0 x1 x2 x3 : Int) (b : Bool) (al : Option Nat) : Prop where
 laid : LaidE W
 below : Below w0.heap.size w0 W
 box : W.heap[gb]? = some (.cells #[.int .i64 x0, .int .i64 x1, .int .i64 x2, .int .i64 x3] 46 (0, 0))
 res : W.heap[gr]? = some (.cells #[.int .i64 0, .int .i64 0, .int .i64 0, .int .i64 0] 46 (0, 0))
 ok : W.heap[go]? = some (.cells #[.bool b] 4 (0, 0))
 b0 : w0.heap.size ≤ gb
 r0 : w0.heap.size ≤ gr
 o0 : w0.heap.size ≤ go
 e0 : 2 < w0.heap.size
 br : gb ≠ gr
 bo : gb ≠ go
 ro : gr ≠ go
 al : ∀ g, al = some g → W.heap[g]? = some (.cells #[.int .i64 0, .int .i64 0, .int .i64 0, .int .i64 0] 46 (0, 0)) ∧ w0.heap.size ≤ g ∧ g ≠ gb ∧ g ≠ gr ∧ g ≠ go
theorem Sh.cell0 {w0 W : World} {gb gr go : Nat} {x0 x1 x2 x3 : Int} {b : Bool} {al : Option Nat} (h : Sh w0 W gb gr go x0 x1 x2 x3 b al) : W.cell? ⟨gb, 0, none⟩ = some (.int .i64 x0) := (kc_ h.box 0).trans rfl
theorem Sh.cell1 {w0 W : World} {gb gr go : Nat} {x0 x1 x2 x3 : Int} {b : Bool} {al : Option Nat} (h : Sh w0 W gb gr go x0 x1 x2 x3 b al) : W.cell? ⟨gb, 1, none⟩ = some (.int .i64 x1) := (kc_ h.box 1).trans rfl
theorem Sh.cell2 {w0 W : World} {gb gr go : Nat} {x0 x1 x2 x3 : Int} {b : Bool} {al : Option Nat} (h : Sh w0 W gb gr go x0 x1 x2 x3 b al) : W.cell? ⟨gb, 2, none⟩ = some (.int .i64 x2) := (kc_ h.box 2).trans rfl
theorem Sh.cell3 {w0 W : World} {gb gr go : Nat} {x0 x1 x2 x3 : Int} {b : Bool} {al : Option Nat} (h : Sh w0 W gb gr go x0 x1 x2 x3 b al) : W.cell? ⟨gb, 3, none⟩ = some (.int .i64 x3) := (kc_ h.box 3).trans rfl
theorem Sh.alloc {w0 W : World} {gb gr go : Nat} {x0 x1 x2 x3 : Int} {b : Bool} (h : Sh w0 W gb gr go x0 x1 x2 x3 b none) : Sh w0 (W.alloc (.cells #[.int .i64 0, .int .i64 0, .int .i64 0, .int .i64 0] 46)) gb gr go x0 x1 x2 x3 b (some W.heap.size) := by
 have hb : Below W.heap.size W (W.alloc (.cells #[.int .i64 0, .int .i64 0, .int .i64 0, .int .i64 0] 46)) := ba_ (Below.refl _ _) _
 refine ⟨h.laid.below hb, below_then h.below h.below.size hb, (hb.block _ (blk_lt h.box)).trans h.box, (hb.block _ (blk_lt h.res)).trans h.res, (hb.block _ (blk_lt h.ok)).trans h.ok, h.b0, h.r0, h.o0, h.e0, h.br, h.bo, h.ro, ?_⟩
 intro g hg
 obtain rfl := Option.some.inj hg
 exact ⟨heap_alloc_new W _, h.below.size, (nn_ (blk_lt h.box)).symm, (nn_ (blk_lt h.res)).symm, (nn_ (blk_lt h.ok)).symm⟩
theorem Sh.drew {w0 W : World} {gb gr go : Nat} {x0 x1 x2 x3 : Int} {b : Bool} {al : Option Nat} (h : Sh w0 W gb gr go x0 x1 x2 x3 b al) : Sh w0 W.drew gb gr go x0 x1 x2 x3 b al :=
 ⟨h.laid, h.below.drew, h.box, h.res, h.ok, h.b0, h.r0, h.o0, h.e0, h.br, h.bo, h.ro, h.al⟩
/-- One field more. -/
theorem Sh.step {w0 W W1 : World} {gb gr go : Nat} {x0 x1 x2 x3 : Int} {b : Bool} {al : Option Nat} (h : Sh w0 W gb gr go x0 x1 x2 x3 b al) (hb : Below W.heap.size W W1) (c : Bool) : Sh w0 (W1.setCell ⟨go, 0, none⟩ (.bool c)) gb gr go x0 x1 x2 x3 c al := by
 have far : ∀ {g : Nat} {o : Obj}, g ≠ go → W.heap[g]? = some o → (W1.setCell ⟨go, 0, none⟩ (.bool c)).heap[g]? = some o := fun hg ho => (Below.heap_setCell W1 ⟨go, 0, none⟩ _ _ hg).trans ((hb.block _ (blk_lt ho)).trans ho)
 refine ⟨?_, (below_then h.below h.below.size hb).setCell h.o0 _, far h.bo h.box, far h.ro h.res, ?_, h.b0, h.r0, h.o0, h.e0, h.br, h.bo, h.ro, ?_⟩
 ·have q := h.laid.below hb
  unfold LaidE at q ⊢
  have hne : (⟨go, 0, none⟩ : Addr) ≠ ⟨2, 0, none⟩ := by
   intro e
   have e1 : go = 2 := congrArg Addr.block e
   have := h.o0
   have := h.e0
   omega
  rw [World.cell?_setCell_other _ _ _ _ hne]
  exact q
 ·have := blk_set ((hb.block _ (blk_lt h.ok)).trans h.ok) 0 (.bool c)
  rw [this]
  rfl
 ·intro g hg
  obtain ⟨a1, a2, a3, a4, a5⟩ := h.al g hg
  exact ⟨far a5 a1, a2, a3, a4, a5⟩
theorem bx_put4 {W : World} {g : Nat} {t : TypeId} {a0 a1 a2 a3 : Value} (h : W.heap[g]? = some (.cells #[a0, a1, a2, a3] t (0, 0))) (v0 v1 v2 v3 : Value) :
  ((((W.setCell ⟨g, 0, none⟩ v0).setCell ⟨g, 1, none⟩ v1).setCell ⟨g, 2, none⟩ v2).setCell ⟨g, 3, none⟩ v3).heap[g]? = some (.cells #[v0, v1, v2, v3] t (0, 0)) := by
 have h1 := blk_set h 0 v0
 have h2 := blk_set h1 1 v1
 have h3 := blk_set h2 2 v2
 have h4 := blk_set h3 3 v3
 rw [h4]
 rfl
theorem bx_far4 {W : World} {g g' : Nat} {o : Obj} (h : W.heap[g']? = some o) (hg : g' ≠ g) (v0 v1 v2 v3 : Value) :
  ((((W.setCell ⟨g, 0, none⟩ v0).setCell ⟨g, 1, none⟩ v1).setCell ⟨g, 2, none⟩ v2).setCell ⟨g, 3, none⟩ v3).heap[g']? = some o :=
 (Below.heap_setCell _ _ _ _ hg).trans ((Below.heap_setCell _ _ _ _ hg).trans ((Below.heap_setCell _ _ _ _ hg).trans ((Below.heap_setCell _ _ _ _ hg).trans h)))
/-- The made box is laid. -/
theorem Sh.put {w0 W : World} {gb gr go ga : Nat} {x0 x1 x2 x3 : Int} {b : Bool} (h : Sh w0 W gb gr go x0 x1 x2 x3 b (some ga)) (s0 s1 s2 s3 : Int) :
  ((((W.setCell ⟨ga, 0, none⟩ (.int .i64 s0)).setCell ⟨ga, 1, none⟩ (.int .i64 s1)).setCell ⟨ga, 2, none⟩ (.int .i64 s2)).setCell ⟨ga, 3, none⟩ (.int .i64 s3)).heap[gr]? = some (.cells #[.int .i64 0, .int .i64 0, .int .i64 0, .int .i64 0] 46 (0, 0)) ∧
  ((((W.setCell ⟨ga, 0, none⟩ (.int .i64 s0)).setCell ⟨ga, 1, none⟩ (.int .i64 s1)).setCell ⟨ga, 2, none⟩ (.int .i64 s2)).setCell ⟨ga, 3, none⟩ (.int .i64 s3)).heap[go]? = some (.cells #[.bool b] 4 (0, 0)) ∧
  ((((W.setCell ⟨ga, 0, none⟩ (.int .i64 s0)).setCell ⟨ga, 1, none⟩ (.int .i64 s1)).setCell ⟨ga, 2, none⟩ (.int .i64 s2)).setCell ⟨ga, 3, none⟩ (.int .i64 s3)).heap[ga]? = some (.cells #[.int .i64 s0, .int .i64 s1, .int .i64 s2, .int .i64 s3] 46 (0, 0)) ∧
  Below w0.heap.size w0 ((((W.setCell ⟨ga, 0, none⟩ (.int .i64 s0)).setCell ⟨ga, 1, none⟩ (.int .i64 s1)).setCell ⟨ga, 2, none⟩ (.int .i64 s2)).setCell ⟨ga, 3, none⟩ (.int .i64 s3)) := by
 obtain ⟨a1, a2, a3, a4, a5⟩ := h.al ga rfl
 exact ⟨bx_far4 h.res (Ne.symm a4) _ _ _ _, bx_far4 h.ok (Ne.symm a5) _ _ _ _, bx_put4 a1 _ _ _ _, (((h.below.setCell a2 _).setCell a2 _).setCell a2 _).setCell a2 _⟩
/-- The function literal: one field. -/
theorem shifted1 {a by_ s e : Int} (h : fix_Add.f a by_ = some (s, e)) (w0 W : World) (gb gr go : Nat) (x0 x1 x2 x3 : Int) (b : Bool) (al : Option Nat) (hS : Sh w0 W gb gr go x0 x1 x2 x3 b al) :
  Calls Tryd.prog 51 #[.int .i64 a, .int .i64 by_, .pointer (some ⟨go, 0, none⟩)] W fun en w' => en = .returned (.int .i64 s) ∧ Sh w0 w' gb gr go x0 x1 x2 x3 (b && (e == 0)) al := by
 have HA := sd_ (fix_Add.calls a by_ s e W ⟨hS.laid⟩ h)
 have HS := sd_ hS
 have HO := sd_ (show W.cell? ⟨go, 0, none⟩ = some (.bool b) from (kc_ hS.ok 0).trans rfl)
 clear hS h
 cases b with
 | true =>
  obtain ⟨c, hc⟩ : ∃ c, (e == 0) = c := ⟨_, rfl⟩
  rw [hc, Bool.true_and]
  go_enter Tryd.func51, Tryd.ntmps51
  go_wp2_with (go_at_call 52; refine HA.out.mono ?_; rintro en w1 ⟨rfl, hb⟩; have HB := sd_ hb; have ho := pw_cell_below hb HO.out; have hf := kf_ ((hb.block go (blk_lt HS.out.ok)).trans HS.out.ok) 0; clear hb)
  go_ret
  exact ⟨rfl, HS.out.step HB.out c⟩
 | false =>
  rw [Bool.false_and]
  go_enter Tryd.func51, Tryd.ntmps51
  go_wp2_with (go_at_call 52; refine HA.out.mono ?_; rintro en w1 ⟨rfl, hb⟩; have HB := sd_ hb; have ho := pw_cell_below hb HO.out; have hf := kf_ ((hb.block go (blk_lt HS.out.ok)).trans HS.out.ok) 0; clear hb)
  go_ret
  exact ⟨rfl, HS.out.step HB.out false⟩
/-- What comes of a box that is moved. -/
def box_shifted.f (x0 x1 x2 x3 y0 y1 y2 y3 : Int) : Option (Int × Int × Int × Int × Int) :=
 (fix_Add.f x0 y0).bind fun a => (fix_Add.f x1 y1).bind fun b => (fix_Add.f x2 y2).bind fun c => (fix_Add.f x3 y3).bind fun d =>
  if a.2 = 0 ∧ b.2 = 0 ∧ c.2 = 0 ∧ d.2 = 0 then some (a.1, b.1, c.1, d.1, 0) else some (0, 0, 0, 0, 3)
set_option maxHeartbeats 8000000 in
set_option maxRecDepth 100000 in
theorem box_shifted.calls (x0 x1 x2 x3 y0 y1 y2 y3 : Int) (r1 r2 r3 r4 r5 : Int) (w0 : World) (hE : Aside0 (LaidE w0)) (h : box_shifted.f x0 x1 x2 x3 y0 y1 y2 y3 = some (r1, r2, r3, r4, r5)) :
  Calls Tryd.prog 38 #[.agg #[.int .i64 x0, .int .i64 x1, .int .i64 x2, .int .i64 x3], .int .i64 y0, .int .i64 y1, .int .i64 y2, .int .i64 y3] w0 fun e w' => e = .returned (.tuple #[.agg #[.int .i64 r1, .int .i64 r2, .int .i64 r3, .int .i64 r4], .int .i64 r5]) ∧ Below w0.heap.size w0 w' := by
 unfold box_shifted.f at h
 obtain ⟨⟨s0, c0⟩, h0, h⟩ := ob_ h
 obtain ⟨⟨s1, c1⟩, h1, h⟩ := ob_ h
 obtain ⟨⟨s2, c2⟩, h2, h⟩ := ob_ h
 obtain ⟨⟨s3, c3⟩, h3, h⟩ := ob_ h
 replace h : (if c0 = 0 ∧ c1 = 0 ∧ c2 = 0 ∧ c3 = 0 then some (s0, s1, s2, s3, 0) else some (0, 0, 0, 0, 3)) = some (r1, r2, r3, r4, r5) := h
 have H := sd_ h
 clear h
 have hu := Tryd.underlying46
 -- the world ahead of the region
 obtain ⟨gb, hgb⟩ : ∃ gb, gb = w0.heap.size := ⟨_, rfl⟩
 obtain ⟨gr, hgr⟩ : ∃ gr, gr = w0.heap.size + 1 := ⟨_, rfl⟩
 obtain ⟨go, hgo⟩ : ∃ go, go = w0.heap.size + 1 + 1 := ⟨_, rfl⟩
 have hS : Sh w0 (((w0.alloc (.cells #[.int .i64 x0, .int .i64 x1, .int .i64 x2, .int .i64 x3] 46)).alloc (.cells #[.int .i64 0, .int .i64 0, .int .i64 0, .int .i64 0] 46)).alloc (.cells #[.bool true] 4)) gb gr go x0 x1 x2 x3 true none := by
  have b1 : Below w0.heap.size w0 (w0.alloc (.cells #[.int .i64 x0, .int .i64 x1, .int .i64 x2, .int .i64 x3] 46)) := ba_ (Below.refl _ _) _
  have b2 := ba_ b1 (.cells #[.int .i64 0, .int .i64 0, .int .i64 0, .int .i64 0] 46)
  have b3 := ba_ b2 (.cells #[.bool true] 4)
  have n1 := heap_alloc_new w0 (.cells #[.int .i64 x0, .int .i64 x1, .int .i64 x2, .int .i64 x3] 46)
  have n2 := heap_alloc_new (w0.alloc (.cells #[.int .i64 x0, .int .i64 x1, .int .i64 x2, .int .i64 x3] 46)) (.cells #[.int .i64 0, .int .i64 0, .int .i64 0, .int .i64 0] 46)
  have n3 := heap_alloc_new ((w0.alloc (.cells #[.int .i64 x0, .int .i64 x1, .int .i64 x2, .int .i64 x3] 46)).alloc (.cells #[.int .i64 0, .int .i64 0, .int .i64 0, .int .i64 0] 46)) (.cells #[.bool true] 4)
  have z1 : (w0.alloc (.cells #[.int .i64 x0, .int .i64 x1, .int .i64 x2, .int .i64 x3] 46)).heap.size = w0.heap.size + 1 := World.size_alloc ..
  have z2 : ((w0.alloc (.cells #[.int .i64 x0, .int .i64 x1, .int .i64 x2, .int .i64 x3] 46)).alloc (.cells #[.int .i64 0, .int .i64 0, .int .i64 0, .int .i64 0] 46)).heap.size = w0.heap.size + 1 + 1 := by rw [World.size_alloc, z1]
  rw [z1] at n2
  rw [z2] at n3
  rw [hgb, hgr, hgo]
  exact ⟨hE.out.below b3, b3, ka_ (ka_ n1 _) _, ka_ n2 _, n3, by omega, by omega, by omega, wb_ w0 _ hE.out, by omega, by omega, by omega, fun g hg => by cases hg⟩
 have HS0 := sd_ hS
 have C0 := sd_ (fun W b al => shifted1 h0 w0 W gb gr go x0 x1 x2 x3 b al)
 have C1 := sd_ (fun W b al => shifted1 h1 w0 W gb gr go x0 x1 x2 x3 b al)
 have C2 := sd_ (fun W b al => shifted1 h2 w0 W gb gr go x0 x1 x2 x3 b al)
 have C3 := sd_ (fun W b al => shifted1 h3 w0 W gb gr go x0 x1 x2 x3 b al)
 have HG := sd_ (show gb = w0.heap.size ∧ gr = w0.heap.size + 1 ∧ go = w0.heap.size + 1 + 1 from ⟨hgb, hgr, hgo⟩)
 clear hS hE h0 h1 h2 h3 hgb hgr hgo
 go_enter Tryd.func38, Tryd.ntmps38
 go_wp2
 rw [← HG.out.2.2, ← HG.out.2.1, ← HG.out.1]
 generalize ((w0.alloc (.cells #[.int .i64 x0, .int .i64 x1, .int .i64 x2, .int .i64 x3] 46)).alloc (.cells #[.int .i64 0, .int .i64 0, .int .i64 0, .int .i64 0] 46)).alloc (.cells #[.bool true] 4) = W1 at HS0 ⊢
 have HS1 := sd_ HS0.out.drew
 clear HS0 HG
 have HS := HS1
 refine start_ (n := 23) (S := fun w' => w'.cell? ⟨gb, 0, none⟩ = some (.int .i64 x0) ∧ w'.cell? ⟨gb, 1, none⟩ = some (.int .i64 x1) ∧ w'.cell? ⟨gb, 2, none⟩ = some (.int .i64 x2) ∧ w'.cell? ⟨gb, 3, none⟩ = some (.int .i64 x3)) (ds := [22]) #[false, false, false, false, false, false, false, false, false, false, false, false, false, false, false, false, false, false, false, false, false, false, false] (by kernel_rfl) rfl rfl ⟨HS1.out.cell0, HS1.out.cell1, HS1.out.cell2, HS1.out.cell3⟩ (fun hHeld => ?_)
 generalize W1.drew = W2 at *
 refine pure_ (i := 0) (N := some 16) (v := ?_) (a' := ?_) #[true, false, false, false, false, false, false, false, false, false, false, false, false, false, false, false, false, false, false, false, false, false, false] rfl rfl (by kernel_rfl) (fun _ _ _ h => h) (Or.inl ⟨by rfl, ?_⟩) ?_ ?_
 rotate_left; (intro w'; go_simp; with_reducible rfl); rotate_left; (simp only [Act.put, ls_, lz_, lc_, i64_w, i32_w]; rfl)
 refine pure_ (i := 1) (N := some 17) (v := ?_) (a' := ?_) #[true, true, false, false, false, false, false, false, false, false, false, false, false, false, false, false, false, false, false, false, false, false, false] rfl rfl (by kernel_rfl) (fun _ _ _ h => h) (Or.inl ⟨by rfl, ?_⟩) ?_ ?_
 rotate_left; (intro w'; go_simp; with_reducible rfl); rotate_left; (simp only [Act.put, ls_, lz_, lc_, i64_w, i32_w]; rfl)
 refine pure_ (i := 3) (N := some 19) (v := ?_) (a' := ?_) #[true, true, false, true, false, false, false, false, false, false, false, false, false, false, false, false, false, false, false, false, false, false, false] rfl rfl (by kernel_rfl) (fun _ _ _ h => h) (Or.inl ⟨by rfl, ?_⟩) ?_ ?_
 rotate_left; (intro w'; go_simp; with_reducible rfl); rotate_left; (simp only [Act.put, ls_, lz_, lc_, i64_w, i32_w]; rfl)
 refine pure_ (i := 5) (N := some 21) (v := ?_) (a' := ?_) #[true, true, false, true, false, true, false, false, false, false, false, false, false, false, false, false, false, false, false, false, false, false, false] rfl rfl (by kernel_rfl) (fun _ _ _ h => h) (Or.inl ⟨by rfl, ?_⟩) ?_ ?_
 rotate_left; (intro w'; go_simp; with_reducible rfl); rotate_left; (simp only [Act.put, ls_, lz_, lc_, i64_w, i32_w]; rfl)
 refine pure_ (i := 6) (N := some 22) (v := ?_) (a' := ?_) #[true, true, false, true, false, true, true, false, false, false, false, false, false, false, false, false, false, false, false, false, false, false, false] rfl rfl (by kernel_rfl) (fun _ _ _ h => h) (Or.inl ⟨by rfl, ?_⟩) ?_ ?_
 rotate_left; (intro w'; go_simp; with_reducible rfl); rotate_left; (simp only [Act.put, ls_, lz_, lc_, i64_w, i32_w]; rfl)
 refine pure_ (i := 8) (N := some 24) (v := ?_) (a' := ?_) #[true, true, false, true, false, true, true, false, true, false, false, false, false, false, false, false, false, false, false, false, false, false, false] rfl rfl (by kernel_rfl) (fun _ _ _ h => h) (Or.inl ⟨by rfl, ?_⟩) ?_ ?_
 rotate_left; (intro w'; go_simp; with_reducible rfl); rotate_left; (simp only [Act.put, ls_, lz_, lc_, i64_w, i32_w]; rfl)
 refine pure_ (i := 10) (N := some 26) (v := ?_) (a' := ?_) #[true, true, false, true, false, true, true, false, true, false, true, false, false, false, false, false, false, false, false, false, false, false, false] rfl rfl (by kernel_rfl) (fun _ _ _ h => h) (Or.inl ⟨by rfl, ?_⟩) ?_ ?_
 rotate_left; (intro w'; go_simp; with_reducible rfl); rotate_left; (simp only [Act.put, ls_, lz_, lc_, i64_w, i32_w]; rfl)
 refine pure_ (i := 11) (N := some 27) (v := ?_) (a' := ?_) #[true, true, false, true, false, true, true, false, true, false, true, true, false, false, false, false, false, false, false, false, false, false, false] rfl rfl (by kernel_rfl) (fun _ _ _ h => h) (Or.inl ⟨by rfl, ?_⟩) ?_ ?_
 rotate_left; (intro w'; go_simp; with_reducible rfl); rotate_left; (simp only [Act.put, ls_, lz_, lc_, i64_w, i32_w]; rfl)
 refine pure_ (i := 13) (N := some 29) (v := ?_) (a' := ?_) #[true, true, false, true, false, true, true, false, true, false, true, true, false, true, false, false, false, false, false, false, false, false, false] rfl rfl (by kernel_rfl) (fun _ _ _ h => h) (Or.inl ⟨by rfl, ?_⟩) ?_ ?_
 rotate_left; (intro w'; go_simp; with_reducible rfl); rotate_left; (simp only [Act.put, ls_, lz_, lc_, i64_w, i32_w]; rfl)
 refine pure_ (i := 15) (N := some 31) (v := ?_) (a' := ?_) #[true, true, false, true, false, true, true, false, true, false, true, true, false, true, false, true, false, false, false, false, false, false, false] rfl rfl (by kernel_rfl) (fun _ _ _ h => h) (Or.inl ⟨by rfl, ?_⟩) ?_ ?_
 rotate_left; (intro w'; go_simp; with_reducible rfl); rotate_left; (simp only [Act.put, ls_, lz_, lc_, i64_w, i32_w]; rfl)
 refine pure_ (i := 16) (N := some 32) (v := ?_) (a' := ?_) #[true, true, false, true, false, true, true, false, true, false, true, true, false, true, false, true, true, false, false, false, false, false, false] rfl rfl (by kernel_rfl) (fun _ _ _ h => h) (Or.inl ⟨by rfl, ?_⟩) ?_ ?_
 rotate_left; (intro w'; go_simp; with_reducible rfl); rotate_left; (simp only [Act.put, ls_, lz_, lc_, i64_w, i32_w]; rfl)
 refine pure_ (i := 18) (N := some 34) (v := ?_) (a' := ?_) #[true, true, false, true, false, true, true, false, true, false, true, true, false, true, false, true, true, false, true, false, false, false, false] rfl rfl (by kernel_rfl) (fun _ _ _ h => h) (Or.inl ⟨by rfl, ?_⟩) ?_ ?_
 rotate_left; (intro w'; go_simp; with_reducible rfl); rotate_left; (simp only [Act.put, ls_, lz_, lc_, i64_w, i32_w]; rfl)
 refine take_ (i := 2) (N := some 18) (v := ?_) (a' := ?_) #[true, true, true, true, false, true, true, false, true, false, true, true, false, true, false, true, true, false, true, false, false, false, false] rfl rfl (by kernel_rfl) (fun _ _ _ h => h) (Or.inl ⟨by rfl, ?_⟩) hHeld ?_ ?_
 rotate_left
 ·rintro w' ⟨s0, s1, s2, s3⟩
  go_simp
  with_reducible rfl
 rotate_left
 ·simp only [Act.put, ls_, lz_, lc_, i64_w, i32_w]
  rfl
 refine take_ (i := 7) (N := some 23) (v := ?_) (a' := ?_) #[true, true, true, true, false, true, true, true, true, false, true, true, false, true, false, true, true, false, true, false, false, false, false] rfl rfl (by kernel_rfl) (fun _ _ _ h => h) (Or.inl ⟨by rfl, ?_⟩) hHeld ?_ ?_
 rotate_left
 ·rintro w' ⟨s0, s1, s2, s3⟩
  go_simp
  with_reducible rfl
 rotate_left
 ·simp only [Act.put, ls_, lz_, lc_, i64_w, i32_w]
  rfl
 refine take_ (i := 12) (N := some 28) (v := ?_) (a' := ?_) #[true, true, true, true, false, true, true, true, true, false, true, true, true, true, false, true, true, false, true, false, false, false, false] rfl rfl (by kernel_rfl) (fun _ _ _ h => h) (Or.inl ⟨by rfl, ?_⟩) hHeld ?_ ?_
 rotate_left
 ·rintro w' ⟨s0, s1, s2, s3⟩
  go_simp
  with_reducible rfl
 rotate_left
 ·simp only [Act.put, ls_, lz_, lc_, i64_w, i32_w]
  rfl
 refine take_ (i := 17) (N := some 33) (v := ?_) (a' := ?_) #[true, true, true, true, false, true, true, true, true, false, true, true, true, true, false, true, true, true, true, false, false, false, false] rfl rfl (by kernel_rfl) (fun _ _ _ h => h) (Or.inl ⟨by rfl, ?_⟩) hHeld ?_ ?_
 rotate_left
 ·rintro w' ⟨s0, s1, s2, s3⟩
  go_simp
  with_reducible rfl
 rotate_left
 ·simp only [Act.put, ls_, lz_, lc_, i64_w, i32_w]
  rfl
 refine join_ (σ := Nat) 1 #[true, true, true, true, true, true, true, true, true, true, true, true, true, true, true, true, true, true, true, true, true, true, false] (fun (_s : Nat) => [(20, .int .i64 s0), (25, .int .i64 s1), (30, .int .i64 s2), (35, .int .i64 s3), (14, .pointer (some ⟨_s, 0, none⟩)), (36, .agg #[.int .i64 s0, .int .i64 s1, .int .i64 s2, .int .i64 s3])]) (fun _s w' => Sh w0 w' gb gr go x0 x1 x2 x3 ((((true && (c0 == 0)) && (c1 == 0)) && (c2 == 0)) && (c3 == 0)) (some _s)) ?_ ?_
 rotate_left
 ·intro hCont
  refine two_ (i := 4) (j := 21) (Ni := some 20) (Nj := some 14) #[true, true, true, true, true, true, true, true, true, false, true, true, true, true, false, true, true, true, true, false, false, false, false] #[true, true, true, true, false, true, true, true, true, false, true, true, true, true, false, true, true, true, true, false, false, true, false] rfl rfl rfl rfl (by kernel_rfl) (by decide) (by decide) (fun K hK => ?_) (fun K hK => ?_)
  ·skip
   refine goesV_ Tryd.func51 (by kernel_rfl) #[.int .i64 x0, .int .i64 y0, .pointer (some ⟨go, 0, none⟩)] #[.pointer (some ⟨go, 0, none⟩)] (by rfl) rfl rfl rfl ⟨by rfl, by (simp only [lm_, lq_, lx_]; rfl)⟩ ?_
   with_reducible refine (C0.out _ _ _ HS.out).mono ?_
   rintro e w30 ⟨rfl, hs⟩
   refine ⟨_, rfl, ?_⟩
   have HS' := sd_ hs
   clear hs HS
   have HS := HS'
   clear HS'
   refine hK.out _ _ ⟨HS.out.cell0, HS.out.cell1, HS.out.cell2, HS.out.cell3⟩ (fun hHeld => ?_)
   clear hK K
   refine norm_ (a' := ?_) ?_ ?_
   rotate_left
   ·show Act.put _ (some 20) _ = _
    simp only [Act.put, ls_, lz_, lc_, i64_w, i32_w]
    rfl
   refine two_ (i := 9) (j := 21) (Ni := some 25) (Nj := some 14) #[true, true, true, true, true, true, true, true, true, true, true, true, true, true, false, true, true, true, true, false, false, false, false] #[true, true, true, true, true, true, true, true, true, false, true, true, true, true, false, true, true, true, true, false, false, true, false] rfl rfl rfl rfl (by kernel_rfl) (by decide) (by decide) (fun K hK => ?_) (fun K hK => ?_)
   ·skip
    refine goesV_ Tryd.func51 (by kernel_rfl) #[.int .i64 x1, .int .i64 y1, .pointer (some ⟨go, 0, none⟩)] #[.pointer (some ⟨go, 0, none⟩)] (by rfl) rfl rfl rfl ⟨by rfl, by (simp only [lm_, lq_, lx_]; rfl)⟩ ?_
    with_reducible refine (C1.out _ _ _ HS.out).mono ?_
    rintro e w31 ⟨rfl, hs⟩
    refine ⟨_, rfl, ?_⟩
    have HS' := sd_ hs
    clear hs HS
    have HS := HS'
    clear HS'
    refine hK.out _ _ ⟨HS.out.cell0, HS.out.cell1, HS.out.cell2, HS.out.cell3⟩ (fun hHeld => ?_)
    clear hK K
    refine norm_ (a' := ?_) ?_ ?_
    rotate_left
    ·show Act.put _ (some 25) _ = _
     simp only [Act.put, ls_, lz_, lc_, i64_w, i32_w]
     rfl
    refine two_ (i := 14) (j := 21) (Ni := some 30) (Nj := some 14) #[true, true, true, true, true, true, true, true, true, true, true, true, true, true, true, true, true, true, true, false, false, false, false] #[true, true, true, true, true, true, true, true, true, true, true, true, true, true, false, true, true, true, true, false, false, true, false] rfl rfl rfl rfl (by kernel_rfl) (by decide) (by decide) (fun K hK => ?_) (fun K hK => ?_)
    ·skip
     refine goesV_ Tryd.func51 (by kernel_rfl) #[.int .i64 x2, .int .i64 y2, .pointer (some ⟨go, 0, none⟩)] #[.pointer (some ⟨go, 0, none⟩)] (by rfl) rfl rfl rfl ⟨by rfl, by (simp only [lm_, lq_, lx_]; rfl)⟩ ?_
     with_reducible refine (C2.out _ _ _ HS.out).mono ?_
     rintro e w32 ⟨rfl, hs⟩
     refine ⟨_, rfl, ?_⟩
     have HS' := sd_ hs
     clear hs HS
     have HS := HS'
     clear HS'
     refine hK.out _ _ ⟨HS.out.cell0, HS.out.cell1, HS.out.cell2, HS.out.cell3⟩ (fun hHeld => ?_)
     clear hK K
     refine norm_ (a' := ?_) ?_ ?_
     rotate_left
     ·show Act.put _ (some 30) _ = _
      simp only [Act.put, ls_, lz_, lc_, i64_w, i32_w]
      rfl
     refine two_ (i := 19) (j := 21) (Ni := some 35) (Nj := some 14) #[true, true, true, true, true, true, true, true, true, true, true, true, true, true, true, true, true, true, true, true, false, false, false] #[true, true, true, true, true, true, true, true, true, true, true, true, true, true, true, true, true, true, true, false, false, true, false] rfl rfl rfl rfl (by kernel_rfl) (by decide) (by decide) (fun K hK => ?_) (fun K hK => ?_)
     ·skip
      refine goesV_ Tryd.func51 (by kernel_rfl) #[.int .i64 x3, .int .i64 y3, .pointer (some ⟨go, 0, none⟩)] #[.pointer (some ⟨go, 0, none⟩)] (by rfl) rfl rfl rfl ⟨by rfl, by (simp only [lm_, lq_, lx_]; rfl)⟩ ?_
      with_reducible refine (C3.out _ _ _ HS.out).mono ?_
      rintro e w33 ⟨rfl, hs⟩
      refine ⟨_, rfl, ?_⟩
      have HS' := sd_ hs
      clear hs HS
      have HS := HS'
      clear HS'
      refine hK.out _ _ ⟨HS.out.cell0, HS.out.cell1, HS.out.cell2, HS.out.cell3⟩ (fun hHeld => ?_)
      clear hK K
      refine norm_ (a' := ?_) ?_ ?_
      rotate_left
      ·show Act.put _ (some 35) _ = _
       simp only [Act.put, ls_, lz_, lc_, i64_w, i32_w]
       rfl
      refine pure_ (i := 20) (N := some 36) (v := ?_) (a' := ?_) #[true, true, true, true, true, true, true, true, true, true, true, true, true, true, true, true, true, true, true, true, true, false, false] rfl rfl (by kernel_rfl) (fun _ _ _ h => h) (Or.inl ⟨by rfl, ?_⟩) ?_ ?_
      rotate_left; (intro w'; go_simp; with_reducible rfl); rotate_left; (simp only [Act.put, ls_, lz_, lc_, i64_w, i32_w]; rfl)
      refine one_ (i := 21) (N := some 14) #[true, true, true, true, true, true, true, true, true, true, true, true, true, true, true, true, true, true, true, true, true, true, false] rfl rfl (by kernel_rfl) (by decide) (fun K hK => ?_)
      refine value_ (w1 := ?_) (v := ?_) (by rfl) rfl ?_ ?_
      rotate_left 2
      ·go_simp
       constructor
       ·rfl
       ·rfl
      have HS' := sd_ (Sh.alloc HS.out)
      clear HS
      have HS := HS'
      clear HS'
      refine hK.out _ _ ⟨HS.out.cell0, HS.out.cell1, HS.out.cell2, HS.out.cell3⟩ (fun hHeld => ?_)
      clear hK K
      refine norm_ (a' := ?_) ?_ ?_
      rotate_left
      ·show Act.put _ (some 14) _ = _
       simp only [Act.put, ls_, lz_, lc_, i64_w, i32_w]
       rfl
      exact norm_ (by simp only [putAll, Act.put, ls_, lz_, lc_]) (hCont _ _ HS.out)
     ·skip
      refine value_ (w1 := ?_) (v := ?_) (by rfl) rfl ?_ ?_
      rotate_left 2
      ·go_simp
       constructor
       ·rfl
       ·rfl
      have HS' := sd_ (Sh.alloc HS.out)
      clear HS
      have HS := HS'
      clear HS'
      refine hK.out _ _ ⟨HS.out.cell0, HS.out.cell1, HS.out.cell2, HS.out.cell3⟩ (fun hHeld => ?_)
      clear hK K
      refine norm_ (a' := ?_) ?_ ?_
      rotate_left
      ·show Act.put _ (some 14) _ = _
       simp only [Act.put, ls_, lz_, lc_, i64_w, i32_w]
       rfl
      refine one_ (i := 19) (N := some 35) #[true, true, true, true, true, true, true, true, true, true, true, true, true, true, true, true, true, true, true, true, false, true, false] rfl rfl (by kernel_rfl) (by decide) (fun K hK => ?_)
      refine goesV_ Tryd.func51 (by kernel_rfl) #[.int .i64 x3, .int .i64 y3, .pointer (some ⟨go, 0, none⟩)] #[.pointer (some ⟨go, 0, none⟩)] (by rfl) rfl rfl rfl ⟨by rfl, by (simp only [lm_, lq_, lx_]; rfl)⟩ ?_
      with_reducible refine (C3.out _ _ _ HS.out).mono ?_
      rintro e w33 ⟨rfl, hs⟩
      refine ⟨_, rfl, ?_⟩
      have HS' := sd_ hs
      clear hs HS
      have HS := HS'
      clear HS'
      refine hK.out _ _ ⟨HS.out.cell0, HS.out.cell1, HS.out.cell2, HS.out.cell3⟩ (fun hHeld => ?_)
      clear hK K
      refine norm_ (a' := ?_) ?_ ?_
      rotate_left
      ·show Act.put _ (some 35) _ = _
       simp only [Act.put, ls_, lz_, lc_, i64_w, i32_w]
       rfl
      refine pure_ (i := 20) (N := some 36) (v := ?_) (a' := ?_) #[true, true, true, true, true, true, true, true, true, true, true, true, true, true, true, true, true, true, true, true, true, true, false] rfl rfl (by kernel_rfl) (fun _ _ _ h => h) (Or.inl ⟨by rfl, ?_⟩) ?_ ?_
      rotate_left; (intro w'; go_simp; with_reducible rfl); rotate_left; (simp only [Act.put, ls_, lz_, lc_, i64_w, i32_w]; rfl)
      exact norm_ (by simp only [putAll, Act.put, ls_, lz_, lc_]) (hCont _ _ HS.out)
    ·skip
     refine value_ (w1 := ?_) (v := ?_) (by rfl) rfl ?_ ?_
     rotate_left 2
     ·go_simp
      constructor
      ·rfl
      ·rfl
     have HS' := sd_ (Sh.alloc HS.out)
     clear HS
     have HS := HS'
     clear HS'
     refine hK.out _ _ ⟨HS.out.cell0, HS.out.cell1, HS.out.cell2, HS.out.cell3⟩ (fun hHeld => ?_)
     clear hK K
     refine norm_ (a' := ?_) ?_ ?_
     rotate_left
     ·show Act.put _ (some 14) _ = _
      simp only [Act.put, ls_, lz_, lc_, i64_w, i32_w]
      rfl
     refine one_ (i := 14) (N := some 30) #[true, true, true, true, true, true, true, true, true, true, true, true, true, true, true, true, true, true, true, false, false, true, false] rfl rfl (by kernel_rfl) (by decide) (fun K hK => ?_)
     refine goesV_ Tryd.func51 (by kernel_rfl) #[.int .i64 x2, .int .i64 y2, .pointer (some ⟨go, 0, none⟩)] #[.pointer (some ⟨go, 0, none⟩)] (by rfl) rfl rfl rfl ⟨by rfl, by (simp only [lm_, lq_, lx_]; rfl)⟩ ?_
     with_reducible refine (C2.out _ _ _ HS.out).mono ?_
     rintro e w32 ⟨rfl, hs⟩
     refine ⟨_, rfl, ?_⟩
     have HS' := sd_ hs
     clear hs HS
     have HS := HS'
     clear HS'
     refine hK.out _ _ ⟨HS.out.cell0, HS.out.cell1, HS.out.cell2, HS.out.cell3⟩ (fun hHeld => ?_)
     clear hK K
     refine norm_ (a' := ?_) ?_ ?_
     rotate_left
     ·show Act.put _ (some 30) _ = _
      simp only [Act.put, ls_, lz_, lc_, i64_w, i32_w]
      rfl
     refine one_ (i := 19) (N := some 35) #[true, true, true, true, true, true, true, true, true, true, true, true, true, true, true, true, true, true, true, true, false, true, false] rfl rfl (by kernel_rfl) (by decide) (fun K hK => ?_)
     refine goesV_ Tryd.func51 (by kernel_rfl) #[.int .i64 x3, .int .i64 y3, .pointer (some ⟨go, 0, none⟩)] #[.pointer (some ⟨go, 0, none⟩)] (by rfl) rfl rfl rfl ⟨by rfl, by (simp only [lm_, lq_, lx_]; rfl)⟩ ?_
     with_reducible refine (C3.out _ _ _ HS.out).mono ?_
     rintro e w33 ⟨rfl, hs⟩
     refine ⟨_, rfl, ?_⟩
     have HS' := sd_ hs
     clear hs HS
     have HS := HS'
     clear HS'
     refine hK.out _ _ ⟨HS.out.cell0, HS.out.cell1, HS.out.cell2, HS.out.cell3⟩ (fun hHeld => ?_)
     clear hK K
     refine norm_ (a' := ?_) ?_ ?_
     rotate_left
     ·show Act.put _ (some 35) _ = _
      simp only [Act.put, ls_, lz_, lc_, i64_w, i32_w]
      rfl
     refine pure_ (i := 20) (N := some 36) (v := ?_) (a' := ?_) #[true, true, true, true, true, true, true, true, true, true, true, true, true, true, true, true, true, true, true, true, true, true, false] rfl rfl (by kernel_rfl) (fun _ _ _ h => h) (Or.inl ⟨by rfl, ?_⟩) ?_ ?_
     rotate_left; (intro w'; go_simp; with_reducible rfl); rotate_left; (simp only [Act.put, ls_, lz_, lc_, i64_w, i32_w]; rfl)
     exact norm_ (by simp only [putAll, Act.put, ls_, lz_, lc_]) (hCont _ _ HS.out)
   ·skip
    refine value_ (w1 := ?_) (v := ?_) (by rfl) rfl ?_ ?_
    rotate_left 2
    ·go_simp
     constructor
     ·rfl
     ·rfl
    have HS' := sd_ (Sh.alloc HS.out)
    clear HS
    have HS := HS'
    clear HS'
    refine hK.out _ _ ⟨HS.out.cell0, HS.out.cell1, HS.out.cell2, HS.out.cell3⟩ (fun hHeld => ?_)
    clear hK K
    refine norm_ (a' := ?_) ?_ ?_
    rotate_left
    ·show Act.put _ (some 14) _ = _
     simp only [Act.put, ls_, lz_, lc_, i64_w, i32_w]
     rfl
    refine one_ (i := 9) (N := some 25) #[true, true, true, true, true, true, true, true, true, true, true, true, true, true, false, true, true, true, true, false, false, true, false] rfl rfl (by kernel_rfl) (by decide) (fun K hK => ?_)
    refine goesV_ Tryd.func51 (by kernel_rfl) #[.int .i64 x1, .int .i64 y1, .pointer (some ⟨go, 0, none⟩)] #[.pointer (some ⟨go, 0, none⟩)] (by rfl) rfl rfl rfl ⟨by rfl, by (simp only [lm_, lq_, lx_]; rfl)⟩ ?_
    with_reducible refine (C1.out _ _ _ HS.out).mono ?_
    rintro e w31 ⟨rfl, hs⟩
    refine ⟨_, rfl, ?_⟩
    have HS' := sd_ hs
    clear hs HS
    have HS := HS'
    clear HS'
    refine hK.out _ _ ⟨HS.out.cell0, HS.out.cell1, HS.out.cell2, HS.out.cell3⟩ (fun hHeld => ?_)
    clear hK K
    refine norm_ (a' := ?_) ?_ ?_
    rotate_left
    ·show Act.put _ (some 25) _ = _
     simp only [Act.put, ls_, lz_, lc_, i64_w, i32_w]
     rfl
    refine one_ (i := 14) (N := some 30) #[true, true, true, true, true, true, true, true, true, true, true, true, true, true, true, true, true, true, true, false, false, true, false] rfl rfl (by kernel_rfl) (by decide) (fun K hK => ?_)
    refine goesV_ Tryd.func51 (by kernel_rfl) #[.int .i64 x2, .int .i64 y2, .pointer (some ⟨go, 0, none⟩)] #[.pointer (some ⟨go, 0, none⟩)] (by rfl) rfl rfl rfl ⟨by rfl, by (simp only [lm_, lq_, lx_]; rfl)⟩ ?_
    with_reducible refine (C2.out _ _ _ HS.out).mono ?_
    rintro e w32 ⟨rfl, hs⟩
    refine ⟨_, rfl, ?_⟩
    have HS' := sd_ hs
    clear hs HS
    have HS := HS'
    clear HS'
    refine hK.out _ _ ⟨HS.out.cell0, HS.out.cell1, HS.out.cell2, HS.out.cell3⟩ (fun hHeld => ?_)
    clear hK K
    refine norm_ (a' := ?_) ?_ ?_
    rotate_left
    ·show Act.put _ (some 30) _ = _
     simp only [Act.put, ls_, lz_, lc_, i64_w, i32_w]
     rfl
    refine one_ (i := 19) (N := some 35) #[true, true, true, true, true, true, true, true, true, true, true, true, true, true, true, true, true, true, true, true, false, true, false] rfl rfl (by kernel_rfl) (by decide) (fun K hK => ?_)
    refine goesV_ Tryd.func51 (by kernel_rfl) #[.int .i64 x3, .int .i64 y3, .pointer (some ⟨go, 0, none⟩)] #[.pointer (some ⟨go, 0, none⟩)] (by rfl) rfl rfl rfl ⟨by rfl, by (simp only [lm_, lq_, lx_]; rfl)⟩ ?_
    with_reducible refine (C3.out _ _ _ HS.out).mono ?_
    rintro e w33 ⟨rfl, hs⟩
    refine ⟨_, rfl, ?_⟩
    have HS' := sd_ hs
    clear hs HS
    have HS := HS'
    clear HS'
    refine hK.out _ _ ⟨HS.out.cell0, HS.out.cell1, HS.out.cell2, HS.out.cell3⟩ (fun hHeld => ?_)
    clear hK K
    refine norm_ (a' := ?_) ?_ ?_
    rotate_left
    ·show Act.put _ (some 35) _ = _
     simp only [Act.put, ls_, lz_, lc_, i64_w, i32_w]
     rfl
    refine pure_ (i := 20) (N := some 36) (v := ?_) (a' := ?_) #[true, true, true, true, true, true, true, true, true, true, true, true, true, true, true, true, true, true, true, true, true, true, false] rfl rfl (by kernel_rfl) (fun _ _ _ h => h) (Or.inl ⟨by rfl, ?_⟩) ?_ ?_
    rotate_left; (intro w'; go_simp; with_reducible rfl); rotate_left; (simp only [Act.put, ls_, lz_, lc_, i64_w, i32_w]; rfl)
    exact norm_ (by simp only [putAll, Act.put, ls_, lz_, lc_]) (hCont _ _ HS.out)
  ·skip
   refine value_ (w1 := ?_) (v := ?_) (by rfl) rfl ?_ ?_
   rotate_left 2
   ·go_simp
    constructor
    ·rfl
    ·rfl
   have HS' := sd_ (Sh.alloc HS.out)
   clear HS
   have HS := HS'
   clear HS'
   refine hK.out _ _ ⟨HS.out.cell0, HS.out.cell1, HS.out.cell2, HS.out.cell3⟩ (fun hHeld => ?_)
   clear hK K
   refine norm_ (a' := ?_) ?_ ?_
   rotate_left
   ·show Act.put _ (some 14) _ = _
    simp only [Act.put, ls_, lz_, lc_, i64_w, i32_w]
    rfl
   refine one_ (i := 4) (N := some 20) #[true, true, true, true, true, true, true, true, true, false, true, true, true, true, false, true, true, true, true, false, false, true, false] rfl rfl (by kernel_rfl) (by decide) (fun K hK => ?_)
   refine goesV_ Tryd.func51 (by kernel_rfl) #[.int .i64 x0, .int .i64 y0, .pointer (some ⟨go, 0, none⟩)] #[.pointer (some ⟨go, 0, none⟩)] (by rfl) rfl rfl rfl ⟨by rfl, by (simp only [lm_, lq_, lx_]; rfl)⟩ ?_
   with_reducible refine (C0.out _ _ _ HS.out).mono ?_
   rintro e w30 ⟨rfl, hs⟩
   refine ⟨_, rfl, ?_⟩
   have HS' := sd_ hs
   clear hs HS
   have HS := HS'
   clear HS'
   refine hK.out _ _ ⟨HS.out.cell0, HS.out.cell1, HS.out.cell2, HS.out.cell3⟩ (fun hHeld => ?_)
   clear hK K
   refine norm_ (a' := ?_) ?_ ?_
   rotate_left
   ·show Act.put _ (some 20) _ = _
    simp only [Act.put, ls_, lz_, lc_, i64_w, i32_w]
    rfl
   refine one_ (i := 9) (N := some 25) #[true, true, true, true, true, true, true, true, true, true, true, true, true, true, false, true, true, true, true, false, false, true, false] rfl rfl (by kernel_rfl) (by decide) (fun K hK => ?_)
   refine goesV_ Tryd.func51 (by kernel_rfl) #[.int .i64 x1, .int .i64 y1, .pointer (some ⟨go, 0, none⟩)] #[.pointer (some ⟨go, 0, none⟩)] (by rfl) rfl rfl rfl ⟨by rfl, by (simp only [lm_, lq_, lx_]; rfl)⟩ ?_
   with_reducible refine (C1.out _ _ _ HS.out).mono ?_
   rintro e w31 ⟨rfl, hs⟩
   refine ⟨_, rfl, ?_⟩
   have HS' := sd_ hs
   clear hs HS
   have HS := HS'
   clear HS'
   refine hK.out _ _ ⟨HS.out.cell0, HS.out.cell1, HS.out.cell2, HS.out.cell3⟩ (fun hHeld => ?_)
   clear hK K
   refine norm_ (a' := ?_) ?_ ?_
   rotate_left
   ·show Act.put _ (some 25) _ = _
    simp only [Act.put, ls_, lz_, lc_, i64_w, i32_w]
    rfl
   refine one_ (i := 14) (N := some 30) #[true, true, true, true, true, true, true, true, true, true, true, true, true, true, true, true, true, true, true, false, false, true, false] rfl rfl (by kernel_rfl) (by decide) (fun K hK => ?_)
   refine goesV_ Tryd.func51 (by kernel_rfl) #[.int .i64 x2, .int .i64 y2, .pointer (some ⟨go, 0, none⟩)] #[.pointer (some ⟨go, 0, none⟩)] (by rfl) rfl rfl rfl ⟨by rfl, by (simp only [lm_, lq_, lx_]; rfl)⟩ ?_
   with_reducible refine (C2.out _ _ _ HS.out).mono ?_
   rintro e w32 ⟨rfl, hs⟩
   refine ⟨_, rfl, ?_⟩
   have HS' := sd_ hs
   clear hs HS
   have HS := HS'
   clear HS'
   refine hK.out _ _ ⟨HS.out.cell0, HS.out.cell1, HS.out.cell2, HS.out.cell3⟩ (fun hHeld => ?_)
   clear hK K
   refine norm_ (a' := ?_) ?_ ?_
   rotate_left
   ·show Act.put _ (some 30) _ = _
    simp only [Act.put, ls_, lz_, lc_, i64_w, i32_w]
    rfl
   refine one_ (i := 19) (N := some 35) #[true, true, true, true, true, true, true, true, true, true, true, true, true, true, true, true, true, true, true, true, false, true, false] rfl rfl (by kernel_rfl) (by decide) (fun K hK => ?_)
   refine goesV_ Tryd.func51 (by kernel_rfl) #[.int .i64 x3, .int .i64 y3, .pointer (some ⟨go, 0, none⟩)] #[.pointer (some ⟨go, 0, none⟩)] (by rfl) rfl rfl rfl ⟨by rfl, by (simp only [lm_, lq_, lx_]; rfl)⟩ ?_
   with_reducible refine (C3.out _ _ _ HS.out).mono ?_
   rintro e w33 ⟨rfl, hs⟩
   refine ⟨_, rfl, ?_⟩
   have HS' := sd_ hs
   clear hs HS
   have HS := HS'
   clear HS'
   refine hK.out _ _ ⟨HS.out.cell0, HS.out.cell1, HS.out.cell2, HS.out.cell3⟩ (fun hHeld => ?_)
   clear hK K
   refine norm_ (a' := ?_) ?_ ?_
   rotate_left
   ·show Act.put _ (some 35) _ = _
    simp only [Act.put, ls_, lz_, lc_, i64_w, i32_w]
    rfl
   refine pure_ (i := 20) (N := some 36) (v := ?_) (a' := ?_) #[true, true, true, true, true, true, true, true, true, true, true, true, true, true, true, true, true, true, true, true, true, true, false] rfl rfl (by kernel_rfl) (fun _ _ _ h => h) (Or.inl ⟨by rfl, ?_⟩) ?_ ?_
   rotate_left; (intro w'; go_simp; with_reducible rfl); rotate_left; (simp only [Act.put, ls_, lz_, lc_, i64_w, i32_w]; rfl)
   exact norm_ (by simp only [putAll, Act.put, ls_, lz_, lc_]) (hCont _ _ HS.out)
 rintro ga W3 hs
 have HS := sd_ hs
 clear hs
 have hga := (HS.out.al ga rfl).1
 have hga0 : W3.cell? ⟨ga, 0, none⟩ = some (.int .i64 0) := (kc_ hga 0).trans rfl
 have hga1 : W3.cell? ⟨ga, 1, none⟩ = some (.int .i64 0) := (kc_ hga 1).trans rfl
 have hga2 : W3.cell? ⟨ga, 2, none⟩ = some (.int .i64 0) := (kc_ hga 2).trans rfl
 have hga3 : W3.cell? ⟨ga, 3, none⟩ = some (.int .i64 0) := (kc_ hga 3).trans rfl
 have hgf0 := kf_ hga 0
 have hgf1 := kf_ hga 1
 have hgf2 := kf_ hga 2
 have hgf3 := kf_ hga 3
 clear hga
 have hHeld := (⟨HS.out.cell0, HS.out.cell1, HS.out.cell2, HS.out.cell3⟩ : _ ∧ _ ∧ _ ∧ _)
 refine norm_ (a' := ?_) ?_ ?_
 rotate_left
 ·simp only [putAll, Act.put, ls_, lz_, lc_]
  rfl
 refine last_ (i := 22) (N := none) #[true, true, true, true, true, true, true, true, true, true, true, true, true, true, true, true, true, true, true, true, true, true, true] rfl rfl (by kernel_rfl) (by decide) (fun K hK => ?_)
 refine skip_ (w1 := ?_) (by rfl) rfl ?_ ?_
 rotate_left
 ·go_simp
  rfl
 refine hK.out _ _ ?_
 clear hK K
 refine done_ (by kernel_rfl) ?_
 clear hga0 hga1 hga2 hga3 hgf0 hgf1 hgf2 hgf3 hHeld C0 C1 C2 C3
 obtain ⟨k1, k2, k3, k4⟩ := HS.out.put s0 s1 s2 s3
 have K1 := sd_ k1
 have K2 := sd_ k2
 have K3 := sd_ k3
 have K4 := sd_ k4
 have R0 := HS.out.r0
 clear k1 k2 k3 k4 HS HS1
 generalize (((W3.setCell ⟨ga, 0, none⟩ (.int .i64 s0)).setCell ⟨ga, 1, none⟩ (.int .i64 s1)).setCell ⟨ga, 2, none⟩ (.int .i64 s2)).setCell ⟨ga, 3, none⟩ (.int .i64 s3) = W4 at K1 K2 K3 K4 ⊢
 have f0 := kf_ K1.out 0
 have f1 := kf_ K1.out 1
 have f2 := kf_ K1.out 2
 have f3 := kf_ K1.out 3
 have z0 : W4.cell? ⟨gr, 0, none⟩ = some (.int .i64 0) := (kc_ K1.out 0).trans rfl
 have z1 : W4.cell? ⟨gr, 1, none⟩ = some (.int .i64 0) := (kc_ K1.out 1).trans rfl
 have z2 : W4.cell? ⟨gr, 2, none⟩ = some (.int .i64 0) := (kc_ K1.out 2).trans rfl
 have z3 : W4.cell? ⟨gr, 3, none⟩ = some (.int .i64 0) := (kc_ K1.out 3).trans rfl
 by_cases c : c0 = 0 ∧ c1 = 0 ∧ c2 = 0 ∧ c3 = 0
 ·obtain ⟨rfl, rfl, rfl, rfl, rfl⟩ : s0 = r1 ∧ s1 = r2 ∧ s2 = r3 ∧ s3 = r4 ∧ 0 = r5 := by have q := H.out; rw [if_pos c] at q; simpa using q
  have ho : W4.cell? ⟨go, 0, none⟩ = some (.bool true) := (kc_ K2.out 0).trans (by obtain ⟨rfl, rfl, rfl, rfl⟩ := c; rfl)
  have y0 : W4.cell? ⟨ga, 0, none⟩ = some (.int .i64 s0) := (kc_ K3.out 0).trans rfl
  have y1 : W4.cell? ⟨ga, 1, none⟩ = some (.int .i64 s1) := (kc_ K3.out 1).trans rfl
  have y2 : W4.cell? ⟨ga, 2, none⟩ = some (.int .i64 s2) := (kc_ K3.out 2).trans rfl
  have y3 : W4.cell? ⟨ga, 3, none⟩ = some (.int .i64 s3) := (kc_ K3.out 3).trans rfl
  clear c H
  go_wp2
  refine bodyPost_ret (results_ct rfl _ _ gr 46 #[.int .i64 s0, .int .i64 s1, .int .i64 s2, .int .i64 s3] (0, 0) _ rfl (bx_put4 K1.out _ _ _ _) hu rfl (by kernel_rfl)) rfl ?_
  exact ⟨rfl, (((K4.out.setCell R0 _).setCell R0 _).setCell R0 _).setCell R0 _⟩
 ·obtain ⟨rfl, rfl, rfl, rfl, rfl⟩ : 0 = r1 ∧ 0 = r2 ∧ 0 = r3 ∧ 0 = r4 ∧ 3 = r5 := by have q := H.out; rw [if_neg c] at q; simpa using q
  have ho : W4.cell? ⟨go, 0, none⟩ = some (.bool false) := (kc_ K2.out 0).trans (by
   have e : ((((true && (c0 == 0)) && (c1 == 0)) && (c2 == 0)) && (c3 == 0)) = false := by
    apply bf_
    intro q
    simp only [Bool.and_eq_true, beq_iff_eq] at q
    exact c ⟨q.1.1.1.2, q.1.1.2, q.1.2, q.2⟩
   rw [e]
   rfl)
  clear c H
  go_wp2
  refine bodyPost_ret (results_ct rfl _ _ gr 46 #[.int .i64 0, .int .i64 0, .int .i64 0, .int .i64 0] (0, 0) _ rfl (bx_put4 K1.out _ _ _ _) hu rfl (by kernel_rfl)) rfl ?_
  exact ⟨rfl, (((K4.out.setCell R0 _).setCell R0 _).setCell R0 _).setCell R0 _⟩

/-! ### box_Move: function 29 -/
def box_Move.f (a0_0 : Int) (a0_1 : Int) (a0_2 : Int) (a0_3 : Int) (a1 : Int) (a2 : Int) : Option (Int × Int × Int × Int × Int) := (box_Check.f a0_0 a0_1 a0_2 a0_3).bind fun t167 => (if t167 = true then ((box_shifted.f a0_0 a0_1 a0_2 a0_3 a1 a2 a1 a2).bind fun bt168 => (some (bt168.1, bt168.2.1, bt168.2.2.1, bt168.2.2.2.1, bt168.2.2.2.2))) else (some (0, 0, 0, 0, 2)))
set_option maxHeartbeats 8000000 in
set_option maxRecDepth 100000 in
theorem box_Move.calls (a0_0 : Int) (a0_1 : Int) (a0_2 : Int) (a0_3 : Int) (a1 : Int) (a2 : Int) (r1 : Int) (r2 : Int) (r3 : Int) (r4 : Int) (r5 : Int) (w : World) (hE : Aside0 (LaidE w)) (h : box_Move.f a0_0 a0_1 a0_2 a0_3 a1 a2 = some (r1, r2, r3, r4, r5)) :
  Calls Tryd.prog 29 #[.agg #[.int .i64 a0_0, .int .i64 a0_1, .int .i64 a0_2, .int .i64 a0_3], .int .i64 a1, .int .i64 a2] w fun e w' => e = .returned (.tuple #[.agg #[.int .i64 r1, .int .i64 r2, .int .i64 r3, .int .i64 r4], .int .i64 r5]) ∧ Below w.heap.size w w' := by
 have hu46 := Tryd.underlying46
 have HB := sd_ (Below.refl w.heap.size w)
 have H : ((box_Check.f a0_0 a0_1 a0_2 a0_3).bind fun t167 => (if t167 = true then ((box_shifted.f a0_0 a0_1 a0_2 a0_3 a1 a2 a1 a2).bind fun bt168 => (some (bt168.1, bt168.2.1, bt168.2.2.1, bt168.2.2.2.1, bt168.2.2.2.2))) else (some (0, 0, 0, 0, 2)))) = some (r1, r2, r3, r4, r5) := h
 clear h
 replace H := ob_ H
 obtain ⟨t167, A40, H⟩ := H
 replace H : (if t167 = true then ((box_shifted.f a0_0 a0_1 a0_2 a0_3 a1 a2 a1 a2).bind fun bt168 => (some (bt168.1, bt168.2.1, bt168.2.2.1, bt168.2.2.2.1, bt168.2.2.2.2))) else (some (0, 0, 0, 0, 2))) = some (r1, r2, r3, r4, r5) := H
 have A4 := sd_ A40
 clear A40
 by_cases c5 : t167 = true
 ·subst c5
  have H1 : ((box_shifted.f a0_0 a0_1 a0_2 a0_3 a1 a2 a1 a2).bind fun bt168 => (some (bt168.1, bt168.2.1, bt168.2.2.1, bt168.2.2.2.1, bt168.2.2.2.2))) = some (r1, r2, r3, r4, r5) := by rw [if_pos rfl] at H; exact H
  clear H; have H := H1; clear H1
  replace H := ob_ H
  obtain ⟨⟨t168, t169, t170, t171, t172⟩, A60, H⟩ := H
  replace H : (some (t168, t169, t170, t171, t172)) = some (r1, r2, r3, r4, r5) := H
  have A6 := sd_ A60
  clear A60
  simp only [Option.some.injEq, Prod.mk.injEq] at H
  obtain ⟨rfl, rfl, rfl, rfl, rfl⟩ := H
  go_enter Tryd.func29, Tryd.ntmps29
  go_wp2_with (first | ((with_reducible refine gate_dst (N := 3) rfl ?_); refine box_event ?hg (N := 3) ?hd (cs := #[.int .i64 a0_0, .int .i64 a0_1, .int .i64 a0_2, .int .i64 a0_3]) (t := 46) ?hr ?_; (case hd => rfl); (case hg => rfl); (case hr => first | (go_simp; done) | (go_simp; rfl)); intro gb165 hg w7 hbox hb; have BK165 := sd_ hbox; have GW165 := gw_ HB e0_ hg; have GE165 := GW165; replace HB := hb_ HB e0_ hb; clear hb hbox hg) | ((with_reducible refine gate_dst (N := 6) rfl ?_); refine box_event ?hg (N := 6) ?hd (cs := #[.int .i64 0, .int .i64 0, .int .i64 0, .int .i64 0]) (t := 46) ?hr ?_; (case hd => rfl); (case hg => rfl); (case hr => first | (go_simp; done) | (go_simp; rfl)); intro gb166 hg w8 hbox hb; have BK166 := sd_ hbox; have GW166 := gw_ HB (e_ GE165 e0_) hg; have GE166 := GW166; have NB165_166 := nb_ BK165 hg; have NB166_165 := sy_ NB165_166; replace BK165 := kb_ BK165 hb; replace HB := hb_ HB (e_ GE165 e0_) hb; clear hb hbox hg; have hnb9 := NB165_166.out; have hnc9 := NB166_165.out; have hcz10_0 : w8.cell? ⟨gb165, 0, none⟩ = some (.int .i64 a0_0) := (kc_ BK165.out 0).trans rfl; have hcz10_1 : w8.cell? ⟨gb165, 1, none⟩ = some (.int .i64 a0_1) := (kc_ BK165.out 1).trans rfl; have hcz10_2 : w8.cell? ⟨gb165, 2, none⟩ = some (.int .i64 a0_2) := (kc_ BK165.out 2).trans rfl; have hcz10_3 : w8.cell? ⟨gb165, 3, none⟩ = some (.int .i64 a0_3) := (kc_ BK165.out 3).trans rfl; have hfz10_0 := kf_ BK165.out 0; have hfz10_1 := kf_ BK165.out 1; have hfz10_2 := kf_ BK165.out 2; have hfz10_3 := kf_ BK165.out 3) | ((with_reducible refine gate_callee (f := 37) rfl ?_); refine goesL_ (some 9) rfl rfl Tryd.func37 (by kernel_rfl) rfl #[.agg #[.int .i64 a0_0, .int .i64 a0_1, .int .i64 a0_2, .int .i64 a0_3]] rfl (by (try simp only [lm_, lq_, lx_]); first | done | rfl | (simp only [ld_, lt_]; rfl)) ?_; (with_reducible refine (box_Check.calls a0_0 a0_1 a0_2 a0_3 true _ A4.out).mono ?_); rintro e w11 ⟨rfl, hb⟩; refine ⟨_, rfl, ?_⟩; replace BK165 := kb_ BK165 hb; replace BK166 := kb_ BK166 hb; replace HB := hb_ HB (e_ GE165 (e_ GE166 e0_)) hb; (try clear hb); (try clear hb2); (try clear hk); (try clear hi); have hcz12_0 : w11.cell? ⟨gb165, 0, none⟩ = some (.int .i64 a0_0) := (kc_ BK165.out 0).trans rfl; have hcz12_1 : w11.cell? ⟨gb165, 1, none⟩ = some (.int .i64 a0_1) := (kc_ BK165.out 1).trans rfl; have hcz12_2 : w11.cell? ⟨gb165, 2, none⟩ = some (.int .i64 a0_2) := (kc_ BK165.out 2).trans rfl; have hcz12_3 : w11.cell? ⟨gb165, 3, none⟩ = some (.int .i64 a0_3) := (kc_ BK165.out 3).trans rfl; have hfz12_0 := kf_ BK165.out 0; have hfz12_1 := kf_ BK165.out 1; have hfz12_2 := kf_ BK165.out 2; have hfz12_3 := kf_ BK165.out 3) | ((with_reducible refine gate_callee (f := 38) rfl ?_); refine goesL_ (some 17) rfl rfl Tryd.func38 (by kernel_rfl) rfl #[.agg #[.int .i64 a0_0, .int .i64 a0_1, .int .i64 a0_2, .int .i64 a0_3], .int .i64 a1, .int .i64 a2, .int .i64 a1, .int .i64 a2] rfl (by (try simp only [lm_, lq_, lx_]); first | done | rfl | (simp only [ld_, lt_]; rfl)) ?_; (with_reducible refine (box_shifted.calls a0_0 a0_1 a0_2 a0_3 a1 a2 a1 a2 t168 t169 t170 t171 t172 _ ?side1 A6.out).mono ?_); (case side1 => first | (with_reducible exact hE) | exact sd_ (LaidE.below hE.out (bb_ HB.out (e_ GE165 (e_ GE166 e0_))))); rintro e w13 ⟨rfl, hb⟩; refine ⟨_, rfl, ?_⟩; replace BK165 := kb_ BK165 hb; replace BK166 := kb_ BK166 hb; replace HB := hb_ HB (e_ GE165 (e_ GE166 e0_)) hb; (try clear hb); (try clear hb2); (try clear hk); (try clear hi); have hcz14_0 : w13.cell? ⟨gb166, 0, none⟩ = some (.int .i64 0) := (kc_ BK166.out 0).trans rfl; have hcz14_1 : w13.cell? ⟨gb166, 1, none⟩ = some (.int .i64 0) := (kc_ BK166.out 1).trans rfl; have hcz14_2 : w13.cell? ⟨gb166, 2, none⟩ = some (.int .i64 0) := (kc_ BK166.out 2).trans rfl; have hcz14_3 : w13.cell? ⟨gb166, 3, none⟩ = some (.int .i64 0) := (kc_ BK166.out 3).trans rfl; have hfz14_0 := kf_ BK166.out 0; have hfz14_1 := kf_ BK166.out 1; have hfz14_2 := kf_ BK166.out 2; have hfz14_3 := kf_ BK166.out 3))
  refine bodyPost_ret (results_ct rfl _ _ gb166 46 #[.int .i64 t168, .int .i64 t169, .int .i64 t170, .int .i64 t171] (0, 0) _ rfl (by (with_reducible repeat first | apply kn_ | apply kd_ | apply ka_); refine blk_put (cs := #[.int .i64 t168, .int .i64 t169, .int .i64 t170, .int .i64 0]) ?_ 3 _ rfl; (with_reducible repeat first | apply kn_ | apply kd_ | apply ka_); refine blk_put (cs := #[.int .i64 t168, .int .i64 t169, .int .i64 0, .int .i64 0]) ?_ 2 _ rfl; (with_reducible repeat first | apply kn_ | apply kd_ | apply ka_); refine blk_put (cs := #[.int .i64 t168, .int .i64 0, .int .i64 0, .int .i64 0]) ?_ 1 _ rfl; (with_reducible repeat first | apply kn_ | apply kd_ | apply ka_); refine blk_put (cs := #[.int .i64 0, .int .i64 0, .int .i64 0, .int .i64 0]) ?_ 0 _ rfl; (with_reducible repeat first | apply kn_ | apply kd_ | apply ka_); exact BK166.out) Tryd.underlying46 rfl (by kernel_rfl)) rfl ?_
  exact ⟨by first | rfl | (simp [errW_none, errW_some] <;> rfl) | (simp [*, errW_none, errW_some] <;> rfl), by repeat (first | (with_reducible first | exact HB.out | apply ba_ | apply pd_ | apply d1_ | refine bs_ ?_ GE165.out | refine bs_ ?_ GE166.out) | exact HB.out)⟩
 ·replace c5 := bf_ c5
  subst c5
  have H1 : (some (0, 0, 0, 0, 2)) = some (r1, r2, r3, r4, r5) := by rw [if_neg (show ¬ (false = true) by decide)] at H; exact H
  clear H; have H := H1; clear H1
  simp only [Option.some.injEq, Prod.mk.injEq] at H
  obtain ⟨rfl, rfl, rfl, rfl, rfl⟩ := H
  go_enter Tryd.func29, Tryd.ntmps29
  go_wp2_with (first | ((with_reducible refine gate_dst (N := 3) rfl ?_); refine box_event ?hg (N := 3) ?hd (cs := #[.int .i64 a0_0, .int .i64 a0_1, .int .i64 a0_2, .int .i64 a0_3]) (t := 46) ?hr ?_; (case hd => rfl); (case hg => rfl); (case hr => first | (go_simp; done) | (go_simp; rfl)); intro gb165 hg w15 hbox hb; have BK165 := sd_ hbox; have GW165 := gw_ HB e0_ hg; have GE165 := GW165; replace HB := hb_ HB e0_ hb; clear hb hbox hg) | ((with_reducible refine gate_dst (N := 6) rfl ?_); refine box_event ?hg (N := 6) ?hd (cs := #[.int .i64 0, .int .i64 0, .int .i64 0, .int .i64 0]) (t := 46) ?hr ?_; (case hd => rfl); (case hg => rfl); (case hr => first | (go_simp; done) | (go_simp; rfl)); intro gb166 hg w16 hbox hb; have BK166 := sd_ hbox; have GW166 := gw_ HB (e_ GE165 e0_) hg; have GE166 := GW166; have NB165_166 := nb_ BK165 hg; have NB166_165 := sy_ NB165_166; replace BK165 := kb_ BK165 hb; replace HB := hb_ HB (e_ GE165 e0_) hb; clear hb hbox hg; have hnb17 := NB165_166.out; have hnc17 := NB166_165.out; have hcz18_0 : w16.cell? ⟨gb165, 0, none⟩ = some (.int .i64 a0_0) := (kc_ BK165.out 0).trans rfl; have hcz18_1 : w16.cell? ⟨gb165, 1, none⟩ = some (.int .i64 a0_1) := (kc_ BK165.out 1).trans rfl; have hcz18_2 : w16.cell? ⟨gb165, 2, none⟩ = some (.int .i64 a0_2) := (kc_ BK165.out 2).trans rfl; have hcz18_3 : w16.cell? ⟨gb165, 3, none⟩ = some (.int .i64 a0_3) := (kc_ BK165.out 3).trans rfl; have hfz18_0 := kf_ BK165.out 0; have hfz18_1 := kf_ BK165.out 1; have hfz18_2 := kf_ BK165.out 2; have hfz18_3 := kf_ BK165.out 3) | ((with_reducible refine gate_callee (f := 37) rfl ?_); refine goesL_ (some 9) rfl rfl Tryd.func37 (by kernel_rfl) rfl #[.agg #[.int .i64 a0_0, .int .i64 a0_1, .int .i64 a0_2, .int .i64 a0_3]] rfl (by (try simp only [lm_, lq_, lx_]); first | done | rfl | (simp only [ld_, lt_]; rfl)) ?_; (with_reducible refine (box_Check.calls a0_0 a0_1 a0_2 a0_3 false _ A4.out).mono ?_); rintro e w19 ⟨rfl, hb⟩; refine ⟨_, rfl, ?_⟩; replace BK165 := kb_ BK165 hb; replace BK166 := kb_ BK166 hb; replace HB := hb_ HB (e_ GE165 (e_ GE166 e0_)) hb; (try clear hb); (try clear hb2); (try clear hk); (try clear hi); have hcz20_0 : w19.cell? ⟨gb166, 0, none⟩ = some (.int .i64 0) := (kc_ BK166.out 0).trans rfl; have hcz20_1 : w19.cell? ⟨gb166, 1, none⟩ = some (.int .i64 0) := (kc_ BK166.out 1).trans rfl; have hcz20_2 : w19.cell? ⟨gb166, 2, none⟩ = some (.int .i64 0) := (kc_ BK166.out 2).trans rfl; have hcz20_3 : w19.cell? ⟨gb166, 3, none⟩ = some (.int .i64 0) := (kc_ BK166.out 3).trans rfl; have hfz20_0 := kf_ BK166.out 0; have hfz20_1 := kf_ BK166.out 1; have hfz20_2 := kf_ BK166.out 2; have hfz20_3 := kf_ BK166.out 3))
  refine bodyPost_ret (results_ct rfl _ _ gb166 46 #[.int .i64 0, .int .i64 0, .int .i64 0, .int .i64 0] (0, 0) _ rfl (by (with_reducible repeat first | apply kn_ | apply kd_ | apply ka_); refine blk_put (cs := #[.int .i64 0, .int .i64 0, .int .i64 0, .int .i64 0]) ?_ 3 _ rfl; (with_reducible repeat first | apply kn_ | apply kd_ | apply ka_); refine blk_put (cs := #[.int .i64 0, .int .i64 0, .int .i64 0, .int .i64 0]) ?_ 2 _ rfl; (with_reducible repeat first | apply kn_ | apply kd_ | apply ka_); refine blk_put (cs := #[.int .i64 0, .int .i64 0, .int .i64 0, .int .i64 0]) ?_ 1 _ rfl; (with_reducible repeat first | apply kn_ | apply kd_ | apply ka_); refine blk_put (cs := #[.int .i64 0, .int .i64 0, .int .i64 0, .int .i64 0]) ?_ 0 _ rfl; (with_reducible repeat first | apply kn_ | apply kd_ | apply ka_); exact BK166.out) Tryd.underlying46 rfl (by kernel_rfl)) rfl ?_
  exact ⟨by first | rfl | (simp [errW_none, errW_some] <;> rfl) | (simp [*, errW_none, errW_some] <;> rfl), by repeat (first | (with_reducible first | exact HB.out | apply ba_ | apply pd_ | apply d1_ | refine bs_ ?_ GE165.out | refine bs_ ?_ GE166.out) | exact HB.out)⟩

end Go.Proofs.YtcokemaiploejaaDoor.P
