-- Written by a program of this session (wip/tools/xprint.py, over the kit's print): Lean checks it.
import Derived.Test.YteecpeggnejeaaaDoorPx0
import Derived.Test.YteecpeggnejeaaaDoorPx2
import Derived.Test.YteecpeggnejeaaaDoorPx5
namespace Go.Proofs.YteecpeggnejeaaaDoor.P
open Go.RowKit Go.Proofs.YteecpeggnejeaaaDoorW.PrintWords Go.Proofs.YteecpeggnejeaaaDoorW.PrintLast Go.Proofs.YteecpeggnejeaaaDoorW.PrintMore
attribute [local go_sem] max2_int min2_int max_two min_two max_three min_three max_four min_four   -- for this text's walks alone
set_option linter.unusedVariables false
set_option linter.unusedSimpArgs false

/-! ### box_shifted: function 25 -/
section
variable {P : Program} {ops : Array Oper} {Q : Exit → Act → World → Prop} {md : Region.Mode} {S : World → Prop} {ds : List Nat}
/-- A call of a function value that holds what it captured, in a region. -/
theorem goesV_ {oi : Oper} {N : Option Tmp} {a : Act} {w : World} {K : Act → World → Prop} {f : FuncId} {fn : Func} {ag : Array Operand} {ts : Array TypeId} {c : Operand} (hf : P.funcs[f]? = some fn) (hname : (fn.name == "runtime.NumGoroutine") = false) (args cs : Array Value)
  (hw : Region.wanted oi (yielded ops a.tmps) = true) (hN : oi.dst = N) (hop : oi.op = .call { callee := .value c,args := ag,argTypes := ts }) (hb : fn.body.isSome = true) (hv : a.eval c = .func (.func f) #[] cs ∧ ag.map a.eval ++ cs = args)
  (h : Calls P f args w fun e w' => ∃ v,e = .returned v ∧ K (a.put N v) w') : if Region.wanted oi (yielded ops a.tmps) = true then Oper.wp P oi a w K Q else K (a.put N undef) w := by
 refine call_ f args hw hN ?_ h
 have he := enters_ hf hname hb args w
 obtain ⟨hc,hargs⟩ := hv
 unfold execOp
 simp [hop,resolve,Deferred.ofValue,invoke,hc,hargs,he]
end
/-- What the call has made, and what it holds: the box that came in, its results, whether all was right, and perhaps one block more. -/
structure Sh (w0 W : World) (gb gr go : Nat) (x0 x1 x2 x3 : Int) (b : Bool) (al : Option Nat) : Prop where
 laid : LaidE W
 below : Below w0.heap.size w0 W
 box : W.heap[gb]? = some (.cells #[.int .i64 x0,.int .i64 x1,.int .i64 x2,.int .i64 x3] 23 (0,0))
 res : W.heap[gr]? = some (.cells #[.int .i64 0,.int .i64 0,.int .i64 0,.int .i64 0] 23 (0,0))
 ok : W.heap[go]? = some (.cells #[.bool b] 4 (0,0))
 b0 : w0.heap.size ≤ gb
 r0 : w0.heap.size ≤ gr
 o0 : w0.heap.size ≤ go
 e0 : 0 < w0.heap.size
 br : gb ≠ gr
 bo : gb ≠ go
 ro : gr ≠ go
 al : ∀ g,al = some g → W.heap[g]? = some (.cells #[.int .i64 0,.int .i64 0,.int .i64 0,.int .i64 0] 23 (0,0)) ∧ w0.heap.size ≤ g ∧ g ≠ gb ∧ g ≠ gr ∧ g ≠ go
theorem Sh.cell0 {w0 W : World} {gb gr go : Nat} {x0 x1 x2 x3 : Int} {b : Bool} {al : Option Nat} (h : Sh w0 W gb gr go x0 x1 x2 x3 b al) : W.cell? ⟨gb, 0, none⟩ = some (.int .i64 x0) := (kc_ h.box 0).trans rfl
theorem Sh.cell1 {w0 W : World} {gb gr go : Nat} {x0 x1 x2 x3 : Int} {b : Bool} {al : Option Nat} (h : Sh w0 W gb gr go x0 x1 x2 x3 b al) : W.cell? ⟨gb, 1, none⟩ = some (.int .i64 x1) := (kc_ h.box 1).trans rfl
theorem Sh.cell2 {w0 W : World} {gb gr go : Nat} {x0 x1 x2 x3 : Int} {b : Bool} {al : Option Nat} (h : Sh w0 W gb gr go x0 x1 x2 x3 b al) : W.cell? ⟨gb, 2, none⟩ = some (.int .i64 x2) := (kc_ h.box 2).trans rfl
theorem Sh.cell3 {w0 W : World} {gb gr go : Nat} {x0 x1 x2 x3 : Int} {b : Bool} {al : Option Nat} (h : Sh w0 W gb gr go x0 x1 x2 x3 b al) : W.cell? ⟨gb, 3, none⟩ = some (.int .i64 x3) := (kc_ h.box 3).trans rfl
theorem Sh.alloc {w0 W : World} {gb gr go : Nat} {x0 x1 x2 x3 : Int} {b : Bool} (h : Sh w0 W gb gr go x0 x1 x2 x3 b none) : Sh w0 (W.alloc (.cells #[.int .i64 0, .int .i64 0, .int .i64 0, .int .i64 0] 23)) gb gr go x0 x1 x2 x3 b (some W.heap.size) := by
 have hb : Below W.heap.size W (W.alloc (.cells #[.int .i64 0,.int .i64 0,.int .i64 0,.int .i64 0] 23)) := ba_ (Below.refl _ _) _
 refine ⟨h.laid.below hb,below_then h.below h.below.size hb,(hb.block _ (blk_lt h.box)).trans h.box,(hb.block _ (blk_lt h.res)).trans h.res,(hb.block _ (blk_lt h.ok)).trans h.ok,h.b0,h.r0,h.o0,h.e0,h.br,h.bo,h.ro,?_⟩
 intro g hg
 obtain rfl := Option.some.inj hg
 exact ⟨heap_alloc_new W _,h.below.size,(nn_ (blk_lt h.box)).symm,(nn_ (blk_lt h.res)).symm,(nn_ (blk_lt h.ok)).symm⟩
theorem Sh.drew {w0 W : World} {gb gr go : Nat} {x0 x1 x2 x3 : Int} {b : Bool} {al : Option Nat} (h : Sh w0 W gb gr go x0 x1 x2 x3 b al) : Sh w0 W.drew gb gr go x0 x1 x2 x3 b al :=
 ⟨h.laid,h.below.drew,h.box,h.res,h.ok,h.b0,h.r0,h.o0,h.e0,h.br,h.bo,h.ro,h.al⟩
/-- One field more. -/
theorem Sh.step {w0 W W1 : World} {gb gr go : Nat} {x0 x1 x2 x3 : Int} {b : Bool} {al : Option Nat} (h : Sh w0 W gb gr go x0 x1 x2 x3 b al) (hb : Below W.heap.size W W1) (c : Bool) : Sh w0 (W1.setCell ⟨go, 0, none⟩ (.bool c)) gb gr go x0 x1 x2 x3 c al := by
 have far : ∀ {g : Nat} {o : Obj},g ≠ go → W.heap[g]? = some o → (W1.setCell ⟨go,0,none⟩ (.bool c)).heap[g]? = some o := fun hg ho => (Below.heap_setCell W1 ⟨go,0,none⟩ _ _ hg).trans ((hb.block _ (blk_lt ho)).trans ho)
 refine ⟨?_,(below_then h.below h.below.size hb).setCell h.o0 _,far h.bo h.box,far h.ro h.res,?_,h.b0,h.r0,h.o0,h.e0,h.br,h.bo,h.ro,?_⟩
 ·have q := h.laid.below hb
  unfold LaidE at q ⊢
  have hne : (⟨go,0,none⟩ : Addr) ≠ ⟨0,0,none⟩ := by
   intro e
   have e1 : go = 0 := congrArg Addr.block e
   have := h.o0
   have := h.e0
   omega
  rw [World.cell?_setCell_other _ _ _ _ hne]
  exact q
 ·have := blk_set ((hb.block _ (blk_lt h.ok)).trans h.ok) 0 (.bool c)
  rw [this]
  rfl
 ·intro g hg
  obtain ⟨a1,a2,a3,a4,a5⟩ := h.al g hg
  exact ⟨far a5 a1,a2,a3,a4,a5⟩
theorem bx_put4 {W : World} {g : Nat} {t : TypeId} {a0 a1 a2 a3 : Value} (h : W.heap[g]? = some (.cells #[a0, a1, a2, a3] t (0, 0))) (v0 v1 v2 v3 : Value) :
  ((((W.setCell ⟨g,0,none⟩ v0).setCell ⟨g,1,none⟩ v1).setCell ⟨g,2,none⟩ v2).setCell ⟨g,3,none⟩ v3).heap[g]? = some (.cells #[v0,v1,v2,v3] t (0,0)) := by
 have h1 := blk_set h 0 v0
 have h2 := blk_set h1 1 v1
 have h3 := blk_set h2 2 v2
 have h4 := blk_set h3 3 v3
 rw [h4]
 rfl
theorem bx_far4 {W : World} {g g' : Nat} {o : Obj} (h : W.heap[g']? = some o) (hg : g' ≠ g) (v0 v1 v2 v3 : Value) :
  ((((W.setCell ⟨g,0,none⟩ v0).setCell ⟨g,1,none⟩ v1).setCell ⟨g,2,none⟩ v2).setCell ⟨g,3,none⟩ v3).heap[g']? = some o :=
 (Below.heap_setCell _ _ _ _ hg).trans ((Below.heap_setCell _ _ _ _ hg).trans ((Below.heap_setCell _ _ _ _ hg).trans ((Below.heap_setCell _ _ _ _ hg).trans h)))
/-- The made box is laid. -/
theorem Sh.put {w0 W : World} {gb gr go ga : Nat} {x0 x1 x2 x3 : Int} {b : Bool} (h : Sh w0 W gb gr go x0 x1 x2 x3 b (some ga)) (s0 s1 s2 s3 : Int) :
  ((((W.setCell ⟨ga,0,none⟩ (.int .i64 s0)).setCell ⟨ga,1,none⟩ (.int .i64 s1)).setCell ⟨ga,2,none⟩ (.int .i64 s2)).setCell ⟨ga,3,none⟩ (.int .i64 s3)).heap[gr]? = some (.cells #[.int .i64 0,.int .i64 0,.int .i64 0,.int .i64 0] 23 (0,0)) ∧
  ((((W.setCell ⟨ga,0,none⟩ (.int .i64 s0)).setCell ⟨ga,1,none⟩ (.int .i64 s1)).setCell ⟨ga,2,none⟩ (.int .i64 s2)).setCell ⟨ga,3,none⟩ (.int .i64 s3)).heap[go]? = some (.cells #[.bool b] 4 (0,0)) ∧
  ((((W.setCell ⟨ga,0,none⟩ (.int .i64 s0)).setCell ⟨ga,1,none⟩ (.int .i64 s1)).setCell ⟨ga,2,none⟩ (.int .i64 s2)).setCell ⟨ga,3,none⟩ (.int .i64 s3)).heap[ga]? = some (.cells #[.int .i64 s0,.int .i64 s1,.int .i64 s2,.int .i64 s3] 23 (0,0)) ∧
  Below w0.heap.size w0 ((((W.setCell ⟨ga,0,none⟩ (.int .i64 s0)).setCell ⟨ga,1,none⟩ (.int .i64 s1)).setCell ⟨ga,2,none⟩ (.int .i64 s2)).setCell ⟨ga,3,none⟩ (.int .i64 s3)) := by
 obtain ⟨a1,a2,a3,a4,a5⟩ := h.al ga rfl
 exact ⟨bx_far4 h.res (Ne.symm a4) _ _ _ _,bx_far4 h.ok (Ne.symm a5) _ _ _ _,bx_put4 a1 _ _ _ _,(((h.below.setCell a2 _).setCell a2 _).setCell a2 _).setCell a2 _⟩
/-- The function literal: one field. -/
theorem shifted1 {a by_ s e : Int} (h : fix_Add.f a by_ = some (s, e)) (w0 W : World) (gb gr go : Nat) (x0 x1 x2 x3 : Int) (b : Bool) (al : Option Nat) (hS : Sh w0 W gb gr go x0 x1 x2 x3 b al) :
  Calls Tryd.prog 30 #[.int .i64 a,.int .i64 by_,.pointer (some ⟨go,0,none⟩)] W fun en w' => en = .returned (.int .i64 s) ∧ Sh w0 w' gb gr go x0 x1 x2 x3 (b && (e == 0)) al := by
 have HA := sd_ (fix_Add.calls a by_ s e W ⟨hS.laid⟩ h)
 have HS := sd_ hS
 have HO := sd_ (show W.cell? ⟨go,0,none⟩ = some (.bool b) from (kc_ hS.ok 0).trans rfl)
 clear hS h
 cases b with
 | true =>
  obtain ⟨c,hc⟩ : ∃ c,(e == 0) = c := ⟨_,rfl⟩
  rw [hc,Bool.true_and]
  go_enter Tryd.func30,Tryd.ntmps30
  go_wp2_with (go_at_call 31;refine HA.out.mono ?_;rintro en w1 ⟨rfl,hb⟩;have HB := sd_ hb;have ho := pw_cell_below hb HO.out;have hf := kf_ ((hb.block go (blk_lt HS.out.ok)).trans HS.out.ok) 0;clear hb)
  go_ret
  exact ⟨rfl,HS.out.step HB.out c⟩
 | false =>
  rw [Bool.false_and]
  go_enter Tryd.func30,Tryd.ntmps30
  go_wp2_with (go_at_call 31;refine HA.out.mono ?_;rintro en w1 ⟨rfl,hb⟩;have HB := sd_ hb;have ho := pw_cell_below hb HO.out;have hf := kf_ ((hb.block go (blk_lt HS.out.ok)).trans HS.out.ok) 0;clear hb)
  go_ret
  exact ⟨rfl,HS.out.step HB.out false⟩
/-- What comes of a box that is moved. -/
def box_shifted.f (x0 x1 x2 x3 y0 y1 y2 y3 : Int) : Option (Int × Int × Int × Int × Int) :=
 (fix_Add.f x0 y0).bind fun a => (fix_Add.f x1 y1).bind fun b => (fix_Add.f x2 y2).bind fun c => (fix_Add.f x3 y3).bind fun d =>
  if a.2 = 0 ∧ b.2 = 0 ∧ c.2 = 0 ∧ d.2 = 0 then some (a.1,b.1,c.1,d.1,0) else some (0,0,0,0,3)
set_option maxHeartbeats 8000000 in
set_option maxRecDepth 100000 in
theorem box_shifted.calls (x0 x1 x2 x3 y0 y1 y2 y3 : Int) (r1 r2 r3 r4 r5 : Int) (w0 : World) (hE : Aside0 (LaidE w0)) (h : box_shifted.f x0 x1 x2 x3 y0 y1 y2 y3 = some (r1, r2, r3, r4, r5)) :
  Calls Tryd.prog 25 #[.agg #[.int .i64 x0,.int .i64 x1,.int .i64 x2,.int .i64 x3],.int .i64 y0,.int .i64 y1,.int .i64 y2,.int .i64 y3] w0 fun e w' => e = .returned (.tuple #[.agg #[.int .i64 r1,.int .i64 r2,.int .i64 r3,.int .i64 r4],.int .i64 r5]) ∧ Below w0.heap.size w0 w' := by
 unfold box_shifted.f at h
 obtain ⟨⟨s0,c0⟩,h0,h⟩ := ob_ h
 obtain ⟨⟨s1,c1⟩,h1,h⟩ := ob_ h
 obtain ⟨⟨s2,c2⟩,h2,h⟩ := ob_ h
 obtain ⟨⟨s3,c3⟩,h3,h⟩ := ob_ h
 replace h : (if c0 = 0 ∧ c1 = 0 ∧ c2 = 0 ∧ c3 = 0 then some (s0,s1,s2,s3,0) else some (0,0,0,0,3)) = some (r1,r2,r3,r4,r5) := h
 have H := sd_ h
 clear h
 have hu := Tryd.underlying23
 -- the world ahead of the region
 obtain ⟨gb,hgb⟩ : ∃ gb,gb = w0.heap.size := ⟨_,rfl⟩
 obtain ⟨gr,hgr⟩ : ∃ gr,gr = w0.heap.size + 1 := ⟨_,rfl⟩
 obtain ⟨go,hgo⟩ : ∃ go,go = w0.heap.size + 1 + 1 := ⟨_,rfl⟩
 have hS : Sh w0 (((w0.alloc (.cells #[.int .i64 x0,.int .i64 x1,.int .i64 x2,.int .i64 x3] 23)).alloc (.cells #[.int .i64 0,.int .i64 0,.int .i64 0,.int .i64 0] 23)).alloc (.cells #[.bool true] 4)) gb gr go x0 x1 x2 x3 true none := by
  have b1 : Below w0.heap.size w0 (w0.alloc (.cells #[.int .i64 x0,.int .i64 x1,.int .i64 x2,.int .i64 x3] 23)) := ba_ (Below.refl _ _) _
  have b2 := ba_ b1 (.cells #[.int .i64 0,.int .i64 0,.int .i64 0,.int .i64 0] 23)
  have b3 := ba_ b2 (.cells #[.bool true] 4)
  have n1 := heap_alloc_new w0 (.cells #[.int .i64 x0,.int .i64 x1,.int .i64 x2,.int .i64 x3] 23)
  have n2 := heap_alloc_new (w0.alloc (.cells #[.int .i64 x0,.int .i64 x1,.int .i64 x2,.int .i64 x3] 23)) (.cells #[.int .i64 0,.int .i64 0,.int .i64 0,.int .i64 0] 23)
  have n3 := heap_alloc_new ((w0.alloc (.cells #[.int .i64 x0,.int .i64 x1,.int .i64 x2,.int .i64 x3] 23)).alloc (.cells #[.int .i64 0,.int .i64 0,.int .i64 0,.int .i64 0] 23)) (.cells #[.bool true] 4)
  have z1 : (w0.alloc (.cells #[.int .i64 x0,.int .i64 x1,.int .i64 x2,.int .i64 x3] 23)).heap.size = w0.heap.size + 1 := World.size_alloc ..
  have z2 : ((w0.alloc (.cells #[.int .i64 x0,.int .i64 x1,.int .i64 x2,.int .i64 x3] 23)).alloc (.cells #[.int .i64 0,.int .i64 0,.int .i64 0,.int .i64 0] 23)).heap.size = w0.heap.size + 1 + 1 := by rw [World.size_alloc,z1]
  rw [z1] at n2
  rw [z2] at n3
  rw [hgb,hgr,hgo]
  exact ⟨hE.out.below b3,b3,ka_ (ka_ n1 _) _,ka_ n2 _,n3,by omega,by omega,by omega,wb_ w0 _ hE.out,by omega,by omega,by omega,fun g hg => by cases hg⟩
 have HS0 := sd_ hS
 have C0 := sd_ (fun W b al => shifted1 h0 w0 W gb gr go x0 x1 x2 x3 b al)
 have C1 := sd_ (fun W b al => shifted1 h1 w0 W gb gr go x0 x1 x2 x3 b al)
 have C2 := sd_ (fun W b al => shifted1 h2 w0 W gb gr go x0 x1 x2 x3 b al)
 have C3 := sd_ (fun W b al => shifted1 h3 w0 W gb gr go x0 x1 x2 x3 b al)
 have HG := sd_ (show gb = w0.heap.size ∧ gr = w0.heap.size + 1 ∧ go = w0.heap.size + 1 + 1 from ⟨hgb,hgr,hgo⟩)
 clear hS hE h0 h1 h2 h3 hgb hgr hgo
 go_enter Tryd.func25,Tryd.ntmps25
 go_wp2
 rw [← HG.out.2.2,← HG.out.2.1,← HG.out.1]
 generalize ((w0.alloc (.cells #[.int .i64 x0,.int .i64 x1,.int .i64 x2,.int .i64 x3] 23)).alloc (.cells #[.int .i64 0,.int .i64 0,.int .i64 0,.int .i64 0] 23)).alloc (.cells #[.bool true] 4) = W1 at HS0 ⊢
 have HS1 := sd_ HS0.out.drew
 clear HS0 HG
 have HS := HS1
 refine start_ (n := 23) (S := fun w' => w'.cell? ⟨gb,0,none⟩ = some (.int .i64 x0) ∧ w'.cell? ⟨gb,1,none⟩ = some (.int .i64 x1) ∧ w'.cell? ⟨gb,2,none⟩ = some (.int .i64 x2) ∧ w'.cell? ⟨gb,3,none⟩ = some (.int .i64 x3)) (ds := [22]) #[false,false,false,false,false,false,false,false,false,false,false,false,false,false,false,false,false,false,false,false,false,false,false] (by kernel_rfl) rfl rfl ⟨HS1.out.cell0,HS1.out.cell1,HS1.out.cell2,HS1.out.cell3⟩ (fun hHeld => ?_)
 generalize W1.drew = W2 at *
 refine pure_ (i := 0) (N := some 16) (v := ?_) (a' := ?_) #[true,false,false,false,false,false,false,false,false,false,false,false,false,false,false,false,false,false,false,false,false,false,false] rfl rfl (by kernel_rfl) (fun _ _ _ h => h) (Or.inl ⟨by rfl,?_⟩) ?_ ?_
 rotate_left;(intro w';go_simp;with_reducible rfl);rotate_left;(simp only [Act.put,ls_,lz_,lc_,i64_w,i32_w];rfl)
 refine pure_ (i := 1) (N := some 17) (v := ?_) (a' := ?_) #[true,true,false,false,false,false,false,false,false,false,false,false,false,false,false,false,false,false,false,false,false,false,false] rfl rfl (by kernel_rfl) (fun _ _ _ h => h) (Or.inl ⟨by rfl,?_⟩) ?_ ?_
 rotate_left;(intro w';go_simp;with_reducible rfl);rotate_left;(simp only [Act.put,ls_,lz_,lc_,i64_w,i32_w];rfl)
 refine pure_ (i := 3) (N := some 19) (v := ?_) (a' := ?_) #[true,true,false,true,false,false,false,false,false,false,false,false,false,false,false,false,false,false,false,false,false,false,false] rfl rfl (by kernel_rfl) (fun _ _ _ h => h) (Or.inl ⟨by rfl,?_⟩) ?_ ?_
 rotate_left;(intro w';go_simp;with_reducible rfl);rotate_left;(simp only [Act.put,ls_,lz_,lc_,i64_w,i32_w];rfl)
 refine pure_ (i := 5) (N := some 21) (v := ?_) (a' := ?_) #[true,true,false,true,false,true,false,false,false,false,false,false,false,false,false,false,false,false,false,false,false,false,false] rfl rfl (by kernel_rfl) (fun _ _ _ h => h) (Or.inl ⟨by rfl,?_⟩) ?_ ?_
 rotate_left;(intro w';go_simp;with_reducible rfl);rotate_left;(simp only [Act.put,ls_,lz_,lc_,i64_w,i32_w];rfl)
 refine pure_ (i := 6) (N := some 22) (v := ?_) (a' := ?_) #[true,true,false,true,false,true,true,false,false,false,false,false,false,false,false,false,false,false,false,false,false,false,false] rfl rfl (by kernel_rfl) (fun _ _ _ h => h) (Or.inl ⟨by rfl,?_⟩) ?_ ?_
 rotate_left;(intro w';go_simp;with_reducible rfl);rotate_left;(simp only [Act.put,ls_,lz_,lc_,i64_w,i32_w];rfl)
 refine pure_ (i := 8) (N := some 24) (v := ?_) (a' := ?_) #[true,true,false,true,false,true,true,false,true,false,false,false,false,false,false,false,false,false,false,false,false,false,false] rfl rfl (by kernel_rfl) (fun _ _ _ h => h) (Or.inl ⟨by rfl,?_⟩) ?_ ?_
 rotate_left;(intro w';go_simp;with_reducible rfl);rotate_left;(simp only [Act.put,ls_,lz_,lc_,i64_w,i32_w];rfl)
 refine pure_ (i := 10) (N := some 26) (v := ?_) (a' := ?_) #[true,true,false,true,false,true,true,false,true,false,true,false,false,false,false,false,false,false,false,false,false,false,false] rfl rfl (by kernel_rfl) (fun _ _ _ h => h) (Or.inl ⟨by rfl,?_⟩) ?_ ?_
 rotate_left;(intro w';go_simp;with_reducible rfl);rotate_left;(simp only [Act.put,ls_,lz_,lc_,i64_w,i32_w];rfl)
 refine pure_ (i := 11) (N := some 27) (v := ?_) (a' := ?_) #[true,true,false,true,false,true,true,false,true,false,true,true,false,false,false,false,false,false,false,false,false,false,false] rfl rfl (by kernel_rfl) (fun _ _ _ h => h) (Or.inl ⟨by rfl,?_⟩) ?_ ?_
 rotate_left;(intro w';go_simp;with_reducible rfl);rotate_left;(simp only [Act.put,ls_,lz_,lc_,i64_w,i32_w];rfl)
 refine pure_ (i := 13) (N := some 29) (v := ?_) (a' := ?_) #[true,true,false,true,false,true,true,false,true,false,true,true,false,true,false,false,false,false,false,false,false,false,false] rfl rfl (by kernel_rfl) (fun _ _ _ h => h) (Or.inl ⟨by rfl,?_⟩) ?_ ?_
 rotate_left;(intro w';go_simp;with_reducible rfl);rotate_left;(simp only [Act.put,ls_,lz_,lc_,i64_w,i32_w];rfl)
 refine pure_ (i := 15) (N := some 31) (v := ?_) (a' := ?_) #[true,true,false,true,false,true,true,false,true,false,true,true,false,true,false,true,false,false,false,false,false,false,false] rfl rfl (by kernel_rfl) (fun _ _ _ h => h) (Or.inl ⟨by rfl,?_⟩) ?_ ?_
 rotate_left;(intro w';go_simp;with_reducible rfl);rotate_left;(simp only [Act.put,ls_,lz_,lc_,i64_w,i32_w];rfl)
 refine pure_ (i := 16) (N := some 32) (v := ?_) (a' := ?_) #[true,true,false,true,false,true,true,false,true,false,true,true,false,true,false,true,true,false,false,false,false,false,false] rfl rfl (by kernel_rfl) (fun _ _ _ h => h) (Or.inl ⟨by rfl,?_⟩) ?_ ?_
 rotate_left;(intro w';go_simp;with_reducible rfl);rotate_left;(simp only [Act.put,ls_,lz_,lc_,i64_w,i32_w];rfl)
 refine pure_ (i := 18) (N := some 34) (v := ?_) (a' := ?_) #[true,true,false,true,false,true,true,false,true,false,true,true,false,true,false,true,true,false,true,false,false,false,false] rfl rfl (by kernel_rfl) (fun _ _ _ h => h) (Or.inl ⟨by rfl,?_⟩) ?_ ?_
 rotate_left;(intro w';go_simp;with_reducible rfl);rotate_left;(simp only [Act.put,ls_,lz_,lc_,i64_w,i32_w];rfl)
 refine take_ (i := 2) (N := some 18) (v := ?_) (a' := ?_) #[true,true,true,true,false,true,true,false,true,false,true,true,false,true,false,true,true,false,true,false,false,false,false] rfl rfl (by kernel_rfl) (fun _ _ _ h => h) (Or.inl ⟨by rfl,?_⟩) hHeld ?_ ?_
 rotate_left
 ·rintro w' ⟨s0,s1,s2,s3⟩
  go_simp
  with_reducible rfl
 rotate_left
 ·simp only [Act.put,ls_,lz_,lc_,i64_w,i32_w]
  rfl
 refine take_ (i := 7) (N := some 23) (v := ?_) (a' := ?_) #[true,true,true,true,false,true,true,true,true,false,true,true,false,true,false,true,true,false,true,false,false,false,false] rfl rfl (by kernel_rfl) (fun _ _ _ h => h) (Or.inl ⟨by rfl,?_⟩) hHeld ?_ ?_
 rotate_left
 ·rintro w' ⟨s0,s1,s2,s3⟩
  go_simp
  with_reducible rfl
 rotate_left
 ·simp only [Act.put,ls_,lz_,lc_,i64_w,i32_w]
  rfl
 refine take_ (i := 12) (N := some 28) (v := ?_) (a' := ?_) #[true,true,true,true,false,true,true,true,true,false,true,true,true,true,false,true,true,false,true,false,false,false,false] rfl rfl (by kernel_rfl) (fun _ _ _ h => h) (Or.inl ⟨by rfl,?_⟩) hHeld ?_ ?_
 rotate_left
 ·rintro w' ⟨s0,s1,s2,s3⟩
  go_simp
  with_reducible rfl
 rotate_left
 ·simp only [Act.put,ls_,lz_,lc_,i64_w,i32_w]
  rfl
 refine take_ (i := 17) (N := some 33) (v := ?_) (a' := ?_) #[true,true,true,true,false,true,true,true,true,false,true,true,true,true,false,true,true,true,true,false,false,false,false] rfl rfl (by kernel_rfl) (fun _ _ _ h => h) (Or.inl ⟨by rfl,?_⟩) hHeld ?_ ?_
 rotate_left
 ·rintro w' ⟨s0,s1,s2,s3⟩
  go_simp
  with_reducible rfl
 rotate_left
 ·simp only [Act.put,ls_,lz_,lc_,i64_w,i32_w]
  rfl
 refine join_ (σ := Nat) 1 #[true,true,true,true,true,true,true,true,true,true,true,true,true,true,true,true,true,true,true,true,true,true,false] (fun (_s : Nat) => [(20,.int .i64 s0),(25,.int .i64 s1),(30,.int .i64 s2),(35,.int .i64 s3),(14,.pointer (some ⟨_s,0,none⟩)),(36,.agg #[.int .i64 s0,.int .i64 s1,.int .i64 s2,.int .i64 s3])]) (fun _s w' => Sh w0 w' gb gr go x0 x1 x2 x3 ((((true && (c0 == 0)) && (c1 == 0)) && (c2 == 0)) && (c3 == 0)) (some _s)) ?_ ?_
 rotate_left
 ·intro hCont
  refine two_ (i := 4) (j := 21) (Ni := some 20) (Nj := some 14) #[true,true,true,true,true,true,true,true,true,false,true,true,true,true,false,true,true,true,true,false,false,false,false] #[true,true,true,true,false,true,true,true,true,false,true,true,true,true,false,true,true,true,true,false,false,true,false] rfl rfl rfl rfl (by kernel_rfl) (by decide) (by decide) (fun K hK => ?_) (fun K hK => ?_)
  ·skip
   refine goesV_ Tryd.func30 (by kernel_rfl) #[.int .i64 x0,.int .i64 y0,.pointer (some ⟨go,0,none⟩)] #[.pointer (some ⟨go,0,none⟩)] (by rfl) rfl rfl rfl ⟨by rfl,by (simp only [lm_,lq_,lx_];rfl)⟩ ?_
   with_reducible refine (C0.out _ _ _ HS.out).mono ?_
   rintro e w30 ⟨rfl,hs⟩
   refine ⟨_,rfl,?_⟩
   have HS' := sd_ hs
   clear hs HS
   have HS := HS'
   clear HS'
   refine hK.out _ _ ⟨HS.out.cell0,HS.out.cell1,HS.out.cell2,HS.out.cell3⟩ (fun hHeld => ?_)
   clear hK K
   refine norm_ (a' := ?_) ?_ ?_
   rotate_left
   ·show Act.put _ (some 20) _ = _
    simp only [Act.put,ls_,lz_,lc_,i64_w,i32_w]
    rfl
   refine two_ (i := 9) (j := 21) (Ni := some 25) (Nj := some 14) #[true,true,true,true,true,true,true,true,true,true,true,true,true,true,false,true,true,true,true,false,false,false,false] #[true,true,true,true,true,true,true,true,true,false,true,true,true,true,false,true,true,true,true,false,false,true,false] rfl rfl rfl rfl (by kernel_rfl) (by decide) (by decide) (fun K hK => ?_) (fun K hK => ?_)
   ·skip
    refine goesV_ Tryd.func30 (by kernel_rfl) #[.int .i64 x1,.int .i64 y1,.pointer (some ⟨go,0,none⟩)] #[.pointer (some ⟨go,0,none⟩)] (by rfl) rfl rfl rfl ⟨by rfl,by (simp only [lm_,lq_,lx_];rfl)⟩ ?_
    with_reducible refine (C1.out _ _ _ HS.out).mono ?_
    rintro e w31 ⟨rfl,hs⟩
    refine ⟨_,rfl,?_⟩
    have HS' := sd_ hs
    clear hs HS
    have HS := HS'
    clear HS'
    refine hK.out _ _ ⟨HS.out.cell0,HS.out.cell1,HS.out.cell2,HS.out.cell3⟩ (fun hHeld => ?_)
    clear hK K
    refine norm_ (a' := ?_) ?_ ?_
    rotate_left
    ·show Act.put _ (some 25) _ = _
     simp only [Act.put,ls_,lz_,lc_,i64_w,i32_w]
     rfl
    refine two_ (i := 14) (j := 21) (Ni := some 30) (Nj := some 14) #[true,true,true,true,true,true,true,true,true,true,true,true,true,true,true,true,true,true,true,false,false,false,false] #[true,true,true,true,true,true,true,true,true,true,true,true,true,true,false,true,true,true,true,false,false,true,false] rfl rfl rfl rfl (by kernel_rfl) (by decide) (by decide) (fun K hK => ?_) (fun K hK => ?_)
    ·skip
     refine goesV_ Tryd.func30 (by kernel_rfl) #[.int .i64 x2,.int .i64 y2,.pointer (some ⟨go,0,none⟩)] #[.pointer (some ⟨go,0,none⟩)] (by rfl) rfl rfl rfl ⟨by rfl,by (simp only [lm_,lq_,lx_];rfl)⟩ ?_
     with_reducible refine (C2.out _ _ _ HS.out).mono ?_
     rintro e w32 ⟨rfl,hs⟩
     refine ⟨_,rfl,?_⟩
     have HS' := sd_ hs
     clear hs HS
     have HS := HS'
     clear HS'
     refine hK.out _ _ ⟨HS.out.cell0,HS.out.cell1,HS.out.cell2,HS.out.cell3⟩ (fun hHeld => ?_)
     clear hK K
     refine norm_ (a' := ?_) ?_ ?_
     rotate_left
     ·show Act.put _ (some 30) _ = _
      simp only [Act.put,ls_,lz_,lc_,i64_w,i32_w]
      rfl
     refine two_ (i := 19) (j := 21) (Ni := some 35) (Nj := some 14) #[true,true,true,true,true,true,true,true,true,true,true,true,true,true,true,true,true,true,true,true,false,false,false] #[true,true,true,true,true,true,true,true,true,true,true,true,true,true,true,true,true,true,true,false,false,true,false] rfl rfl rfl rfl (by kernel_rfl) (by decide) (by decide) (fun K hK => ?_) (fun K hK => ?_)
     ·skip
      refine goesV_ Tryd.func30 (by kernel_rfl) #[.int .i64 x3,.int .i64 y3,.pointer (some ⟨go,0,none⟩)] #[.pointer (some ⟨go,0,none⟩)] (by rfl) rfl rfl rfl ⟨by rfl,by (simp only [lm_,lq_,lx_];rfl)⟩ ?_
      with_reducible refine (C3.out _ _ _ HS.out).mono ?_
      rintro e w33 ⟨rfl,hs⟩
      refine ⟨_,rfl,?_⟩
      have HS' := sd_ hs
      clear hs HS
      have HS := HS'
      clear HS'
      refine hK.out _ _ ⟨HS.out.cell0,HS.out.cell1,HS.out.cell2,HS.out.cell3⟩ (fun hHeld => ?_)
      clear hK K
      refine norm_ (a' := ?_) ?_ ?_
      rotate_left
      ·show Act.put _ (some 35) _ = _
       simp only [Act.put,ls_,lz_,lc_,i64_w,i32_w]
       rfl
      refine pure_ (i := 20) (N := some 36) (v := ?_) (a' := ?_) #[true,true,true,true,true,true,true,true,true,true,true,true,true,true,true,true,true,true,true,true,true,false,false] rfl rfl (by kernel_rfl) (fun _ _ _ h => h) (Or.inl ⟨by rfl,?_⟩) ?_ ?_
      rotate_left;(intro w';go_simp;with_reducible rfl);rotate_left;(simp only [Act.put,ls_,lz_,lc_,i64_w,i32_w];rfl)
      refine one_ (i := 21) (N := some 14) #[true,true,true,true,true,true,true,true,true,true,true,true,true,true,true,true,true,true,true,true,true,true,false] rfl rfl (by kernel_rfl) (by decide) (fun K hK => ?_)
      refine value_ (w1 := ?_) (v := ?_) (by rfl) rfl ?_ ?_
      rotate_left 2
      ·go_simp
       constructor
       ·rfl
       ·rfl
      have HS' := sd_ (Sh.alloc HS.out)
      clear HS
      have HS := HS'
      clear HS'
      refine hK.out _ _ ⟨HS.out.cell0,HS.out.cell1,HS.out.cell2,HS.out.cell3⟩ (fun hHeld => ?_)
      clear hK K
      refine norm_ (a' := ?_) ?_ ?_
      rotate_left
      ·show Act.put _ (some 14) _ = _
       simp only [Act.put,ls_,lz_,lc_,i64_w,i32_w]
       rfl
      exact norm_ (by simp only [putAll,Act.put,ls_,lz_,lc_]) (hCont _ _ HS.out)
     ·skip
      refine value_ (w1 := ?_) (v := ?_) (by rfl) rfl ?_ ?_
      rotate_left 2
      ·go_simp
       constructor
       ·rfl
       ·rfl
      have HS' := sd_ (Sh.alloc HS.out)
      clear HS
      have HS := HS'
      clear HS'
      refine hK.out _ _ ⟨HS.out.cell0,HS.out.cell1,HS.out.cell2,HS.out.cell3⟩ (fun hHeld => ?_)
      clear hK K
      refine norm_ (a' := ?_) ?_ ?_
      rotate_left
      ·show Act.put _ (some 14) _ = _
       simp only [Act.put,ls_,lz_,lc_,i64_w,i32_w]
       rfl
      refine one_ (i := 19) (N := some 35) #[true,true,true,true,true,true,true,true,true,true,true,true,true,true,true,true,true,true,true,true,false,true,false] rfl rfl (by kernel_rfl) (by decide) (fun K hK => ?_)
      refine goesV_ Tryd.func30 (by kernel_rfl) #[.int .i64 x3,.int .i64 y3,.pointer (some ⟨go,0,none⟩)] #[.pointer (some ⟨go,0,none⟩)] (by rfl) rfl rfl rfl ⟨by rfl,by (simp only [lm_,lq_,lx_];rfl)⟩ ?_
      with_reducible refine (C3.out _ _ _ HS.out).mono ?_
      rintro e w33 ⟨rfl,hs⟩
      refine ⟨_,rfl,?_⟩
      have HS' := sd_ hs
      clear hs HS
      have HS := HS'
      clear HS'
      refine hK.out _ _ ⟨HS.out.cell0,HS.out.cell1,HS.out.cell2,HS.out.cell3⟩ (fun hHeld => ?_)
      clear hK K
      refine norm_ (a' := ?_) ?_ ?_
      rotate_left
      ·show Act.put _ (some 35) _ = _
       simp only [Act.put,ls_,lz_,lc_,i64_w,i32_w]
       rfl
      refine pure_ (i := 20) (N := some 36) (v := ?_) (a' := ?_) #[true,true,true,true,true,true,true,true,true,true,true,true,true,true,true,true,true,true,true,true,true,true,false] rfl rfl (by kernel_rfl) (fun _ _ _ h => h) (Or.inl ⟨by rfl,?_⟩) ?_ ?_
      rotate_left;(intro w';go_simp;with_reducible rfl);rotate_left;(simp only [Act.put,ls_,lz_,lc_,i64_w,i32_w];rfl)
      exact norm_ (by simp only [putAll,Act.put,ls_,lz_,lc_]) (hCont _ _ HS.out)
    ·skip
     refine value_ (w1 := ?_) (v := ?_) (by rfl) rfl ?_ ?_
     rotate_left 2
     ·go_simp
      constructor
      ·rfl
      ·rfl
     have HS' := sd_ (Sh.alloc HS.out)
     clear HS
     have HS := HS'
     clear HS'
     refine hK.out _ _ ⟨HS.out.cell0,HS.out.cell1,HS.out.cell2,HS.out.cell3⟩ (fun hHeld => ?_)
     clear hK K
     refine norm_ (a' := ?_) ?_ ?_
     rotate_left
     ·show Act.put _ (some 14) _ = _
      simp only [Act.put,ls_,lz_,lc_,i64_w,i32_w]
      rfl
     refine one_ (i := 14) (N := some 30) #[true,true,true,true,true,true,true,true,true,true,true,true,true,true,true,true,true,true,true,false,false,true,false] rfl rfl (by kernel_rfl) (by decide) (fun K hK => ?_)
     refine goesV_ Tryd.func30 (by kernel_rfl) #[.int .i64 x2,.int .i64 y2,.pointer (some ⟨go,0,none⟩)] #[.pointer (some ⟨go,0,none⟩)] (by rfl) rfl rfl rfl ⟨by rfl,by (simp only [lm_,lq_,lx_];rfl)⟩ ?_
     with_reducible refine (C2.out _ _ _ HS.out).mono ?_
     rintro e w32 ⟨rfl,hs⟩
     refine ⟨_,rfl,?_⟩
     have HS' := sd_ hs
     clear hs HS
     have HS := HS'
     clear HS'
     refine hK.out _ _ ⟨HS.out.cell0,HS.out.cell1,HS.out.cell2,HS.out.cell3⟩ (fun hHeld => ?_)
     clear hK K
     refine norm_ (a' := ?_) ?_ ?_
     rotate_left
     ·show Act.put _ (some 30) _ = _
      simp only [Act.put,ls_,lz_,lc_,i64_w,i32_w]
      rfl
     refine one_ (i := 19) (N := some 35) #[true,true,true,true,true,true,true,true,true,true,true,true,true,true,true,true,true,true,true,true,false,true,false] rfl rfl (by kernel_rfl) (by decide) (fun K hK => ?_)
     refine goesV_ Tryd.func30 (by kernel_rfl) #[.int .i64 x3,.int .i64 y3,.pointer (some ⟨go,0,none⟩)] #[.pointer (some ⟨go,0,none⟩)] (by rfl) rfl rfl rfl ⟨by rfl,by (simp only [lm_,lq_,lx_];rfl)⟩ ?_
     with_reducible refine (C3.out _ _ _ HS.out).mono ?_
     rintro e w33 ⟨rfl,hs⟩
     refine ⟨_,rfl,?_⟩
     have HS' := sd_ hs
     clear hs HS
     have HS := HS'
     clear HS'
     refine hK.out _ _ ⟨HS.out.cell0,HS.out.cell1,HS.out.cell2,HS.out.cell3⟩ (fun hHeld => ?_)
     clear hK K
     refine norm_ (a' := ?_) ?_ ?_
     rotate_left
     ·show Act.put _ (some 35) _ = _
      simp only [Act.put,ls_,lz_,lc_,i64_w,i32_w]
      rfl
     refine pure_ (i := 20) (N := some 36) (v := ?_) (a' := ?_) #[true,true,true,true,true,true,true,true,true,true,true,true,true,true,true,true,true,true,true,true,true,true,false] rfl rfl (by kernel_rfl) (fun _ _ _ h => h) (Or.inl ⟨by rfl,?_⟩) ?_ ?_
     rotate_left;(intro w';go_simp;with_reducible rfl);rotate_left;(simp only [Act.put,ls_,lz_,lc_,i64_w,i32_w];rfl)
     exact norm_ (by simp only [putAll,Act.put,ls_,lz_,lc_]) (hCont _ _ HS.out)
   ·skip
    refine value_ (w1 := ?_) (v := ?_) (by rfl) rfl ?_ ?_
    rotate_left 2
    ·go_simp
     constructor
     ·rfl
     ·rfl
    have HS' := sd_ (Sh.alloc HS.out)
    clear HS
    have HS := HS'
    clear HS'
    refine hK.out _ _ ⟨HS.out.cell0,HS.out.cell1,HS.out.cell2,HS.out.cell3⟩ (fun hHeld => ?_)
    clear hK K
    refine norm_ (a' := ?_) ?_ ?_
    rotate_left
    ·show Act.put _ (some 14) _ = _
     simp only [Act.put,ls_,lz_,lc_,i64_w,i32_w]
     rfl
    refine one_ (i := 9) (N := some 25) #[true,true,true,true,true,true,true,true,true,true,true,true,true,true,false,true,true,true,true,false,false,true,false] rfl rfl (by kernel_rfl) (by decide) (fun K hK => ?_)
    refine goesV_ Tryd.func30 (by kernel_rfl) #[.int .i64 x1,.int .i64 y1,.pointer (some ⟨go,0,none⟩)] #[.pointer (some ⟨go,0,none⟩)] (by rfl) rfl rfl rfl ⟨by rfl,by (simp only [lm_,lq_,lx_];rfl)⟩ ?_
    with_reducible refine (C1.out _ _ _ HS.out).mono ?_
    rintro e w31 ⟨rfl,hs⟩
    refine ⟨_,rfl,?_⟩
    have HS' := sd_ hs
    clear hs HS
    have HS := HS'
    clear HS'
    refine hK.out _ _ ⟨HS.out.cell0,HS.out.cell1,HS.out.cell2,HS.out.cell3⟩ (fun hHeld => ?_)
    clear hK K
    refine norm_ (a' := ?_) ?_ ?_
    rotate_left
    ·show Act.put _ (some 25) _ = _
     simp only [Act.put,ls_,lz_,lc_,i64_w,i32_w]
     rfl
    refine one_ (i := 14) (N := some 30) #[true,true,true,true,true,true,true,true,true,true,true,true,true,true,true,true,true,true,true,false,false,true,false] rfl rfl (by kernel_rfl) (by decide) (fun K hK => ?_)
    refine goesV_ Tryd.func30 (by kernel_rfl) #[.int .i64 x2,.int .i64 y2,.pointer (some ⟨go,0,none⟩)] #[.pointer (some ⟨go,0,none⟩)] (by rfl) rfl rfl rfl ⟨by rfl,by (simp only [lm_,lq_,lx_];rfl)⟩ ?_
    with_reducible refine (C2.out _ _ _ HS.out).mono ?_
    rintro e w32 ⟨rfl,hs⟩
    refine ⟨_,rfl,?_⟩
    have HS' := sd_ hs
    clear hs HS
    have HS := HS'
    clear HS'
    refine hK.out _ _ ⟨HS.out.cell0,HS.out.cell1,HS.out.cell2,HS.out.cell3⟩ (fun hHeld => ?_)
    clear hK K
    refine norm_ (a' := ?_) ?_ ?_
    rotate_left
    ·show Act.put _ (some 30) _ = _
     simp only [Act.put,ls_,lz_,lc_,i64_w,i32_w]
     rfl
    refine one_ (i := 19) (N := some 35) #[true,true,true,true,true,true,true,true,true,true,true,true,true,true,true,true,true,true,true,true,false,true,false] rfl rfl (by kernel_rfl) (by decide) (fun K hK => ?_)
    refine goesV_ Tryd.func30 (by kernel_rfl) #[.int .i64 x3,.int .i64 y3,.pointer (some ⟨go,0,none⟩)] #[.pointer (some ⟨go,0,none⟩)] (by rfl) rfl rfl rfl ⟨by rfl,by (simp only [lm_,lq_,lx_];rfl)⟩ ?_
    with_reducible refine (C3.out _ _ _ HS.out).mono ?_
    rintro e w33 ⟨rfl,hs⟩
    refine ⟨_,rfl,?_⟩
    have HS' := sd_ hs
    clear hs HS
    have HS := HS'
    clear HS'
    refine hK.out _ _ ⟨HS.out.cell0,HS.out.cell1,HS.out.cell2,HS.out.cell3⟩ (fun hHeld => ?_)
    clear hK K
    refine norm_ (a' := ?_) ?_ ?_
    rotate_left
    ·show Act.put _ (some 35) _ = _
     simp only [Act.put,ls_,lz_,lc_,i64_w,i32_w]
     rfl
    refine pure_ (i := 20) (N := some 36) (v := ?_) (a' := ?_) #[true,true,true,true,true,true,true,true,true,true,true,true,true,true,true,true,true,true,true,true,true,true,false] rfl rfl (by kernel_rfl) (fun _ _ _ h => h) (Or.inl ⟨by rfl,?_⟩) ?_ ?_
    rotate_left;(intro w';go_simp;with_reducible rfl);rotate_left;(simp only [Act.put,ls_,lz_,lc_,i64_w,i32_w];rfl)
    exact norm_ (by simp only [putAll,Act.put,ls_,lz_,lc_]) (hCont _ _ HS.out)
  ·skip
   refine value_ (w1 := ?_) (v := ?_) (by rfl) rfl ?_ ?_
   rotate_left 2
   ·go_simp
    constructor
    ·rfl
    ·rfl
   have HS' := sd_ (Sh.alloc HS.out)
   clear HS
   have HS := HS'
   clear HS'
   refine hK.out _ _ ⟨HS.out.cell0,HS.out.cell1,HS.out.cell2,HS.out.cell3⟩ (fun hHeld => ?_)
   clear hK K
   refine norm_ (a' := ?_) ?_ ?_
   rotate_left
   ·show Act.put _ (some 14) _ = _
    simp only [Act.put,ls_,lz_,lc_,i64_w,i32_w]
    rfl
   refine one_ (i := 4) (N := some 20) #[true,true,true,true,true,true,true,true,true,false,true,true,true,true,false,true,true,true,true,false,false,true,false] rfl rfl (by kernel_rfl) (by decide) (fun K hK => ?_)
   refine goesV_ Tryd.func30 (by kernel_rfl) #[.int .i64 x0,.int .i64 y0,.pointer (some ⟨go,0,none⟩)] #[.pointer (some ⟨go,0,none⟩)] (by rfl) rfl rfl rfl ⟨by rfl,by (simp only [lm_,lq_,lx_];rfl)⟩ ?_
   with_reducible refine (C0.out _ _ _ HS.out).mono ?_
   rintro e w30 ⟨rfl,hs⟩
   refine ⟨_,rfl,?_⟩
   have HS' := sd_ hs
   clear hs HS
   have HS := HS'
   clear HS'
   refine hK.out _ _ ⟨HS.out.cell0,HS.out.cell1,HS.out.cell2,HS.out.cell3⟩ (fun hHeld => ?_)
   clear hK K
   refine norm_ (a' := ?_) ?_ ?_
   rotate_left
   ·show Act.put _ (some 20) _ = _
    simp only [Act.put,ls_,lz_,lc_,i64_w,i32_w]
    rfl
   refine one_ (i := 9) (N := some 25) #[true,true,true,true,true,true,true,true,true,true,true,true,true,true,false,true,true,true,true,false,false,true,false] rfl rfl (by kernel_rfl) (by decide) (fun K hK => ?_)
   refine goesV_ Tryd.func30 (by kernel_rfl) #[.int .i64 x1,.int .i64 y1,.pointer (some ⟨go,0,none⟩)] #[.pointer (some ⟨go,0,none⟩)] (by rfl) rfl rfl rfl ⟨by rfl,by (simp only [lm_,lq_,lx_];rfl)⟩ ?_
   with_reducible refine (C1.out _ _ _ HS.out).mono ?_
   rintro e w31 ⟨rfl,hs⟩
   refine ⟨_,rfl,?_⟩
   have HS' := sd_ hs
   clear hs HS
   have HS := HS'
   clear HS'
   refine hK.out _ _ ⟨HS.out.cell0,HS.out.cell1,HS.out.cell2,HS.out.cell3⟩ (fun hHeld => ?_)
   clear hK K
   refine norm_ (a' := ?_) ?_ ?_
   rotate_left
   ·show Act.put _ (some 25) _ = _
    simp only [Act.put,ls_,lz_,lc_,i64_w,i32_w]
    rfl
   refine one_ (i := 14) (N := some 30) #[true,true,true,true,true,true,true,true,true,true,true,true,true,true,true,true,true,true,true,false,false,true,false] rfl rfl (by kernel_rfl) (by decide) (fun K hK => ?_)
   refine goesV_ Tryd.func30 (by kernel_rfl) #[.int .i64 x2,.int .i64 y2,.pointer (some ⟨go,0,none⟩)] #[.pointer (some ⟨go,0,none⟩)] (by rfl) rfl rfl rfl ⟨by rfl,by (simp only [lm_,lq_,lx_];rfl)⟩ ?_
   with_reducible refine (C2.out _ _ _ HS.out).mono ?_
   rintro e w32 ⟨rfl,hs⟩
   refine ⟨_,rfl,?_⟩
   have HS' := sd_ hs
   clear hs HS
   have HS := HS'
   clear HS'
   refine hK.out _ _ ⟨HS.out.cell0,HS.out.cell1,HS.out.cell2,HS.out.cell3⟩ (fun hHeld => ?_)
   clear hK K
   refine norm_ (a' := ?_) ?_ ?_
   rotate_left
   ·show Act.put _ (some 30) _ = _
    simp only [Act.put,ls_,lz_,lc_,i64_w,i32_w]
    rfl
   refine one_ (i := 19) (N := some 35) #[true,true,true,true,true,true,true,true,true,true,true,true,true,true,true,true,true,true,true,true,false,true,false] rfl rfl (by kernel_rfl) (by decide) (fun K hK => ?_)
   refine goesV_ Tryd.func30 (by kernel_rfl) #[.int .i64 x3,.int .i64 y3,.pointer (some ⟨go,0,none⟩)] #[.pointer (some ⟨go,0,none⟩)] (by rfl) rfl rfl rfl ⟨by rfl,by (simp only [lm_,lq_,lx_];rfl)⟩ ?_
   with_reducible refine (C3.out _ _ _ HS.out).mono ?_
   rintro e w33 ⟨rfl,hs⟩
   refine ⟨_,rfl,?_⟩
   have HS' := sd_ hs
   clear hs HS
   have HS := HS'
   clear HS'
   refine hK.out _ _ ⟨HS.out.cell0,HS.out.cell1,HS.out.cell2,HS.out.cell3⟩ (fun hHeld => ?_)
   clear hK K
   refine norm_ (a' := ?_) ?_ ?_
   rotate_left
   ·show Act.put _ (some 35) _ = _
    simp only [Act.put,ls_,lz_,lc_,i64_w,i32_w]
    rfl
   refine pure_ (i := 20) (N := some 36) (v := ?_) (a' := ?_) #[true,true,true,true,true,true,true,true,true,true,true,true,true,true,true,true,true,true,true,true,true,true,false] rfl rfl (by kernel_rfl) (fun _ _ _ h => h) (Or.inl ⟨by rfl,?_⟩) ?_ ?_
   rotate_left;(intro w';go_simp;with_reducible rfl);rotate_left;(simp only [Act.put,ls_,lz_,lc_,i64_w,i32_w];rfl)
   exact norm_ (by simp only [putAll,Act.put,ls_,lz_,lc_]) (hCont _ _ HS.out)
 rintro ga W3 hs
 have HS := sd_ hs
 clear hs
 have hga := (HS.out.al ga rfl).1
 have hga0 : W3.cell? ⟨ga,0,none⟩ = some (.int .i64 0) := (kc_ hga 0).trans rfl
 have hga1 : W3.cell? ⟨ga,1,none⟩ = some (.int .i64 0) := (kc_ hga 1).trans rfl
 have hga2 : W3.cell? ⟨ga,2,none⟩ = some (.int .i64 0) := (kc_ hga 2).trans rfl
 have hga3 : W3.cell? ⟨ga,3,none⟩ = some (.int .i64 0) := (kc_ hga 3).trans rfl
 have hgf0 := kf_ hga 0
 have hgf1 := kf_ hga 1
 have hgf2 := kf_ hga 2
 have hgf3 := kf_ hga 3
 clear hga
 have hHeld := (⟨HS.out.cell0,HS.out.cell1,HS.out.cell2,HS.out.cell3⟩ : _ ∧ _ ∧ _ ∧ _)
 refine norm_ (a' := ?_) ?_ ?_
 rotate_left
 ·simp only [putAll,Act.put,ls_,lz_,lc_]
  rfl
 refine last_ (i := 22) (N := none) #[true,true,true,true,true,true,true,true,true,true,true,true,true,true,true,true,true,true,true,true,true,true,true] rfl rfl (by kernel_rfl) (by decide) (fun K hK => ?_)
 refine skip_ (w1 := ?_) (by rfl) rfl ?_ ?_
 rotate_left
 ·go_simp
  rfl
 refine hK.out _ _ ?_
 clear hK K
 refine done_ (by kernel_rfl) ?_
 clear hga0 hga1 hga2 hga3 hgf0 hgf1 hgf2 hgf3 hHeld C0 C1 C2 C3
 obtain ⟨k1,k2,k3,k4⟩ := HS.out.put s0 s1 s2 s3
 have K1 := sd_ k1
 have K2 := sd_ k2
 have K3 := sd_ k3
 have K4 := sd_ k4
 have R0 := HS.out.r0
 clear k1 k2 k3 k4 HS HS1
 generalize (((W3.setCell ⟨ga,0,none⟩ (.int .i64 s0)).setCell ⟨ga,1,none⟩ (.int .i64 s1)).setCell ⟨ga,2,none⟩ (.int .i64 s2)).setCell ⟨ga,3,none⟩ (.int .i64 s3) = W4 at K1 K2 K3 K4 ⊢
 have f0 := kf_ K1.out 0
 have f1 := kf_ K1.out 1
 have f2 := kf_ K1.out 2
 have f3 := kf_ K1.out 3
 have z0 : W4.cell? ⟨gr,0,none⟩ = some (.int .i64 0) := (kc_ K1.out 0).trans rfl
 have z1 : W4.cell? ⟨gr,1,none⟩ = some (.int .i64 0) := (kc_ K1.out 1).trans rfl
 have z2 : W4.cell? ⟨gr,2,none⟩ = some (.int .i64 0) := (kc_ K1.out 2).trans rfl
 have z3 : W4.cell? ⟨gr,3,none⟩ = some (.int .i64 0) := (kc_ K1.out 3).trans rfl
 by_cases c : c0 = 0 ∧ c1 = 0 ∧ c2 = 0 ∧ c3 = 0
 ·obtain ⟨rfl,rfl,rfl,rfl,rfl⟩ : s0 = r1 ∧ s1 = r2 ∧ s2 = r3 ∧ s3 = r4 ∧ 0 = r5 := by have q := H.out;rw [if_pos c] at q;simpa using q
  have ho : W4.cell? ⟨go,0,none⟩ = some (.bool true) := (kc_ K2.out 0).trans (by obtain ⟨rfl,rfl,rfl,rfl⟩ := c;rfl)
  have y0 : W4.cell? ⟨ga,0,none⟩ = some (.int .i64 s0) := (kc_ K3.out 0).trans rfl
  have y1 : W4.cell? ⟨ga,1,none⟩ = some (.int .i64 s1) := (kc_ K3.out 1).trans rfl
  have y2 : W4.cell? ⟨ga,2,none⟩ = some (.int .i64 s2) := (kc_ K3.out 2).trans rfl
  have y3 : W4.cell? ⟨ga,3,none⟩ = some (.int .i64 s3) := (kc_ K3.out 3).trans rfl
  clear c H
  go_wp2
  refine bodyPost_ret (results_ct rfl _ _ gr 23 #[.int .i64 s0,.int .i64 s1,.int .i64 s2,.int .i64 s3] (0,0) _ rfl (bx_put4 K1.out _ _ _ _) hu rfl (by kernel_rfl)) rfl ?_
  exact ⟨rfl,(((K4.out.setCell R0 _).setCell R0 _).setCell R0 _).setCell R0 _⟩
 ·obtain ⟨rfl,rfl,rfl,rfl,rfl⟩ : 0 = r1 ∧ 0 = r2 ∧ 0 = r3 ∧ 0 = r4 ∧ 3 = r5 := by have q := H.out;rw [if_neg c] at q;simpa using q
  have ho : W4.cell? ⟨go,0,none⟩ = some (.bool false) := (kc_ K2.out 0).trans (by
   have e : ((((true && (c0 == 0)) && (c1 == 0)) && (c2 == 0)) && (c3 == 0)) = false := by
    apply bf_
    intro q
    simp only [Bool.and_eq_true,beq_iff_eq] at q
    exact c ⟨q.1.1.1.2,q.1.1.2,q.1.2,q.2⟩
   rw [e]
   rfl)
  clear c H
  go_wp2
  refine bodyPost_ret (results_ct rfl _ _ gr 23 #[.int .i64 0,.int .i64 0,.int .i64 0,.int .i64 0] (0,0) _ rfl (bx_put4 K1.out _ _ _ _) hu rfl (by kernel_rfl)) rfl ?_
  exact ⟨rfl,(((K4.out.setCell R0 _).setCell R0 _).setCell R0 _).setCell R0 _⟩

/-! ### box_Move: function 8 -/
def box_Move.f (a0_0 : Int) (a0_1 : Int) (a0_2 : Int) (a0_3 : Int) (a1 : Int) (a2 : Int) : Option (Int × Int × Int × Int × Int) := (box_Check.f a0_0 a0_1 a0_2 a0_3).bind fun t103 => (if t103 = true then ((box_shifted.f a0_0 a0_1 a0_2 a0_3 a1 a2 a1 a2).bind fun bt104 => (some (bt104.1, bt104.2.1, bt104.2.2.1, bt104.2.2.2.1, bt104.2.2.2.2))) else (some (0, 0, 0, 0, 2)))
set_option maxHeartbeats 8000000 in
set_option maxRecDepth 100000 in
theorem box_Move.calls (a0_0 : Int) (a0_1 : Int) (a0_2 : Int) (a0_3 : Int) (a1 : Int) (a2 : Int) (r1 : Int) (r2 : Int) (r3 : Int) (r4 : Int) (r5 : Int) (w : World) (hE : Aside0 (LaidE w)) (h : box_Move.f a0_0 a0_1 a0_2 a0_3 a1 a2 = some (r1, r2, r3, r4, r5)) :
  Calls Tryd.prog 8 #[.agg #[.int .i64 a0_0,.int .i64 a0_1,.int .i64 a0_2,.int .i64 a0_3],.int .i64 a1,.int .i64 a2] w fun e w' => e = .returned (.tuple #[.agg #[.int .i64 r1,.int .i64 r2,.int .i64 r3,.int .i64 r4],.int .i64 r5]) ∧ Below w.heap.size w w' := by
 have hu23 := Tryd.underlying23
 have HB := sd_ (Below.refl w.heap.size w)
 have H : ((box_Check.f a0_0 a0_1 a0_2 a0_3).bind fun t103 => (if t103 = true then ((box_shifted.f a0_0 a0_1 a0_2 a0_3 a1 a2 a1 a2).bind fun bt104 => (some (bt104.1,bt104.2.1,bt104.2.2.1,bt104.2.2.2.1,bt104.2.2.2.2))) else (some (0,0,0,0,2)))) = some (r1,r2,r3,r4,r5) := h
 clear h
 replace H := ob_ H
 obtain ⟨t103,A40,H⟩ := H
 replace H : (if t103 = true then ((box_shifted.f a0_0 a0_1 a0_2 a0_3 a1 a2 a1 a2).bind fun bt104 => (some (bt104.1,bt104.2.1,bt104.2.2.1,bt104.2.2.2.1,bt104.2.2.2.2))) else (some (0,0,0,0,2))) = some (r1,r2,r3,r4,r5) := H
 have A4 := sd_ A40
 clear A40
 by_cases c5 : t103 = true
 ·subst c5
  have H1 : ((box_shifted.f a0_0 a0_1 a0_2 a0_3 a1 a2 a1 a2).bind fun bt104 => (some (bt104.1,bt104.2.1,bt104.2.2.1,bt104.2.2.2.1,bt104.2.2.2.2))) = some (r1,r2,r3,r4,r5) := by rw [if_pos rfl] at H;exact H
  clear H;have H := H1;clear H1
  replace H := ob_ H
  obtain ⟨⟨t104,t105,t106,t107,t108⟩,A60,H⟩ := H
  replace H : (some (t104,t105,t106,t107,t108)) = some (r1,r2,r3,r4,r5) := H
  have A6 := sd_ A60
  clear A60
  simp only [Option.some.injEq,Prod.mk.injEq] at H
  obtain ⟨rfl,rfl,rfl,rfl,rfl⟩ := H
  go_enter Tryd.func8,Tryd.ntmps8
  go_wp2_with (first|((with_reducible refine gate_dst (N := 3) rfl ?_);refine box_event ?hg (N := 3) ?hd (cs := #[.int .i64 a0_0,.int .i64 a0_1,.int .i64 a0_2,.int .i64 a0_3]) (t := 23) ?hr ?_;(case hd => rfl);(case hg => rfl);(case hr => first|(go_simp;done)|(go_simp;rfl));intro gb101 hg w7 hbox hb;have n0_ := sd_ (bt_ (by repeat (first|(with_reducible first|exact HB.out|apply ba_|apply pd_|apply d1_)|exact HB.out)) hb);have n1_ := sd_ (hbox);have n2_ := sd_ ((by rw [hg];exact (bz_ (by repeat (first|(with_reducible first|exact HB.out|apply ba_|apply pd_|apply d1_)|exact HB.out))) : w.heap.size ≤ gb101));have n3_ := sd_ ((by rw [hg];exact (bz_ (by repeat (first|(with_reducible first|exact HB.out|apply ba_|apply pd_|apply d1_)|exact HB.out))) : w.heap.size ≤ gb101));clear HB;have HB := n0_;have BK101 := n1_;have GW101 := n2_;have GE101 := n3_;clear n0_ n1_ n2_ n3_;clear hb hbox hg)|((with_reducible refine gate_dst (N := 6) rfl ?_);refine box_event ?hg (N := 6) ?hd (cs := #[.int .i64 0,.int .i64 0,.int .i64 0,.int .i64 0]) (t := 23) ?hr ?_;(case hd => rfl);(case hg => rfl);(case hr => first|(go_simp;done)|(go_simp;rfl));intro gb102 hg w8 hbox hb;have n0_ := sd_ (blk_below (g := gb101) (o := .cells #[.int .i64 a0_0,.int .i64 a0_1,.int .i64 a0_2,.int .i64 a0_3] 23 (0,0)) (by (with_reducible repeat first|apply kn_|apply kd_|apply ka_);exact BK101.out) hb);have n1_ := sd_ (bt_ (by repeat (first|(with_reducible first|exact HB.out|apply ba_|apply pd_|apply d1_|refine bs_ ?_ GE101.out)|exact HB.out)) hb);have n2_ := sd_ (hbox);have n3_ := sd_ ((by rw [hg];exact (bz_ (by repeat (first|(with_reducible first|exact HB.out|apply ba_|apply pd_|apply d1_|refine bs_ ?_ GE101.out)|exact HB.out))) : w.heap.size ≤ gb102));have n4_ := sd_ ((by rw [hg];exact (bz_ (by repeat (first|(with_reducible first|exact HB.out|apply ba_|apply pd_|apply d1_|refine bs_ ?_ GE101.out)|exact HB.out))) : w.heap.size ≤ gb102));have n5_ := sd_ ((by rw [hg];exact nn_ (blk_lt (g := gb101) (o := .cells #[.int .i64 a0_0,.int .i64 a0_1,.int .i64 a0_2,.int .i64 a0_3] 23 (0,0)) (by (with_reducible repeat first|apply kn_|apply kd_|apply ka_);exact BK101.out)) : gb101 ≠ gb102));have n6_ := sd_ ((by rw [hg];exact Nat.ne_of_gt (blk_lt (g := gb101) (o := .cells #[.int .i64 a0_0,.int .i64 a0_1,.int .i64 a0_2,.int .i64 a0_3] 23 (0,0)) (by (with_reducible repeat first|apply kn_|apply kd_|apply ka_);exact BK101.out)) : gb102 ≠ gb101));clear BK101;clear HB;have BK101 := n0_;have HB := n1_;have BK102 := n2_;have GW102 := n3_;have GE102 := n4_;have NB101_102 := n5_;have NB102_101 := n6_;clear n0_ n1_ n2_ n3_ n4_ n5_ n6_;clear hb hbox hg;have hnb9 := NB101_102.out;have hnc9 := NB102_101.out;have hcz10_0 : w8.cell? ⟨gb101,0,none⟩ = some (.int .i64 a0_0) := (kc_ BK101.out 0).trans rfl;have hcz10_1 : w8.cell? ⟨gb101,1,none⟩ = some (.int .i64 a0_1) := (kc_ BK101.out 1).trans rfl;have hcz10_2 : w8.cell? ⟨gb101,2,none⟩ = some (.int .i64 a0_2) := (kc_ BK101.out 2).trans rfl;have hcz10_3 : w8.cell? ⟨gb101,3,none⟩ = some (.int .i64 a0_3) := (kc_ BK101.out 3).trans rfl;have hfz10_0 := kf_ BK101.out 0;have hfz10_1 := kf_ BK101.out 1;have hfz10_2 := kf_ BK101.out 2;have hfz10_3 := kf_ BK101.out 3)|((with_reducible refine gate_callee (f := 12) rfl ?_);refine goesL_ (some 9) rfl rfl Tryd.func12 (by kernel_rfl) rfl #[.agg #[.int .i64 a0_0,.int .i64 a0_1,.int .i64 a0_2,.int .i64 a0_3]] rfl (by (try simp only [lm_,lq_,lx_]);first|done|rfl|(simp only [ld_,lt_];rfl)) ?_;(with_reducible refine (box_Check.calls a0_0 a0_1 a0_2 a0_3 true _ A4.out).mono ?_);rintro e w11 ⟨rfl,hb⟩;refine ⟨_,rfl,?_⟩;have n0_ := sd_ (blk_below (g := gb101) (o := .cells #[.int .i64 a0_0,.int .i64 a0_1,.int .i64 a0_2,.int .i64 a0_3] 23 (0,0)) (by (with_reducible repeat first|apply kn_|apply kd_|apply ka_);exact BK101.out) hb);have n1_ := sd_ (blk_below (g := gb102) (o := .cells #[.int .i64 0,.int .i64 0,.int .i64 0,.int .i64 0] 23 (0,0)) (by (with_reducible repeat first|apply kn_|apply kd_|apply ka_);exact BK102.out) hb);have n2_ := sd_ (bt_ (by repeat (first|(with_reducible first|exact HB.out|apply ba_|apply pd_|apply d1_|refine bs_ ?_ GE101.out|refine bs_ ?_ GE102.out)|exact HB.out)) hb);clear BK101;clear BK102;clear HB;have BK101 := n0_;have BK102 := n1_;have HB := n2_;clear n0_ n1_ n2_;(try clear hb);(try clear hb2);(try clear hk);(try clear hi);have hcz12_0 : w11.cell? ⟨gb101,0,none⟩ = some (.int .i64 a0_0) := (kc_ BK101.out 0).trans rfl;have hcz12_1 : w11.cell? ⟨gb101,1,none⟩ = some (.int .i64 a0_1) := (kc_ BK101.out 1).trans rfl;have hcz12_2 : w11.cell? ⟨gb101,2,none⟩ = some (.int .i64 a0_2) := (kc_ BK101.out 2).trans rfl;have hcz12_3 : w11.cell? ⟨gb101,3,none⟩ = some (.int .i64 a0_3) := (kc_ BK101.out 3).trans rfl;have hfz12_0 := kf_ BK101.out 0;have hfz12_1 := kf_ BK101.out 1;have hfz12_2 := kf_ BK101.out 2;have hfz12_3 := kf_ BK101.out 3)|((with_reducible refine gate_callee (f := 25) rfl ?_);refine goesL_ (some 17) rfl rfl Tryd.func25 (by kernel_rfl) rfl #[.agg #[.int .i64 a0_0,.int .i64 a0_1,.int .i64 a0_2,.int .i64 a0_3],.int .i64 a1,.int .i64 a2,.int .i64 a1,.int .i64 a2] rfl (by (try simp only [lm_,lq_,lx_]);first|done|rfl|(simp only [ld_,lt_];rfl)) ?_;(with_reducible refine (box_shifted.calls a0_0 a0_1 a0_2 a0_3 a1 a2 a1 a2 t104 t105 t106 t107 t108 _ ?side1 A6.out).mono ?_);(case side1 => first|(with_reducible exact hE)|exact sd_ (LaidE.below hE.out (by repeat (first|(with_reducible first|exact HB.out|apply ba_|apply pd_|apply d1_|refine bs_ ?_ GE101.out|refine bs_ ?_ GE102.out)|exact HB.out))));rintro e w13 ⟨rfl,hb⟩;refine ⟨_,rfl,?_⟩;have n0_ := sd_ (blk_below (g := gb101) (o := .cells #[.int .i64 a0_0,.int .i64 a0_1,.int .i64 a0_2,.int .i64 a0_3] 23 (0,0)) (by (with_reducible repeat first|apply kn_|apply kd_|apply ka_);exact BK101.out) hb);have n1_ := sd_ (blk_below (g := gb102) (o := .cells #[.int .i64 0,.int .i64 0,.int .i64 0,.int .i64 0] 23 (0,0)) (by (with_reducible repeat first|apply kn_|apply kd_|apply ka_);exact BK102.out) hb);have n2_ := sd_ (bt_ (by repeat (first|(with_reducible first|exact HB.out|apply ba_|apply pd_|apply d1_|refine bs_ ?_ GE101.out|refine bs_ ?_ GE102.out)|exact HB.out)) hb);clear BK101;clear BK102;clear HB;have BK101 := n0_;have BK102 := n1_;have HB := n2_;clear n0_ n1_ n2_;(try clear hb);(try clear hb2);(try clear hk);(try clear hi);have hcz14_0 : w13.cell? ⟨gb102,0,none⟩ = some (.int .i64 0) := (kc_ BK102.out 0).trans rfl;have hcz14_1 : w13.cell? ⟨gb102,1,none⟩ = some (.int .i64 0) := (kc_ BK102.out 1).trans rfl;have hcz14_2 : w13.cell? ⟨gb102,2,none⟩ = some (.int .i64 0) := (kc_ BK102.out 2).trans rfl;have hcz14_3 : w13.cell? ⟨gb102,3,none⟩ = some (.int .i64 0) := (kc_ BK102.out 3).trans rfl;have hfz14_0 := kf_ BK102.out 0;have hfz14_1 := kf_ BK102.out 1;have hfz14_2 := kf_ BK102.out 2;have hfz14_3 := kf_ BK102.out 3))
  refine bodyPost_ret (results_ct rfl _ _ gb102 23 #[.int .i64 t104,.int .i64 t105,.int .i64 t106,.int .i64 t107] (0,0) _ rfl (by (with_reducible repeat first|apply kn_|apply kd_|apply ka_);refine blk_put (cs := #[.int .i64 t104,.int .i64 t105,.int .i64 t106,.int .i64 0]) ?_ 3 _ rfl;(with_reducible repeat first|apply kn_|apply kd_|apply ka_);refine blk_put (cs := #[.int .i64 t104,.int .i64 t105,.int .i64 0,.int .i64 0]) ?_ 2 _ rfl;(with_reducible repeat first|apply kn_|apply kd_|apply ka_);refine blk_put (cs := #[.int .i64 t104,.int .i64 0,.int .i64 0,.int .i64 0]) ?_ 1 _ rfl;(with_reducible repeat first|apply kn_|apply kd_|apply ka_);refine blk_put (cs := #[.int .i64 0,.int .i64 0,.int .i64 0,.int .i64 0]) ?_ 0 _ rfl;(with_reducible repeat first|apply kn_|apply kd_|apply ka_);exact BK102.out) Tryd.underlying23 rfl (by kernel_rfl)) rfl ?_
  exact ⟨by first|rfl|(simp [errW_none,errW_some] <;> rfl)|(simp [*,errW_none,errW_some] <;> rfl),by repeat (first|(with_reducible first|exact HB.out|apply ba_|apply pd_|apply d1_|refine bs_ ?_ GE101.out|refine bs_ ?_ GE102.out)|exact HB.out)⟩
 ·replace c5 := bf_ c5
  subst c5
  have H1 : (some (0,0,0,0,2)) = some (r1,r2,r3,r4,r5) := by rw [if_neg (show ¬ (false = true) by decide)] at H;exact H
  clear H;have H := H1;clear H1
  simp only [Option.some.injEq,Prod.mk.injEq] at H
  obtain ⟨rfl,rfl,rfl,rfl,rfl⟩ := H
  go_enter Tryd.func8,Tryd.ntmps8
  go_wp2_with (first|((with_reducible refine gate_dst (N := 3) rfl ?_);refine box_event ?hg (N := 3) ?hd (cs := #[.int .i64 a0_0,.int .i64 a0_1,.int .i64 a0_2,.int .i64 a0_3]) (t := 23) ?hr ?_;(case hd => rfl);(case hg => rfl);(case hr => first|(go_simp;done)|(go_simp;rfl));intro gb101 hg w15 hbox hb;have n0_ := sd_ (bt_ (by repeat (first|(with_reducible first|exact HB.out|apply ba_|apply pd_|apply d1_)|exact HB.out)) hb);have n1_ := sd_ (hbox);have n2_ := sd_ ((by rw [hg];exact (bz_ (by repeat (first|(with_reducible first|exact HB.out|apply ba_|apply pd_|apply d1_)|exact HB.out))) : w.heap.size ≤ gb101));have n3_ := sd_ ((by rw [hg];exact (bz_ (by repeat (first|(with_reducible first|exact HB.out|apply ba_|apply pd_|apply d1_)|exact HB.out))) : w.heap.size ≤ gb101));clear HB;have HB := n0_;have BK101 := n1_;have GW101 := n2_;have GE101 := n3_;clear n0_ n1_ n2_ n3_;clear hb hbox hg)|((with_reducible refine gate_dst (N := 6) rfl ?_);refine box_event ?hg (N := 6) ?hd (cs := #[.int .i64 0,.int .i64 0,.int .i64 0,.int .i64 0]) (t := 23) ?hr ?_;(case hd => rfl);(case hg => rfl);(case hr => first|(go_simp;done)|(go_simp;rfl));intro gb102 hg w16 hbox hb;have n0_ := sd_ (blk_below (g := gb101) (o := .cells #[.int .i64 a0_0,.int .i64 a0_1,.int .i64 a0_2,.int .i64 a0_3] 23 (0,0)) (by (with_reducible repeat first|apply kn_|apply kd_|apply ka_);exact BK101.out) hb);have n1_ := sd_ (bt_ (by repeat (first|(with_reducible first|exact HB.out|apply ba_|apply pd_|apply d1_|refine bs_ ?_ GE101.out)|exact HB.out)) hb);have n2_ := sd_ (hbox);have n3_ := sd_ ((by rw [hg];exact (bz_ (by repeat (first|(with_reducible first|exact HB.out|apply ba_|apply pd_|apply d1_|refine bs_ ?_ GE101.out)|exact HB.out))) : w.heap.size ≤ gb102));have n4_ := sd_ ((by rw [hg];exact (bz_ (by repeat (first|(with_reducible first|exact HB.out|apply ba_|apply pd_|apply d1_|refine bs_ ?_ GE101.out)|exact HB.out))) : w.heap.size ≤ gb102));have n5_ := sd_ ((by rw [hg];exact nn_ (blk_lt (g := gb101) (o := .cells #[.int .i64 a0_0,.int .i64 a0_1,.int .i64 a0_2,.int .i64 a0_3] 23 (0,0)) (by (with_reducible repeat first|apply kn_|apply kd_|apply ka_);exact BK101.out)) : gb101 ≠ gb102));have n6_ := sd_ ((by rw [hg];exact Nat.ne_of_gt (blk_lt (g := gb101) (o := .cells #[.int .i64 a0_0,.int .i64 a0_1,.int .i64 a0_2,.int .i64 a0_3] 23 (0,0)) (by (with_reducible repeat first|apply kn_|apply kd_|apply ka_);exact BK101.out)) : gb102 ≠ gb101));clear BK101;clear HB;have BK101 := n0_;have HB := n1_;have BK102 := n2_;have GW102 := n3_;have GE102 := n4_;have NB101_102 := n5_;have NB102_101 := n6_;clear n0_ n1_ n2_ n3_ n4_ n5_ n6_;clear hb hbox hg;have hnb17 := NB101_102.out;have hnc17 := NB102_101.out;have hcz18_0 : w16.cell? ⟨gb101,0,none⟩ = some (.int .i64 a0_0) := (kc_ BK101.out 0).trans rfl;have hcz18_1 : w16.cell? ⟨gb101,1,none⟩ = some (.int .i64 a0_1) := (kc_ BK101.out 1).trans rfl;have hcz18_2 : w16.cell? ⟨gb101,2,none⟩ = some (.int .i64 a0_2) := (kc_ BK101.out 2).trans rfl;have hcz18_3 : w16.cell? ⟨gb101,3,none⟩ = some (.int .i64 a0_3) := (kc_ BK101.out 3).trans rfl;have hfz18_0 := kf_ BK101.out 0;have hfz18_1 := kf_ BK101.out 1;have hfz18_2 := kf_ BK101.out 2;have hfz18_3 := kf_ BK101.out 3)|((with_reducible refine gate_callee (f := 12) rfl ?_);refine goesL_ (some 9) rfl rfl Tryd.func12 (by kernel_rfl) rfl #[.agg #[.int .i64 a0_0,.int .i64 a0_1,.int .i64 a0_2,.int .i64 a0_3]] rfl (by (try simp only [lm_,lq_,lx_]);first|done|rfl|(simp only [ld_,lt_];rfl)) ?_;(with_reducible refine (box_Check.calls a0_0 a0_1 a0_2 a0_3 false _ A4.out).mono ?_);rintro e w19 ⟨rfl,hb⟩;refine ⟨_,rfl,?_⟩;have n0_ := sd_ (blk_below (g := gb101) (o := .cells #[.int .i64 a0_0,.int .i64 a0_1,.int .i64 a0_2,.int .i64 a0_3] 23 (0,0)) (by (with_reducible repeat first|apply kn_|apply kd_|apply ka_);exact BK101.out) hb);have n1_ := sd_ (blk_below (g := gb102) (o := .cells #[.int .i64 0,.int .i64 0,.int .i64 0,.int .i64 0] 23 (0,0)) (by (with_reducible repeat first|apply kn_|apply kd_|apply ka_);exact BK102.out) hb);have n2_ := sd_ (bt_ (by repeat (first|(with_reducible first|exact HB.out|apply ba_|apply pd_|apply d1_|refine bs_ ?_ GE101.out|refine bs_ ?_ GE102.out)|exact HB.out)) hb);clear BK101;clear BK102;clear HB;have BK101 := n0_;have BK102 := n1_;have HB := n2_;clear n0_ n1_ n2_;(try clear hb);(try clear hb2);(try clear hk);(try clear hi);have hcz20_0 : w19.cell? ⟨gb102,0,none⟩ = some (.int .i64 0) := (kc_ BK102.out 0).trans rfl;have hcz20_1 : w19.cell? ⟨gb102,1,none⟩ = some (.int .i64 0) := (kc_ BK102.out 1).trans rfl;have hcz20_2 : w19.cell? ⟨gb102,2,none⟩ = some (.int .i64 0) := (kc_ BK102.out 2).trans rfl;have hcz20_3 : w19.cell? ⟨gb102,3,none⟩ = some (.int .i64 0) := (kc_ BK102.out 3).trans rfl;have hfz20_0 := kf_ BK102.out 0;have hfz20_1 := kf_ BK102.out 1;have hfz20_2 := kf_ BK102.out 2;have hfz20_3 := kf_ BK102.out 3))
  refine bodyPost_ret (results_ct rfl _ _ gb102 23 #[.int .i64 0,.int .i64 0,.int .i64 0,.int .i64 0] (0,0) _ rfl (by (with_reducible repeat first|apply kn_|apply kd_|apply ka_);refine blk_put (cs := #[.int .i64 0,.int .i64 0,.int .i64 0,.int .i64 0]) ?_ 3 _ rfl;(with_reducible repeat first|apply kn_|apply kd_|apply ka_);refine blk_put (cs := #[.int .i64 0,.int .i64 0,.int .i64 0,.int .i64 0]) ?_ 2 _ rfl;(with_reducible repeat first|apply kn_|apply kd_|apply ka_);refine blk_put (cs := #[.int .i64 0,.int .i64 0,.int .i64 0,.int .i64 0]) ?_ 1 _ rfl;(with_reducible repeat first|apply kn_|apply kd_|apply ka_);refine blk_put (cs := #[.int .i64 0,.int .i64 0,.int .i64 0,.int .i64 0]) ?_ 0 _ rfl;(with_reducible repeat first|apply kn_|apply kd_|apply ka_);exact BK102.out) Tryd.underlying23 rfl (by kernel_rfl)) rfl ?_
  exact ⟨by first|rfl|(simp [errW_none,errW_some] <;> rfl)|(simp [*,errW_none,errW_some] <;> rfl),by repeat (first|(with_reducible first|exact HB.out|apply ba_|apply pd_|apply d1_|refine bs_ ?_ GE101.out|refine bs_ ?_ GE102.out)|exact HB.out)⟩

/-! ### box_Grow: function 10 -/
def box_Grow.f (a0_0 : Int) (a0_1 : Int) (a0_2 : Int) (a0_3 : Int) (a1 : Int) : Option (Int × Int × Int × Int × Int) := (box_Check.f a0_0 a0_1 a0_2 a0_3).bind fun t139 => (if t139 = true then ((fix_Ok.f a1).bind fun t140 => (if t140 = true then ((box_shifted.f a0_0 a0_1 a0_2 a0_3 (wrap64 (-a1)) (wrap64 (-a1)) a1 a1).bind fun bt141 => (if bt141.2.2.2.2 = 0 then ((box_Check.f bt141.1 bt141.2.1 bt141.2.2.1 bt141.2.2.2.1).bind fun t147 => (if t147 = true then (some (bt141.1, bt141.2.1, bt141.2.2.1, bt141.2.2.2.1, bt141.2.2.2.2)) else (some (0, 0, 0, 0, 2)))) else (some (bt141.1, bt141.2.1, bt141.2.2.1, bt141.2.2.2.1, bt141.2.2.2.2)))) else (some (0, 0, 0, 0, 3)))) else (some (0, 0, 0, 0, 2)))
set_option maxHeartbeats 8000000 in
set_option maxRecDepth 100000 in
theorem box_Grow.calls (a0_0 : Int) (a0_1 : Int) (a0_2 : Int) (a0_3 : Int) (a1 : Int) (r1 : Int) (r2 : Int) (r3 : Int) (r4 : Int) (r5 : Int) (w : World) (hE : Aside0 (LaidE w)) (h : box_Grow.f a0_0 a0_1 a0_2 a0_3 a1 = some (r1, r2, r3, r4, r5)) :
  Calls Tryd.prog 10 #[.agg #[.int .i64 a0_0,.int .i64 a0_1,.int .i64 a0_2,.int .i64 a0_3],.int .i64 a1] w fun e w' => e = .returned (.tuple #[.agg #[.int .i64 r1,.int .i64 r2,.int .i64 r3,.int .i64 r4],.int .i64 r5]) ∧ Below w.heap.size w w' := by
 have hu23 := Tryd.underlying23
 have HB := sd_ (Below.refl w.heap.size w)
 have H : ((box_Check.f a0_0 a0_1 a0_2 a0_3).bind fun t139 => (if t139 = true then ((fix_Ok.f a1).bind fun t140 => (if t140 = true then ((box_shifted.f a0_0 a0_1 a0_2 a0_3 (wrap64 (-a1)) (wrap64 (-a1)) a1 a1).bind fun bt141 => (if bt141.2.2.2.2 = 0 then ((box_Check.f bt141.1 bt141.2.1 bt141.2.2.1 bt141.2.2.2.1).bind fun t147 => (if t147 = true then (some (bt141.1,bt141.2.1,bt141.2.2.1,bt141.2.2.2.1,bt141.2.2.2.2)) else (some (0,0,0,0,2)))) else (some (bt141.1,bt141.2.1,bt141.2.2.1,bt141.2.2.2.1,bt141.2.2.2.2)))) else (some (0,0,0,0,3)))) else (some (0,0,0,0,2)))) = some (r1,r2,r3,r4,r5) := h
 clear h
 replace H := ob_ H
 obtain ⟨t139,A30,H⟩ := H
 replace H : (if t139 = true then ((fix_Ok.f a1).bind fun t140 => (if t140 = true then ((box_shifted.f a0_0 a0_1 a0_2 a0_3 (wrap64 (-a1)) (wrap64 (-a1)) a1 a1).bind fun bt141 => (if bt141.2.2.2.2 = 0 then ((box_Check.f bt141.1 bt141.2.1 bt141.2.2.1 bt141.2.2.2.1).bind fun t147 => (if t147 = true then (some (bt141.1,bt141.2.1,bt141.2.2.1,bt141.2.2.2.1,bt141.2.2.2.2)) else (some (0,0,0,0,2)))) else (some (bt141.1,bt141.2.1,bt141.2.2.1,bt141.2.2.2.1,bt141.2.2.2.2)))) else (some (0,0,0,0,3)))) else (some (0,0,0,0,2))) = some (r1,r2,r3,r4,r5) := H
 have A3 := sd_ A30
 clear A30
 by_cases c4 : t139 = true
 ·subst c4
  have H1 : ((fix_Ok.f a1).bind fun t140 => (if t140 = true then ((box_shifted.f a0_0 a0_1 a0_2 a0_3 (wrap64 (-a1)) (wrap64 (-a1)) a1 a1).bind fun bt141 => (if bt141.2.2.2.2 = 0 then ((box_Check.f bt141.1 bt141.2.1 bt141.2.2.1 bt141.2.2.2.1).bind fun t147 => (if t147 = true then (some (bt141.1,bt141.2.1,bt141.2.2.1,bt141.2.2.2.1,bt141.2.2.2.2)) else (some (0,0,0,0,2)))) else (some (bt141.1,bt141.2.1,bt141.2.2.1,bt141.2.2.2.1,bt141.2.2.2.2)))) else (some (0,0,0,0,3)))) = some (r1,r2,r3,r4,r5) := by rw [if_pos rfl] at H;exact H
  clear H;have H := H1;clear H1
  replace H := ob_ H
  obtain ⟨t140,A50,H⟩ := H
  replace H : (if t140 = true then ((box_shifted.f a0_0 a0_1 a0_2 a0_3 (wrap64 (-a1)) (wrap64 (-a1)) a1 a1).bind fun bt141 => (if bt141.2.2.2.2 = 0 then ((box_Check.f bt141.1 bt141.2.1 bt141.2.2.1 bt141.2.2.2.1).bind fun t147 => (if t147 = true then (some (bt141.1,bt141.2.1,bt141.2.2.1,bt141.2.2.2.1,bt141.2.2.2.2)) else (some (0,0,0,0,2)))) else (some (bt141.1,bt141.2.1,bt141.2.2.1,bt141.2.2.2.1,bt141.2.2.2.2)))) else (some (0,0,0,0,3))) = some (r1,r2,r3,r4,r5) := H
  have A5 := sd_ A50
  clear A50
  by_cases c6 : t140 = true
  ·subst c6
   have H1 : ((box_shifted.f a0_0 a0_1 a0_2 a0_3 (wrap64 (-a1)) (wrap64 (-a1)) a1 a1).bind fun bt141 => (if bt141.2.2.2.2 = 0 then ((box_Check.f bt141.1 bt141.2.1 bt141.2.2.1 bt141.2.2.2.1).bind fun t147 => (if t147 = true then (some (bt141.1,bt141.2.1,bt141.2.2.1,bt141.2.2.2.1,bt141.2.2.2.2)) else (some (0,0,0,0,2)))) else (some (bt141.1,bt141.2.1,bt141.2.2.1,bt141.2.2.2.1,bt141.2.2.2.2)))) = some (r1,r2,r3,r4,r5) := by rw [if_pos rfl] at H;exact H
   clear H;have H := H1;clear H1
   replace H := ob_ H
   obtain ⟨⟨t141,t142,t143,t144,t145⟩,A70,H⟩ := H
   replace H : (if t145 = 0 then ((box_Check.f t141 t142 t143 t144).bind fun t147 => (if t147 = true then (some (t141,t142,t143,t144,t145)) else (some (0,0,0,0,2)))) else (some (t141,t142,t143,t144,t145))) = some (r1,r2,r3,r4,r5) := H
   have A7 := sd_ A70
   clear A70
   by_cases c8 : t145 = 0
   ·rw [if_pos c8] at H
    have c8b0 : (t145 == 0) = true := beq_iff_eq.mpr c8
    have c8b1 : (t145 != 0) = false := bne_eq_false_iff_eq.mpr c8
    clear c8
    replace H := ob_ H
    obtain ⟨t147,A90,H⟩ := H
    replace H : (if t147 = true then (some (t141,t142,t143,t144,t145)) else (some (0,0,0,0,2))) = some (r1,r2,r3,r4,r5) := H
    have A9 := sd_ A90
    clear A90
    by_cases c10 : t147 = true
    ·subst c10
     have H1 : (some (t141,t142,t143,t144,t145)) = some (r1,r2,r3,r4,r5) := by rw [if_pos rfl] at H;exact H
     clear H;have H := H1;clear H1
     simp only [Option.some.injEq,Prod.mk.injEq] at H
     obtain ⟨rfl,rfl,rfl,rfl,rfl⟩ := H
     go_enter Tryd.func10,Tryd.ntmps10
     go_wp2_with (first|((with_reducible refine gate_dst (N := 2) rfl ?_);refine box_event ?hg (N := 2) ?hd (cs := #[.int .i64 a0_0,.int .i64 a0_1,.int .i64 a0_2,.int .i64 a0_3]) (t := 23) ?hr ?_;(case hd => rfl);(case hg => rfl);(case hr => first|(go_simp;done)|(go_simp;rfl));intro gb137 hg w11 hbox hb;have n0_ := sd_ (bt_ (by repeat (first|(with_reducible first|exact HB.out|apply ba_|apply pd_|apply d1_)|exact HB.out)) hb);have n1_ := sd_ (hbox);have n2_ := sd_ ((by rw [hg];exact (bz_ (by repeat (first|(with_reducible first|exact HB.out|apply ba_|apply pd_|apply d1_)|exact HB.out))) : w.heap.size ≤ gb137));have n3_ := sd_ ((by rw [hg];exact (bz_ (by repeat (first|(with_reducible first|exact HB.out|apply ba_|apply pd_|apply d1_)|exact HB.out))) : w.heap.size ≤ gb137));clear HB;have HB := n0_;have BK137 := n1_;have GW137 := n2_;have GE137 := n3_;clear n0_ n1_ n2_ n3_;clear hb hbox hg)|((with_reducible refine gate_dst (N := 4) rfl ?_);refine box_event ?hg (N := 4) ?hd (cs := #[.int .i64 0,.int .i64 0,.int .i64 0,.int .i64 0]) (t := 23) ?hr ?_;(case hd => rfl);(case hg => rfl);(case hr => first|(go_simp;done)|(go_simp;rfl));intro gb138 hg w12 hbox hb;have n0_ := sd_ (blk_below (g := gb137) (o := .cells #[.int .i64 a0_0,.int .i64 a0_1,.int .i64 a0_2,.int .i64 a0_3] 23 (0,0)) (by (with_reducible repeat first|apply kn_|apply kd_|apply ka_);exact BK137.out) hb);have n1_ := sd_ (bt_ (by repeat (first|(with_reducible first|exact HB.out|apply ba_|apply pd_|apply d1_|refine bs_ ?_ GE137.out)|exact HB.out)) hb);have n2_ := sd_ (hbox);have n3_ := sd_ ((by rw [hg];exact (bz_ (by repeat (first|(with_reducible first|exact HB.out|apply ba_|apply pd_|apply d1_|refine bs_ ?_ GE137.out)|exact HB.out))) : w.heap.size ≤ gb138));have n4_ := sd_ ((by rw [hg];exact (bz_ (by repeat (first|(with_reducible first|exact HB.out|apply ba_|apply pd_|apply d1_|refine bs_ ?_ GE137.out)|exact HB.out))) : w.heap.size ≤ gb138));have n5_ := sd_ ((by rw [hg];exact nn_ (blk_lt (g := gb137) (o := .cells #[.int .i64 a0_0,.int .i64 a0_1,.int .i64 a0_2,.int .i64 a0_3] 23 (0,0)) (by (with_reducible repeat first|apply kn_|apply kd_|apply ka_);exact BK137.out)) : gb137 ≠ gb138));have n6_ := sd_ ((by rw [hg];exact Nat.ne_of_gt (blk_lt (g := gb137) (o := .cells #[.int .i64 a0_0,.int .i64 a0_1,.int .i64 a0_2,.int .i64 a0_3] 23 (0,0)) (by (with_reducible repeat first|apply kn_|apply kd_|apply ka_);exact BK137.out)) : gb138 ≠ gb137));clear BK137;clear HB;have BK137 := n0_;have HB := n1_;have BK138 := n2_;have GW138 := n3_;have GE138 := n4_;have NB137_138 := n5_;have NB138_137 := n6_;clear n0_ n1_ n2_ n3_ n4_ n5_ n6_;clear hb hbox hg;have hnb13 := NB137_138.out;have hnc13 := NB138_137.out;have hcz14_0 : w12.cell? ⟨gb137,0,none⟩ = some (.int .i64 a0_0) := (kc_ BK137.out 0).trans rfl;have hcz14_1 : w12.cell? ⟨gb137,1,none⟩ = some (.int .i64 a0_1) := (kc_ BK137.out 1).trans rfl;have hcz14_2 : w12.cell? ⟨gb137,2,none⟩ = some (.int .i64 a0_2) := (kc_ BK137.out 2).trans rfl;have hcz14_3 : w12.cell? ⟨gb137,3,none⟩ = some (.int .i64 a0_3) := (kc_ BK137.out 3).trans rfl;have hfz14_0 := kf_ BK137.out 0;have hfz14_1 := kf_ BK137.out 1;have hfz14_2 := kf_ BK137.out 2;have hfz14_3 := kf_ BK137.out 3)|((with_reducible refine gate_callee (f := 12) rfl ?_);refine goesL_ (some 10) rfl rfl Tryd.func12 (by kernel_rfl) rfl #[.agg #[.int .i64 a0_0,.int .i64 a0_1,.int .i64 a0_2,.int .i64 a0_3]] rfl (by (try simp only [lm_,lq_,lx_]);first|done|rfl|(simp only [ld_,lt_];rfl)) ?_;(with_reducible refine (box_Check.calls a0_0 a0_1 a0_2 a0_3 true _ A3.out).mono ?_);rintro e w15 ⟨rfl,hb⟩;refine ⟨_,rfl,?_⟩;have n0_ := sd_ (blk_below (g := gb137) (o := .cells #[.int .i64 a0_0,.int .i64 a0_1,.int .i64 a0_2,.int .i64 a0_3] 23 (0,0)) (by (with_reducible repeat first|apply kn_|apply kd_|apply ka_);exact BK137.out) hb);have n1_ := sd_ (blk_below (g := gb138) (o := .cells #[.int .i64 0,.int .i64 0,.int .i64 0,.int .i64 0] 23 (0,0)) (by (with_reducible repeat first|apply kn_|apply kd_|apply ka_);exact BK138.out) hb);have n2_ := sd_ (bt_ (by repeat (first|(with_reducible first|exact HB.out|apply ba_|apply pd_|apply d1_|refine bs_ ?_ GE137.out|refine bs_ ?_ GE138.out)|exact HB.out)) hb);clear BK137;clear BK138;clear HB;have BK137 := n0_;have BK138 := n1_;have HB := n2_;clear n0_ n1_ n2_;(try clear hb);(try clear hb2);(try clear hk);(try clear hi))|((with_reducible refine gate_callee (f := 27) rfl ?_);refine goesL_ (some 15) rfl rfl Tryd.func27 (by kernel_rfl) rfl #[.int .i64 a1] rfl (by (try simp only [lm_,lq_,lx_]);first|done|rfl|(simp only [ld_,lt_];rfl)) ?_;(with_reducible refine (fix_Ok.calls a1 true _ A5.out).mono ?_);rintro e w' ⟨rfl,⟨nd,rfl⟩⟩;refine ⟨_,rfl,?_⟩;(try (rw [drewN_self w15];generalize hq_ : World.drewN w15 _ = w15;have n0_ : Aside0 (w15.heap[gb137]? = some (.cells #[.int .i64 a0_0,.int .i64 a0_1,.int .i64 a0_2,.int .i64 a0_3] 23 (0,0))) := ⟨by rw [← hq_];exact (by (with_reducible repeat first|apply kn_|apply kd_|apply ka_);exact BK137.out)⟩;have n1_ : Aside0 (w15.heap[gb138]? = some (.cells #[.int .i64 0,.int .i64 0,.int .i64 0,.int .i64 0] 23 (0,0))) := ⟨by rw [← hq_];exact (by (with_reducible repeat first|apply kn_|apply kd_|apply ka_);exact BK138.out)⟩;have n2_ : Aside0 (Below w.heap.size w w15) := ⟨by rw [← hq_];exact (by repeat (first|(with_reducible first|exact HB.out|apply ba_|apply pd_|apply d1_|refine bs_ ?_ GE137.out|refine bs_ ?_ GE138.out)|exact HB.out))⟩;clear BK137 BK138 HB hq_;have BK137 := n0_;have BK138 := n1_;have HB := n2_;clear n0_ n1_ n2_));have hcz16_0 : w15.cell? ⟨gb137,0,none⟩ = some (.int .i64 a0_0) := (kc_ BK137.out 0).trans rfl;have hcz16_1 : w15.cell? ⟨gb137,1,none⟩ = some (.int .i64 a0_1) := (kc_ BK137.out 1).trans rfl;have hcz16_2 : w15.cell? ⟨gb137,2,none⟩ = some (.int .i64 a0_2) := (kc_ BK137.out 2).trans rfl;have hcz16_3 : w15.cell? ⟨gb137,3,none⟩ = some (.int .i64 a0_3) := (kc_ BK137.out 3).trans rfl;have hfz16_0 := kf_ BK137.out 0;have hfz16_1 := kf_ BK137.out 1;have hfz16_2 := kf_ BK137.out 2;have hfz16_3 := kf_ BK137.out 3)|((with_reducible refine gate_callee (f := 25) rfl ?_);refine goesL_ (some 26) rfl rfl Tryd.func25 (by kernel_rfl) rfl #[.agg #[.int .i64 a0_0,.int .i64 a0_1,.int .i64 a0_2,.int .i64 a0_3],.int .i64 (wrap64 (-a1)),.int .i64 (wrap64 (-a1)),.int .i64 a1,.int .i64 a1] rfl (by (try simp only [lm_,lq_,lx_]);first|done|rfl|(simp only [ld_,lt_];rfl)) ?_;(with_reducible refine (box_shifted.calls a0_0 a0_1 a0_2 a0_3 (wrap64 (-a1)) (wrap64 (-a1)) a1 a1 t141 t142 t143 t144 t145 _ ?side1 A7.out).mono ?_);(case side1 => first|(with_reducible exact hE)|exact sd_ (LaidE.below hE.out (by repeat (first|(with_reducible first|exact HB.out|apply ba_|apply pd_|apply d1_|refine bs_ ?_ GE137.out|refine bs_ ?_ GE138.out)|exact HB.out))));rintro e w17 ⟨rfl,hb⟩;refine ⟨_,rfl,?_⟩;have n0_ := sd_ (blk_below (g := gb137) (o := .cells #[.int .i64 a0_0,.int .i64 a0_1,.int .i64 a0_2,.int .i64 a0_3] 23 (0,0)) (by (with_reducible repeat first|apply kn_|apply kd_|apply ka_);exact BK137.out) hb);have n1_ := sd_ (blk_below (g := gb138) (o := .cells #[.int .i64 0,.int .i64 0,.int .i64 0,.int .i64 0] 23 (0,0)) (by (with_reducible repeat first|apply kn_|apply kd_|apply ka_);exact BK138.out) hb);have n2_ := sd_ (bt_ (by repeat (first|(with_reducible first|exact HB.out|apply ba_|apply pd_|apply d1_|refine bs_ ?_ GE137.out|refine bs_ ?_ GE138.out)|exact HB.out)) hb);clear BK137;clear BK138;clear HB;have BK137 := n0_;have BK138 := n1_;have HB := n2_;clear n0_ n1_ n2_;(try clear hb);(try clear hb2);(try clear hk);(try clear hi))|((with_reducible refine gate_dst (N := 6) rfl ?_);refine box_event ?hg (N := 6) ?hd (cs := #[.int .i64 0,.int .i64 0,.int .i64 0,.int .i64 0]) (t := 23) ?hr ?_;(case hd => rfl);(case hg => rfl);(case hr => first|(go_simp;done)|(go_simp;rfl));intro gb146 hg w18 hbox hb;have n0_ := sd_ (blk_below (g := gb137) (o := .cells #[.int .i64 a0_0,.int .i64 a0_1,.int .i64 a0_2,.int .i64 a0_3] 23 (0,0)) (by (with_reducible repeat first|apply kn_|apply kd_|apply ka_);exact BK137.out) hb);have n1_ := sd_ (blk_below (g := gb138) (o := .cells #[.int .i64 0,.int .i64 0,.int .i64 0,.int .i64 0] 23 (0,0)) (by (with_reducible repeat first|apply kn_|apply kd_|apply ka_);exact BK138.out) hb);have n2_ := sd_ (bt_ (by repeat (first|(with_reducible first|exact HB.out|apply ba_|apply pd_|apply d1_|refine bs_ ?_ GE137.out|refine bs_ ?_ GE138.out)|exact HB.out)) hb);have n3_ := sd_ (hbox);have n4_ := sd_ ((by rw [hg];exact (bz_ (by repeat (first|(with_reducible first|exact HB.out|apply ba_|apply pd_|apply d1_|refine bs_ ?_ GE137.out|refine bs_ ?_ GE138.out)|exact HB.out))) : w.heap.size ≤ gb146));have n5_ := sd_ ((by rw [hg];exact (bz_ (by repeat (first|(with_reducible first|exact HB.out|apply ba_|apply pd_|apply d1_|refine bs_ ?_ GE137.out|refine bs_ ?_ GE138.out)|exact HB.out))) : w.heap.size ≤ gb146));have n6_ := sd_ ((by rw [hg];exact nn_ (blk_lt (g := gb137) (o := .cells #[.int .i64 a0_0,.int .i64 a0_1,.int .i64 a0_2,.int .i64 a0_3] 23 (0,0)) (by (with_reducible repeat first|apply kn_|apply kd_|apply ka_);exact BK137.out)) : gb137 ≠ gb146));have n7_ := sd_ ((by rw [hg];exact Nat.ne_of_gt (blk_lt (g := gb137) (o := .cells #[.int .i64 a0_0,.int .i64 a0_1,.int .i64 a0_2,.int .i64 a0_3] 23 (0,0)) (by (with_reducible repeat first|apply kn_|apply kd_|apply ka_);exact BK137.out)) : gb146 ≠ gb137));have n8_ := sd_ ((by rw [hg];exact nn_ (blk_lt (g := gb138) (o := .cells #[.int .i64 0,.int .i64 0,.int .i64 0,.int .i64 0] 23 (0,0)) (by (with_reducible repeat first|apply kn_|apply kd_|apply ka_);exact BK138.out)) : gb138 ≠ gb146));have n9_ := sd_ ((by rw [hg];exact Nat.ne_of_gt (blk_lt (g := gb138) (o := .cells #[.int .i64 0,.int .i64 0,.int .i64 0,.int .i64 0] 23 (0,0)) (by (with_reducible repeat first|apply kn_|apply kd_|apply ka_);exact BK138.out)) : gb146 ≠ gb138));clear BK137;clear BK138;clear HB;have BK137 := n0_;have BK138 := n1_;have HB := n2_;have BK146 := n3_;have GW146 := n4_;have GE146 := n5_;have NB137_146 := n6_;have NB146_137 := n7_;have NB138_146 := n8_;have NB146_138 := n9_;clear n0_ n1_ n2_ n3_ n4_ n5_ n6_ n7_ n8_ n9_;clear hb hbox hg;have hnb19 := NB146_137.out;have hnc19 := NB137_146.out;have hnb20 := NB146_138.out;have hnc20 := NB138_146.out;have hcz21_0 : w18.cell? ⟨gb146,0,none⟩ = some (.int .i64 0) := (kc_ BK146.out 0).trans rfl;have hcz21_1 : w18.cell? ⟨gb146,1,none⟩ = some (.int .i64 0) := (kc_ BK146.out 1).trans rfl;have hcz21_2 : w18.cell? ⟨gb146,2,none⟩ = some (.int .i64 0) := (kc_ BK146.out 2).trans rfl;have hcz21_3 : w18.cell? ⟨gb146,3,none⟩ = some (.int .i64 0) := (kc_ BK146.out 3).trans rfl;have hfz21_0 := kf_ BK146.out 0;have hfz21_1 := kf_ BK146.out 1;have hfz21_2 := kf_ BK146.out 2;have hfz21_3 := kf_ BK146.out 3)|(go_at_call 12;(with_reducible refine (box_Check.calls t141 t142 t143 t144 true _ A9.out).mono ?_);rintro e w22 ⟨rfl,hb⟩;have n0_ := sd_ (blk_below (g := gb137) (o := .cells #[.int .i64 a0_0,.int .i64 a0_1,.int .i64 a0_2,.int .i64 a0_3] 23 (0,0)) (by (with_reducible repeat first|apply kn_|apply kd_|apply ka_);refine blk_far ?_ NB137_146.out _;(with_reducible repeat first|apply kn_|apply kd_|apply ka_);refine blk_far ?_ NB137_146.out _;(with_reducible repeat first|apply kn_|apply kd_|apply ka_);refine blk_far ?_ NB137_146.out _;(with_reducible repeat first|apply kn_|apply kd_|apply ka_);refine blk_far ?_ NB137_146.out _;(with_reducible repeat first|apply kn_|apply kd_|apply ka_);exact BK137.out) hb);have n1_ := sd_ (blk_below (g := gb138) (o := .cells #[.int .i64 0,.int .i64 0,.int .i64 0,.int .i64 0] 23 (0,0)) (by (with_reducible repeat first|apply kn_|apply kd_|apply ka_);refine blk_far ?_ NB138_146.out _;(with_reducible repeat first|apply kn_|apply kd_|apply ka_);refine blk_far ?_ NB138_146.out _;(with_reducible repeat first|apply kn_|apply kd_|apply ka_);refine blk_far ?_ NB138_146.out _;(with_reducible repeat first|apply kn_|apply kd_|apply ka_);refine blk_far ?_ NB138_146.out _;(with_reducible repeat first|apply kn_|apply kd_|apply ka_);exact BK138.out) hb);have n2_ := sd_ (blk_below (g := gb146) (o := .cells #[.int .i64 t141,.int .i64 t142,.int .i64 t143,.int .i64 t144] 23 (0,0)) (by (with_reducible repeat first|apply kn_|apply kd_|apply ka_);refine blk_put (cs := #[.int .i64 t141,.int .i64 t142,.int .i64 t143,.int .i64 0]) ?_ 3 _ rfl;(with_reducible repeat first|apply kn_|apply kd_|apply ka_);refine blk_put (cs := #[.int .i64 t141,.int .i64 t142,.int .i64 0,.int .i64 0]) ?_ 2 _ rfl;(with_reducible repeat first|apply kn_|apply kd_|apply ka_);refine blk_put (cs := #[.int .i64 t141,.int .i64 0,.int .i64 0,.int .i64 0]) ?_ 1 _ rfl;(with_reducible repeat first|apply kn_|apply kd_|apply ka_);refine blk_put (cs := #[.int .i64 0,.int .i64 0,.int .i64 0,.int .i64 0]) ?_ 0 _ rfl;(with_reducible repeat first|apply kn_|apply kd_|apply ka_);exact BK146.out) hb);have n3_ := sd_ (bt_ (by repeat (first|(with_reducible first|exact HB.out|apply ba_|apply pd_|apply d1_|refine bs_ ?_ GE137.out|refine bs_ ?_ GE138.out|refine bs_ ?_ GE146.out)|exact HB.out)) hb);clear BK137;clear BK138;clear BK146;clear HB;have BK137 := n0_;have BK138 := n1_;have BK146 := n2_;have HB := n3_;clear n0_ n1_ n2_ n3_;(try clear hb);(try clear hb2);(try clear hk);(try clear hi);have hcz23_0 : w22.cell? ⟨gb146,0,none⟩ = some (.int .i64 t141) := (kc_ BK146.out 0).trans rfl;have hcz23_1 : w22.cell? ⟨gb146,1,none⟩ = some (.int .i64 t142) := (kc_ BK146.out 1).trans rfl;have hcz23_2 : w22.cell? ⟨gb146,2,none⟩ = some (.int .i64 t143) := (kc_ BK146.out 2).trans rfl;have hcz23_3 : w22.cell? ⟨gb146,3,none⟩ = some (.int .i64 t144) := (kc_ BK146.out 3).trans rfl;have hfz23_0 := kf_ BK146.out 0;have hfz23_1 := kf_ BK146.out 1;have hfz23_2 := kf_ BK146.out 2;have hfz23_3 := kf_ BK146.out 3;have hcz24_0 : w22.cell? ⟨gb138,0,none⟩ = some (.int .i64 0) := (kc_ BK138.out 0).trans rfl;have hcz24_1 : w22.cell? ⟨gb138,1,none⟩ = some (.int .i64 0) := (kc_ BK138.out 1).trans rfl;have hcz24_2 : w22.cell? ⟨gb138,2,none⟩ = some (.int .i64 0) := (kc_ BK138.out 2).trans rfl;have hcz24_3 : w22.cell? ⟨gb138,3,none⟩ = some (.int .i64 0) := (kc_ BK138.out 3).trans rfl;have hfz24_0 := kf_ BK138.out 0;have hfz24_1 := kf_ BK138.out 1;have hfz24_2 := kf_ BK138.out 2;have hfz24_3 := kf_ BK138.out 3))
     refine bodyPost_ret (results_ct rfl _ _ gb138 23 #[.int .i64 t141,.int .i64 t142,.int .i64 t143,.int .i64 t144] (0,0) _ rfl (by (with_reducible repeat first|apply kn_|apply kd_|apply ka_);refine blk_put (cs := #[.int .i64 t141,.int .i64 t142,.int .i64 t143,.int .i64 0]) ?_ 3 _ rfl;(with_reducible repeat first|apply kn_|apply kd_|apply ka_);refine blk_put (cs := #[.int .i64 t141,.int .i64 t142,.int .i64 0,.int .i64 0]) ?_ 2 _ rfl;(with_reducible repeat first|apply kn_|apply kd_|apply ka_);refine blk_put (cs := #[.int .i64 t141,.int .i64 0,.int .i64 0,.int .i64 0]) ?_ 1 _ rfl;(with_reducible repeat first|apply kn_|apply kd_|apply ka_);refine blk_put (cs := #[.int .i64 0,.int .i64 0,.int .i64 0,.int .i64 0]) ?_ 0 _ rfl;(with_reducible repeat first|apply kn_|apply kd_|apply ka_);exact BK138.out) Tryd.underlying23 rfl (by kernel_rfl)) rfl ?_
     exact ⟨by first|rfl|(simp [errW_none,errW_some] <;> rfl)|(simp [*,errW_none,errW_some] <;> rfl),by repeat (first|(with_reducible first|exact HB.out|apply ba_|apply pd_|apply d1_|refine bs_ ?_ GE137.out|refine bs_ ?_ GE138.out|refine bs_ ?_ GE146.out)|exact HB.out)⟩
    ·replace c10 := bf_ c10
     subst c10
     have H1 : (some (0,0,0,0,2)) = some (r1,r2,r3,r4,r5) := by rw [if_neg (show ¬ (false = true) by decide)] at H;exact H
     clear H;have H := H1;clear H1
     simp only [Option.some.injEq,Prod.mk.injEq] at H
     obtain ⟨rfl,rfl,rfl,rfl,rfl⟩ := H
     go_enter Tryd.func10,Tryd.ntmps10
     go_wp2_with (first|((with_reducible refine gate_dst (N := 2) rfl ?_);refine box_event ?hg (N := 2) ?hd (cs := #[.int .i64 a0_0,.int .i64 a0_1,.int .i64 a0_2,.int .i64 a0_3]) (t := 23) ?hr ?_;(case hd => rfl);(case hg => rfl);(case hr => first|(go_simp;done)|(go_simp;rfl));intro gb137 hg w25 hbox hb;have n0_ := sd_ (bt_ (by repeat (first|(with_reducible first|exact HB.out|apply ba_|apply pd_|apply d1_)|exact HB.out)) hb);have n1_ := sd_ (hbox);have n2_ := sd_ ((by rw [hg];exact (bz_ (by repeat (first|(with_reducible first|exact HB.out|apply ba_|apply pd_|apply d1_)|exact HB.out))) : w.heap.size ≤ gb137));have n3_ := sd_ ((by rw [hg];exact (bz_ (by repeat (first|(with_reducible first|exact HB.out|apply ba_|apply pd_|apply d1_)|exact HB.out))) : w.heap.size ≤ gb137));clear HB;have HB := n0_;have BK137 := n1_;have GW137 := n2_;have GE137 := n3_;clear n0_ n1_ n2_ n3_;clear hb hbox hg)|((with_reducible refine gate_dst (N := 4) rfl ?_);refine box_event ?hg (N := 4) ?hd (cs := #[.int .i64 0,.int .i64 0,.int .i64 0,.int .i64 0]) (t := 23) ?hr ?_;(case hd => rfl);(case hg => rfl);(case hr => first|(go_simp;done)|(go_simp;rfl));intro gb138 hg w26 hbox hb;have n0_ := sd_ (blk_below (g := gb137) (o := .cells #[.int .i64 a0_0,.int .i64 a0_1,.int .i64 a0_2,.int .i64 a0_3] 23 (0,0)) (by (with_reducible repeat first|apply kn_|apply kd_|apply ka_);exact BK137.out) hb);have n1_ := sd_ (bt_ (by repeat (first|(with_reducible first|exact HB.out|apply ba_|apply pd_|apply d1_|refine bs_ ?_ GE137.out)|exact HB.out)) hb);have n2_ := sd_ (hbox);have n3_ := sd_ ((by rw [hg];exact (bz_ (by repeat (first|(with_reducible first|exact HB.out|apply ba_|apply pd_|apply d1_|refine bs_ ?_ GE137.out)|exact HB.out))) : w.heap.size ≤ gb138));have n4_ := sd_ ((by rw [hg];exact (bz_ (by repeat (first|(with_reducible first|exact HB.out|apply ba_|apply pd_|apply d1_|refine bs_ ?_ GE137.out)|exact HB.out))) : w.heap.size ≤ gb138));have n5_ := sd_ ((by rw [hg];exact nn_ (blk_lt (g := gb137) (o := .cells #[.int .i64 a0_0,.int .i64 a0_1,.int .i64 a0_2,.int .i64 a0_3] 23 (0,0)) (by (with_reducible repeat first|apply kn_|apply kd_|apply ka_);exact BK137.out)) : gb137 ≠ gb138));have n6_ := sd_ ((by rw [hg];exact Nat.ne_of_gt (blk_lt (g := gb137) (o := .cells #[.int .i64 a0_0,.int .i64 a0_1,.int .i64 a0_2,.int .i64 a0_3] 23 (0,0)) (by (with_reducible repeat first|apply kn_|apply kd_|apply ka_);exact BK137.out)) : gb138 ≠ gb137));clear BK137;clear HB;have BK137 := n0_;have HB := n1_;have BK138 := n2_;have GW138 := n3_;have GE138 := n4_;have NB137_138 := n5_;have NB138_137 := n6_;clear n0_ n1_ n2_ n3_ n4_ n5_ n6_;clear hb hbox hg;have hnb27 := NB137_138.out;have hnc27 := NB138_137.out;have hcz28_0 : w26.cell? ⟨gb137,0,none⟩ = some (.int .i64 a0_0) := (kc_ BK137.out 0).trans rfl;have hcz28_1 : w26.cell? ⟨gb137,1,none⟩ = some (.int .i64 a0_1) := (kc_ BK137.out 1).trans rfl;have hcz28_2 : w26.cell? ⟨gb137,2,none⟩ = some (.int .i64 a0_2) := (kc_ BK137.out 2).trans rfl;have hcz28_3 : w26.cell? ⟨gb137,3,none⟩ = some (.int .i64 a0_3) := (kc_ BK137.out 3).trans rfl;have hfz28_0 := kf_ BK137.out 0;have hfz28_1 := kf_ BK137.out 1;have hfz28_2 := kf_ BK137.out 2;have hfz28_3 := kf_ BK137.out 3)|((with_reducible refine gate_callee (f := 12) rfl ?_);refine goesL_ (some 10) rfl rfl Tryd.func12 (by kernel_rfl) rfl #[.agg #[.int .i64 a0_0,.int .i64 a0_1,.int .i64 a0_2,.int .i64 a0_3]] rfl (by (try simp only [lm_,lq_,lx_]);first|done|rfl|(simp only [ld_,lt_];rfl)) ?_;(with_reducible refine (box_Check.calls a0_0 a0_1 a0_2 a0_3 true _ A3.out).mono ?_);rintro e w29 ⟨rfl,hb⟩;refine ⟨_,rfl,?_⟩;have n0_ := sd_ (blk_below (g := gb137) (o := .cells #[.int .i64 a0_0,.int .i64 a0_1,.int .i64 a0_2,.int .i64 a0_3] 23 (0,0)) (by (with_reducible repeat first|apply kn_|apply kd_|apply ka_);exact BK137.out) hb);have n1_ := sd_ (blk_below (g := gb138) (o := .cells #[.int .i64 0,.int .i64 0,.int .i64 0,.int .i64 0] 23 (0,0)) (by (with_reducible repeat first|apply kn_|apply kd_|apply ka_);exact BK138.out) hb);have n2_ := sd_ (bt_ (by repeat (first|(with_reducible first|exact HB.out|apply ba_|apply pd_|apply d1_|refine bs_ ?_ GE137.out|refine bs_ ?_ GE138.out)|exact HB.out)) hb);clear BK137;clear BK138;clear HB;have BK137 := n0_;have BK138 := n1_;have HB := n2_;clear n0_ n1_ n2_;(try clear hb);(try clear hb2);(try clear hk);(try clear hi))|((with_reducible refine gate_callee (f := 27) rfl ?_);refine goesL_ (some 15) rfl rfl Tryd.func27 (by kernel_rfl) rfl #[.int .i64 a1] rfl (by (try simp only [lm_,lq_,lx_]);first|done|rfl|(simp only [ld_,lt_];rfl)) ?_;(with_reducible refine (fix_Ok.calls a1 true _ A5.out).mono ?_);rintro e w' ⟨rfl,⟨nd,rfl⟩⟩;refine ⟨_,rfl,?_⟩;(try (rw [drewN_self w29];generalize hq_ : World.drewN w29 _ = w29;have n0_ : Aside0 (w29.heap[gb137]? = some (.cells #[.int .i64 a0_0,.int .i64 a0_1,.int .i64 a0_2,.int .i64 a0_3] 23 (0,0))) := ⟨by rw [← hq_];exact (by (with_reducible repeat first|apply kn_|apply kd_|apply ka_);exact BK137.out)⟩;have n1_ : Aside0 (w29.heap[gb138]? = some (.cells #[.int .i64 0,.int .i64 0,.int .i64 0,.int .i64 0] 23 (0,0))) := ⟨by rw [← hq_];exact (by (with_reducible repeat first|apply kn_|apply kd_|apply ka_);exact BK138.out)⟩;have n2_ : Aside0 (Below w.heap.size w w29) := ⟨by rw [← hq_];exact (by repeat (first|(with_reducible first|exact HB.out|apply ba_|apply pd_|apply d1_|refine bs_ ?_ GE137.out|refine bs_ ?_ GE138.out)|exact HB.out))⟩;clear BK137 BK138 HB hq_;have BK137 := n0_;have BK138 := n1_;have HB := n2_;clear n0_ n1_ n2_));have hcz30_0 : w29.cell? ⟨gb137,0,none⟩ = some (.int .i64 a0_0) := (kc_ BK137.out 0).trans rfl;have hcz30_1 : w29.cell? ⟨gb137,1,none⟩ = some (.int .i64 a0_1) := (kc_ BK137.out 1).trans rfl;have hcz30_2 : w29.cell? ⟨gb137,2,none⟩ = some (.int .i64 a0_2) := (kc_ BK137.out 2).trans rfl;have hcz30_3 : w29.cell? ⟨gb137,3,none⟩ = some (.int .i64 a0_3) := (kc_ BK137.out 3).trans rfl;have hfz30_0 := kf_ BK137.out 0;have hfz30_1 := kf_ BK137.out 1;have hfz30_2 := kf_ BK137.out 2;have hfz30_3 := kf_ BK137.out 3)|((with_reducible refine gate_callee (f := 25) rfl ?_);refine goesL_ (some 26) rfl rfl Tryd.func25 (by kernel_rfl) rfl #[.agg #[.int .i64 a0_0,.int .i64 a0_1,.int .i64 a0_2,.int .i64 a0_3],.int .i64 (wrap64 (-a1)),.int .i64 (wrap64 (-a1)),.int .i64 a1,.int .i64 a1] rfl (by (try simp only [lm_,lq_,lx_]);first|done|rfl|(simp only [ld_,lt_];rfl)) ?_;(with_reducible refine (box_shifted.calls a0_0 a0_1 a0_2 a0_3 (wrap64 (-a1)) (wrap64 (-a1)) a1 a1 t141 t142 t143 t144 t145 _ ?side1 A7.out).mono ?_);(case side1 => first|(with_reducible exact hE)|exact sd_ (LaidE.below hE.out (by repeat (first|(with_reducible first|exact HB.out|apply ba_|apply pd_|apply d1_|refine bs_ ?_ GE137.out|refine bs_ ?_ GE138.out)|exact HB.out))));rintro e w31 ⟨rfl,hb⟩;refine ⟨_,rfl,?_⟩;have n0_ := sd_ (blk_below (g := gb137) (o := .cells #[.int .i64 a0_0,.int .i64 a0_1,.int .i64 a0_2,.int .i64 a0_3] 23 (0,0)) (by (with_reducible repeat first|apply kn_|apply kd_|apply ka_);exact BK137.out) hb);have n1_ := sd_ (blk_below (g := gb138) (o := .cells #[.int .i64 0,.int .i64 0,.int .i64 0,.int .i64 0] 23 (0,0)) (by (with_reducible repeat first|apply kn_|apply kd_|apply ka_);exact BK138.out) hb);have n2_ := sd_ (bt_ (by repeat (first|(with_reducible first|exact HB.out|apply ba_|apply pd_|apply d1_|refine bs_ ?_ GE137.out|refine bs_ ?_ GE138.out)|exact HB.out)) hb);clear BK137;clear BK138;clear HB;have BK137 := n0_;have BK138 := n1_;have HB := n2_;clear n0_ n1_ n2_;(try clear hb);(try clear hb2);(try clear hk);(try clear hi))|((with_reducible refine gate_dst (N := 6) rfl ?_);refine box_event ?hg (N := 6) ?hd (cs := #[.int .i64 0,.int .i64 0,.int .i64 0,.int .i64 0]) (t := 23) ?hr ?_;(case hd => rfl);(case hg => rfl);(case hr => first|(go_simp;done)|(go_simp;rfl));intro gb146 hg w32 hbox hb;have n0_ := sd_ (blk_below (g := gb137) (o := .cells #[.int .i64 a0_0,.int .i64 a0_1,.int .i64 a0_2,.int .i64 a0_3] 23 (0,0)) (by (with_reducible repeat first|apply kn_|apply kd_|apply ka_);exact BK137.out) hb);have n1_ := sd_ (blk_below (g := gb138) (o := .cells #[.int .i64 0,.int .i64 0,.int .i64 0,.int .i64 0] 23 (0,0)) (by (with_reducible repeat first|apply kn_|apply kd_|apply ka_);exact BK138.out) hb);have n2_ := sd_ (bt_ (by repeat (first|(with_reducible first|exact HB.out|apply ba_|apply pd_|apply d1_|refine bs_ ?_ GE137.out|refine bs_ ?_ GE138.out)|exact HB.out)) hb);have n3_ := sd_ (hbox);have n4_ := sd_ ((by rw [hg];exact (bz_ (by repeat (first|(with_reducible first|exact HB.out|apply ba_|apply pd_|apply d1_|refine bs_ ?_ GE137.out|refine bs_ ?_ GE138.out)|exact HB.out))) : w.heap.size ≤ gb146));have n5_ := sd_ ((by rw [hg];exact (bz_ (by repeat (first|(with_reducible first|exact HB.out|apply ba_|apply pd_|apply d1_|refine bs_ ?_ GE137.out|refine bs_ ?_ GE138.out)|exact HB.out))) : w.heap.size ≤ gb146));have n6_ := sd_ ((by rw [hg];exact nn_ (blk_lt (g := gb137) (o := .cells #[.int .i64 a0_0,.int .i64 a0_1,.int .i64 a0_2,.int .i64 a0_3] 23 (0,0)) (by (with_reducible repeat first|apply kn_|apply kd_|apply ka_);exact BK137.out)) : gb137 ≠ gb146));have n7_ := sd_ ((by rw [hg];exact Nat.ne_of_gt (blk_lt (g := gb137) (o := .cells #[.int .i64 a0_0,.int .i64 a0_1,.int .i64 a0_2,.int .i64 a0_3] 23 (0,0)) (by (with_reducible repeat first|apply kn_|apply kd_|apply ka_);exact BK137.out)) : gb146 ≠ gb137));have n8_ := sd_ ((by rw [hg];exact nn_ (blk_lt (g := gb138) (o := .cells #[.int .i64 0,.int .i64 0,.int .i64 0,.int .i64 0] 23 (0,0)) (by (with_reducible repeat first|apply kn_|apply kd_|apply ka_);exact BK138.out)) : gb138 ≠ gb146));have n9_ := sd_ ((by rw [hg];exact Nat.ne_of_gt (blk_lt (g := gb138) (o := .cells #[.int .i64 0,.int .i64 0,.int .i64 0,.int .i64 0] 23 (0,0)) (by (with_reducible repeat first|apply kn_|apply kd_|apply ka_);exact BK138.out)) : gb146 ≠ gb138));clear BK137;clear BK138;clear HB;have BK137 := n0_;have BK138 := n1_;have HB := n2_;have BK146 := n3_;have GW146 := n4_;have GE146 := n5_;have NB137_146 := n6_;have NB146_137 := n7_;have NB138_146 := n8_;have NB146_138 := n9_;clear n0_ n1_ n2_ n3_ n4_ n5_ n6_ n7_ n8_ n9_;clear hb hbox hg;have hnb33 := NB146_137.out;have hnc33 := NB137_146.out;have hnb34 := NB146_138.out;have hnc34 := NB138_146.out;have hcz35_0 : w32.cell? ⟨gb146,0,none⟩ = some (.int .i64 0) := (kc_ BK146.out 0).trans rfl;have hcz35_1 : w32.cell? ⟨gb146,1,none⟩ = some (.int .i64 0) := (kc_ BK146.out 1).trans rfl;have hcz35_2 : w32.cell? ⟨gb146,2,none⟩ = some (.int .i64 0) := (kc_ BK146.out 2).trans rfl;have hcz35_3 : w32.cell? ⟨gb146,3,none⟩ = some (.int .i64 0) := (kc_ BK146.out 3).trans rfl;have hfz35_0 := kf_ BK146.out 0;have hfz35_1 := kf_ BK146.out 1;have hfz35_2 := kf_ BK146.out 2;have hfz35_3 := kf_ BK146.out 3)|(go_at_call 12;(with_reducible refine (box_Check.calls t141 t142 t143 t144 false _ A9.out).mono ?_);rintro e w36 ⟨rfl,hb⟩;have n0_ := sd_ (blk_below (g := gb137) (o := .cells #[.int .i64 a0_0,.int .i64 a0_1,.int .i64 a0_2,.int .i64 a0_3] 23 (0,0)) (by (with_reducible repeat first|apply kn_|apply kd_|apply ka_);refine blk_far ?_ NB137_146.out _;(with_reducible repeat first|apply kn_|apply kd_|apply ka_);refine blk_far ?_ NB137_146.out _;(with_reducible repeat first|apply kn_|apply kd_|apply ka_);refine blk_far ?_ NB137_146.out _;(with_reducible repeat first|apply kn_|apply kd_|apply ka_);refine blk_far ?_ NB137_146.out _;(with_reducible repeat first|apply kn_|apply kd_|apply ka_);exact BK137.out) hb);have n1_ := sd_ (blk_below (g := gb138) (o := .cells #[.int .i64 0,.int .i64 0,.int .i64 0,.int .i64 0] 23 (0,0)) (by (with_reducible repeat first|apply kn_|apply kd_|apply ka_);refine blk_far ?_ NB138_146.out _;(with_reducible repeat first|apply kn_|apply kd_|apply ka_);refine blk_far ?_ NB138_146.out _;(with_reducible repeat first|apply kn_|apply kd_|apply ka_);refine blk_far ?_ NB138_146.out _;(with_reducible repeat first|apply kn_|apply kd_|apply ka_);refine blk_far ?_ NB138_146.out _;(with_reducible repeat first|apply kn_|apply kd_|apply ka_);exact BK138.out) hb);have n2_ := sd_ (blk_below (g := gb146) (o := .cells #[.int .i64 t141,.int .i64 t142,.int .i64 t143,.int .i64 t144] 23 (0,0)) (by (with_reducible repeat first|apply kn_|apply kd_|apply ka_);refine blk_put (cs := #[.int .i64 t141,.int .i64 t142,.int .i64 t143,.int .i64 0]) ?_ 3 _ rfl;(with_reducible repeat first|apply kn_|apply kd_|apply ka_);refine blk_put (cs := #[.int .i64 t141,.int .i64 t142,.int .i64 0,.int .i64 0]) ?_ 2 _ rfl;(with_reducible repeat first|apply kn_|apply kd_|apply ka_);refine blk_put (cs := #[.int .i64 t141,.int .i64 0,.int .i64 0,.int .i64 0]) ?_ 1 _ rfl;(with_reducible repeat first|apply kn_|apply kd_|apply ka_);refine blk_put (cs := #[.int .i64 0,.int .i64 0,.int .i64 0,.int .i64 0]) ?_ 0 _ rfl;(with_reducible repeat first|apply kn_|apply kd_|apply ka_);exact BK146.out) hb);have n3_ := sd_ (bt_ (by repeat (first|(with_reducible first|exact HB.out|apply ba_|apply pd_|apply d1_|refine bs_ ?_ GE137.out|refine bs_ ?_ GE138.out|refine bs_ ?_ GE146.out)|exact HB.out)) hb);clear BK137;clear BK138;clear BK146;clear HB;have BK137 := n0_;have BK138 := n1_;have BK146 := n2_;have HB := n3_;clear n0_ n1_ n2_ n3_;(try clear hb);(try clear hb2);(try clear hk);(try clear hi);have hcz37_0 : w36.cell? ⟨gb138,0,none⟩ = some (.int .i64 0) := (kc_ BK138.out 0).trans rfl;have hcz37_1 : w36.cell? ⟨gb138,1,none⟩ = some (.int .i64 0) := (kc_ BK138.out 1).trans rfl;have hcz37_2 : w36.cell? ⟨gb138,2,none⟩ = some (.int .i64 0) := (kc_ BK138.out 2).trans rfl;have hcz37_3 : w36.cell? ⟨gb138,3,none⟩ = some (.int .i64 0) := (kc_ BK138.out 3).trans rfl;have hfz37_0 := kf_ BK138.out 0;have hfz37_1 := kf_ BK138.out 1;have hfz37_2 := kf_ BK138.out 2;have hfz37_3 := kf_ BK138.out 3))
     refine bodyPost_ret (results_ct rfl _ _ gb138 23 #[.int .i64 0,.int .i64 0,.int .i64 0,.int .i64 0] (0,0) _ rfl (by (with_reducible repeat first|apply kn_|apply kd_|apply ka_);refine blk_put (cs := #[.int .i64 0,.int .i64 0,.int .i64 0,.int .i64 0]) ?_ 3 _ rfl;(with_reducible repeat first|apply kn_|apply kd_|apply ka_);refine blk_put (cs := #[.int .i64 0,.int .i64 0,.int .i64 0,.int .i64 0]) ?_ 2 _ rfl;(with_reducible repeat first|apply kn_|apply kd_|apply ka_);refine blk_put (cs := #[.int .i64 0,.int .i64 0,.int .i64 0,.int .i64 0]) ?_ 1 _ rfl;(with_reducible repeat first|apply kn_|apply kd_|apply ka_);refine blk_put (cs := #[.int .i64 0,.int .i64 0,.int .i64 0,.int .i64 0]) ?_ 0 _ rfl;(with_reducible repeat first|apply kn_|apply kd_|apply ka_);exact BK138.out) Tryd.underlying23 rfl (by kernel_rfl)) rfl ?_
     exact ⟨by first|rfl|(simp [errW_none,errW_some] <;> rfl)|(simp [*,errW_none,errW_some] <;> rfl),by repeat (first|(with_reducible first|exact HB.out|apply ba_|apply pd_|apply d1_|refine bs_ ?_ GE137.out|refine bs_ ?_ GE138.out|refine bs_ ?_ GE146.out)|exact HB.out)⟩
   ·rw [if_neg c8] at H
    have c8b0 : (t145 == 0) = false := beq_eq_false_iff_ne.mpr c8
    have c8b1 : (t145 != 0) = true := bne_iff_ne.mpr c8
    simp only [Option.some.injEq,Prod.mk.injEq] at H
    obtain ⟨rfl,rfl,rfl,rfl,rfl⟩ := H
    go_enter Tryd.func10,Tryd.ntmps10
    go_wp2_with (first|((with_reducible refine gate_dst (N := 2) rfl ?_);refine box_event ?hg (N := 2) ?hd (cs := #[.int .i64 a0_0,.int .i64 a0_1,.int .i64 a0_2,.int .i64 a0_3]) (t := 23) ?hr ?_;(case hd => rfl);(case hg => rfl);(case hr => first|(go_simp;done)|(go_simp;rfl));intro gb137 hg w38 hbox hb;have n0_ := sd_ (bt_ (by repeat (first|(with_reducible first|exact HB.out|apply ba_|apply pd_|apply d1_)|exact HB.out)) hb);have n1_ := sd_ (hbox);have n2_ := sd_ ((by rw [hg];exact (bz_ (by repeat (first|(with_reducible first|exact HB.out|apply ba_|apply pd_|apply d1_)|exact HB.out))) : w.heap.size ≤ gb137));have n3_ := sd_ ((by rw [hg];exact (bz_ (by repeat (first|(with_reducible first|exact HB.out|apply ba_|apply pd_|apply d1_)|exact HB.out))) : w.heap.size ≤ gb137));clear HB;have HB := n0_;have BK137 := n1_;have GW137 := n2_;have GE137 := n3_;clear n0_ n1_ n2_ n3_;clear hb hbox hg)|((with_reducible refine gate_dst (N := 4) rfl ?_);refine box_event ?hg (N := 4) ?hd (cs := #[.int .i64 0,.int .i64 0,.int .i64 0,.int .i64 0]) (t := 23) ?hr ?_;(case hd => rfl);(case hg => rfl);(case hr => first|(go_simp;done)|(go_simp;rfl));intro gb138 hg w39 hbox hb;have n0_ := sd_ (blk_below (g := gb137) (o := .cells #[.int .i64 a0_0,.int .i64 a0_1,.int .i64 a0_2,.int .i64 a0_3] 23 (0,0)) (by (with_reducible repeat first|apply kn_|apply kd_|apply ka_);exact BK137.out) hb);have n1_ := sd_ (bt_ (by repeat (first|(with_reducible first|exact HB.out|apply ba_|apply pd_|apply d1_|refine bs_ ?_ GE137.out)|exact HB.out)) hb);have n2_ := sd_ (hbox);have n3_ := sd_ ((by rw [hg];exact (bz_ (by repeat (first|(with_reducible first|exact HB.out|apply ba_|apply pd_|apply d1_|refine bs_ ?_ GE137.out)|exact HB.out))) : w.heap.size ≤ gb138));have n4_ := sd_ ((by rw [hg];exact (bz_ (by repeat (first|(with_reducible first|exact HB.out|apply ba_|apply pd_|apply d1_|refine bs_ ?_ GE137.out)|exact HB.out))) : w.heap.size ≤ gb138));have n5_ := sd_ ((by rw [hg];exact nn_ (blk_lt (g := gb137) (o := .cells #[.int .i64 a0_0,.int .i64 a0_1,.int .i64 a0_2,.int .i64 a0_3] 23 (0,0)) (by (with_reducible repeat first|apply kn_|apply kd_|apply ka_);exact BK137.out)) : gb137 ≠ gb138));have n6_ := sd_ ((by rw [hg];exact Nat.ne_of_gt (blk_lt (g := gb137) (o := .cells #[.int .i64 a0_0,.int .i64 a0_1,.int .i64 a0_2,.int .i64 a0_3] 23 (0,0)) (by (with_reducible repeat first|apply kn_|apply kd_|apply ka_);exact BK137.out)) : gb138 ≠ gb137));clear BK137;clear HB;have BK137 := n0_;have HB := n1_;have BK138 := n2_;have GW138 := n3_;have GE138 := n4_;have NB137_138 := n5_;have NB138_137 := n6_;clear n0_ n1_ n2_ n3_ n4_ n5_ n6_;clear hb hbox hg;have hnb40 := NB137_138.out;have hnc40 := NB138_137.out;have hcz41_0 : w39.cell? ⟨gb137,0,none⟩ = some (.int .i64 a0_0) := (kc_ BK137.out 0).trans rfl;have hcz41_1 : w39.cell? ⟨gb137,1,none⟩ = some (.int .i64 a0_1) := (kc_ BK137.out 1).trans rfl;have hcz41_2 : w39.cell? ⟨gb137,2,none⟩ = some (.int .i64 a0_2) := (kc_ BK137.out 2).trans rfl;have hcz41_3 : w39.cell? ⟨gb137,3,none⟩ = some (.int .i64 a0_3) := (kc_ BK137.out 3).trans rfl;have hfz41_0 := kf_ BK137.out 0;have hfz41_1 := kf_ BK137.out 1;have hfz41_2 := kf_ BK137.out 2;have hfz41_3 := kf_ BK137.out 3)|((with_reducible refine gate_callee (f := 12) rfl ?_);refine goesL_ (some 10) rfl rfl Tryd.func12 (by kernel_rfl) rfl #[.agg #[.int .i64 a0_0,.int .i64 a0_1,.int .i64 a0_2,.int .i64 a0_3]] rfl (by (try simp only [lm_,lq_,lx_]);first|done|rfl|(simp only [ld_,lt_];rfl)) ?_;(with_reducible refine (box_Check.calls a0_0 a0_1 a0_2 a0_3 true _ A3.out).mono ?_);rintro e w42 ⟨rfl,hb⟩;refine ⟨_,rfl,?_⟩;have n0_ := sd_ (blk_below (g := gb137) (o := .cells #[.int .i64 a0_0,.int .i64 a0_1,.int .i64 a0_2,.int .i64 a0_3] 23 (0,0)) (by (with_reducible repeat first|apply kn_|apply kd_|apply ka_);exact BK137.out) hb);have n1_ := sd_ (blk_below (g := gb138) (o := .cells #[.int .i64 0,.int .i64 0,.int .i64 0,.int .i64 0] 23 (0,0)) (by (with_reducible repeat first|apply kn_|apply kd_|apply ka_);exact BK138.out) hb);have n2_ := sd_ (bt_ (by repeat (first|(with_reducible first|exact HB.out|apply ba_|apply pd_|apply d1_|refine bs_ ?_ GE137.out|refine bs_ ?_ GE138.out)|exact HB.out)) hb);clear BK137;clear BK138;clear HB;have BK137 := n0_;have BK138 := n1_;have HB := n2_;clear n0_ n1_ n2_;(try clear hb);(try clear hb2);(try clear hk);(try clear hi))|((with_reducible refine gate_callee (f := 27) rfl ?_);refine goesL_ (some 15) rfl rfl Tryd.func27 (by kernel_rfl) rfl #[.int .i64 a1] rfl (by (try simp only [lm_,lq_,lx_]);first|done|rfl|(simp only [ld_,lt_];rfl)) ?_;(with_reducible refine (fix_Ok.calls a1 true _ A5.out).mono ?_);rintro e w' ⟨rfl,⟨nd,rfl⟩⟩;refine ⟨_,rfl,?_⟩;(try (rw [drewN_self w42];generalize hq_ : World.drewN w42 _ = w42;have n0_ : Aside0 (w42.heap[gb137]? = some (.cells #[.int .i64 a0_0,.int .i64 a0_1,.int .i64 a0_2,.int .i64 a0_3] 23 (0,0))) := ⟨by rw [← hq_];exact (by (with_reducible repeat first|apply kn_|apply kd_|apply ka_);exact BK137.out)⟩;have n1_ : Aside0 (w42.heap[gb138]? = some (.cells #[.int .i64 0,.int .i64 0,.int .i64 0,.int .i64 0] 23 (0,0))) := ⟨by rw [← hq_];exact (by (with_reducible repeat first|apply kn_|apply kd_|apply ka_);exact BK138.out)⟩;have n2_ : Aside0 (Below w.heap.size w w42) := ⟨by rw [← hq_];exact (by repeat (first|(with_reducible first|exact HB.out|apply ba_|apply pd_|apply d1_|refine bs_ ?_ GE137.out|refine bs_ ?_ GE138.out)|exact HB.out))⟩;clear BK137 BK138 HB hq_;have BK137 := n0_;have BK138 := n1_;have HB := n2_;clear n0_ n1_ n2_));have hcz43_0 : w42.cell? ⟨gb137,0,none⟩ = some (.int .i64 a0_0) := (kc_ BK137.out 0).trans rfl;have hcz43_1 : w42.cell? ⟨gb137,1,none⟩ = some (.int .i64 a0_1) := (kc_ BK137.out 1).trans rfl;have hcz43_2 : w42.cell? ⟨gb137,2,none⟩ = some (.int .i64 a0_2) := (kc_ BK137.out 2).trans rfl;have hcz43_3 : w42.cell? ⟨gb137,3,none⟩ = some (.int .i64 a0_3) := (kc_ BK137.out 3).trans rfl;have hfz43_0 := kf_ BK137.out 0;have hfz43_1 := kf_ BK137.out 1;have hfz43_2 := kf_ BK137.out 2;have hfz43_3 := kf_ BK137.out 3)|((with_reducible refine gate_callee (f := 25) rfl ?_);refine goesL_ (some 26) rfl rfl Tryd.func25 (by kernel_rfl) rfl #[.agg #[.int .i64 a0_0,.int .i64 a0_1,.int .i64 a0_2,.int .i64 a0_3],.int .i64 (wrap64 (-a1)),.int .i64 (wrap64 (-a1)),.int .i64 a1,.int .i64 a1] rfl (by (try simp only [lm_,lq_,lx_]);first|done|rfl|(simp only [ld_,lt_];rfl)) ?_;(with_reducible refine (box_shifted.calls a0_0 a0_1 a0_2 a0_3 (wrap64 (-a1)) (wrap64 (-a1)) a1 a1 t141 t142 t143 t144 t145 _ ?side1 A7.out).mono ?_);(case side1 => first|(with_reducible exact hE)|exact sd_ (LaidE.below hE.out (by repeat (first|(with_reducible first|exact HB.out|apply ba_|apply pd_|apply d1_|refine bs_ ?_ GE137.out|refine bs_ ?_ GE138.out)|exact HB.out))));rintro e w44 ⟨rfl,hb⟩;refine ⟨_,rfl,?_⟩;have n0_ := sd_ (blk_below (g := gb137) (o := .cells #[.int .i64 a0_0,.int .i64 a0_1,.int .i64 a0_2,.int .i64 a0_3] 23 (0,0)) (by (with_reducible repeat first|apply kn_|apply kd_|apply ka_);exact BK137.out) hb);have n1_ := sd_ (blk_below (g := gb138) (o := .cells #[.int .i64 0,.int .i64 0,.int .i64 0,.int .i64 0] 23 (0,0)) (by (with_reducible repeat first|apply kn_|apply kd_|apply ka_);exact BK138.out) hb);have n2_ := sd_ (bt_ (by repeat (first|(with_reducible first|exact HB.out|apply ba_|apply pd_|apply d1_|refine bs_ ?_ GE137.out|refine bs_ ?_ GE138.out)|exact HB.out)) hb);clear BK137;clear BK138;clear HB;have BK137 := n0_;have BK138 := n1_;have HB := n2_;clear n0_ n1_ n2_;(try clear hb);(try clear hb2);(try clear hk);(try clear hi))|((with_reducible refine gate_dst (N := 6) rfl ?_);refine box_event ?hg (N := 6) ?hd (cs := #[.int .i64 0,.int .i64 0,.int .i64 0,.int .i64 0]) (t := 23) ?hr ?_;(case hd => rfl);(case hg => rfl);(case hr => first|(go_simp;done)|(go_simp;rfl));intro gb146 hg w45 hbox hb;have n0_ := sd_ (blk_below (g := gb137) (o := .cells #[.int .i64 a0_0,.int .i64 a0_1,.int .i64 a0_2,.int .i64 a0_3] 23 (0,0)) (by (with_reducible repeat first|apply kn_|apply kd_|apply ka_);exact BK137.out) hb);have n1_ := sd_ (blk_below (g := gb138) (o := .cells #[.int .i64 0,.int .i64 0,.int .i64 0,.int .i64 0] 23 (0,0)) (by (with_reducible repeat first|apply kn_|apply kd_|apply ka_);exact BK138.out) hb);have n2_ := sd_ (bt_ (by repeat (first|(with_reducible first|exact HB.out|apply ba_|apply pd_|apply d1_|refine bs_ ?_ GE137.out|refine bs_ ?_ GE138.out)|exact HB.out)) hb);have n3_ := sd_ (hbox);have n4_ := sd_ ((by rw [hg];exact (bz_ (by repeat (first|(with_reducible first|exact HB.out|apply ba_|apply pd_|apply d1_|refine bs_ ?_ GE137.out|refine bs_ ?_ GE138.out)|exact HB.out))) : w.heap.size ≤ gb146));have n5_ := sd_ ((by rw [hg];exact (bz_ (by repeat (first|(with_reducible first|exact HB.out|apply ba_|apply pd_|apply d1_|refine bs_ ?_ GE137.out|refine bs_ ?_ GE138.out)|exact HB.out))) : w.heap.size ≤ gb146));have n6_ := sd_ ((by rw [hg];exact nn_ (blk_lt (g := gb137) (o := .cells #[.int .i64 a0_0,.int .i64 a0_1,.int .i64 a0_2,.int .i64 a0_3] 23 (0,0)) (by (with_reducible repeat first|apply kn_|apply kd_|apply ka_);exact BK137.out)) : gb137 ≠ gb146));have n7_ := sd_ ((by rw [hg];exact Nat.ne_of_gt (blk_lt (g := gb137) (o := .cells #[.int .i64 a0_0,.int .i64 a0_1,.int .i64 a0_2,.int .i64 a0_3] 23 (0,0)) (by (with_reducible repeat first|apply kn_|apply kd_|apply ka_);exact BK137.out)) : gb146 ≠ gb137));have n8_ := sd_ ((by rw [hg];exact nn_ (blk_lt (g := gb138) (o := .cells #[.int .i64 0,.int .i64 0,.int .i64 0,.int .i64 0] 23 (0,0)) (by (with_reducible repeat first|apply kn_|apply kd_|apply ka_);exact BK138.out)) : gb138 ≠ gb146));have n9_ := sd_ ((by rw [hg];exact Nat.ne_of_gt (blk_lt (g := gb138) (o := .cells #[.int .i64 0,.int .i64 0,.int .i64 0,.int .i64 0] 23 (0,0)) (by (with_reducible repeat first|apply kn_|apply kd_|apply ka_);exact BK138.out)) : gb146 ≠ gb138));clear BK137;clear BK138;clear HB;have BK137 := n0_;have BK138 := n1_;have HB := n2_;have BK146 := n3_;have GW146 := n4_;have GE146 := n5_;have NB137_146 := n6_;have NB146_137 := n7_;have NB138_146 := n8_;have NB146_138 := n9_;clear n0_ n1_ n2_ n3_ n4_ n5_ n6_ n7_ n8_ n9_;clear hb hbox hg;have hnb46 := NB146_137.out;have hnc46 := NB137_146.out;have hnb47 := NB146_138.out;have hnc47 := NB138_146.out;have hcz48_0 : w45.cell? ⟨gb146,0,none⟩ = some (.int .i64 0) := (kc_ BK146.out 0).trans rfl;have hcz48_1 : w45.cell? ⟨gb146,1,none⟩ = some (.int .i64 0) := (kc_ BK146.out 1).trans rfl;have hcz48_2 : w45.cell? ⟨gb146,2,none⟩ = some (.int .i64 0) := (kc_ BK146.out 2).trans rfl;have hcz48_3 : w45.cell? ⟨gb146,3,none⟩ = some (.int .i64 0) := (kc_ BK146.out 3).trans rfl;have hfz48_0 := kf_ BK146.out 0;have hfz48_1 := kf_ BK146.out 1;have hfz48_2 := kf_ BK146.out 2;have hfz48_3 := kf_ BK146.out 3;have hcz49_0 : w45.cell? ⟨gb138,0,none⟩ = some (.int .i64 0) := (kc_ BK138.out 0).trans rfl;have hcz49_1 : w45.cell? ⟨gb138,1,none⟩ = some (.int .i64 0) := (kc_ BK138.out 1).trans rfl;have hcz49_2 : w45.cell? ⟨gb138,2,none⟩ = some (.int .i64 0) := (kc_ BK138.out 2).trans rfl;have hcz49_3 : w45.cell? ⟨gb138,3,none⟩ = some (.int .i64 0) := (kc_ BK138.out 3).trans rfl;have hfz49_0 := kf_ BK138.out 0;have hfz49_1 := kf_ BK138.out 1;have hfz49_2 := kf_ BK138.out 2;have hfz49_3 := kf_ BK138.out 3))
    refine bodyPost_ret (results_ct rfl _ _ gb138 23 #[.int .i64 t141,.int .i64 t142,.int .i64 t143,.int .i64 t144] (0,0) _ rfl (by (with_reducible repeat first|apply kn_|apply kd_|apply ka_);refine blk_put (cs := #[.int .i64 t141,.int .i64 t142,.int .i64 t143,.int .i64 0]) ?_ 3 _ rfl;(with_reducible repeat first|apply kn_|apply kd_|apply ka_);refine blk_put (cs := #[.int .i64 t141,.int .i64 t142,.int .i64 0,.int .i64 0]) ?_ 2 _ rfl;(with_reducible repeat first|apply kn_|apply kd_|apply ka_);refine blk_put (cs := #[.int .i64 t141,.int .i64 0,.int .i64 0,.int .i64 0]) ?_ 1 _ rfl;(with_reducible repeat first|apply kn_|apply kd_|apply ka_);refine blk_put (cs := #[.int .i64 0,.int .i64 0,.int .i64 0,.int .i64 0]) ?_ 0 _ rfl;(with_reducible repeat first|apply kn_|apply kd_|apply ka_);refine blk_far ?_ NB138_146.out _;(with_reducible repeat first|apply kn_|apply kd_|apply ka_);refine blk_far ?_ NB138_146.out _;(with_reducible repeat first|apply kn_|apply kd_|apply ka_);refine blk_far ?_ NB138_146.out _;(with_reducible repeat first|apply kn_|apply kd_|apply ka_);refine blk_far ?_ NB138_146.out _;(with_reducible repeat first|apply kn_|apply kd_|apply ka_);exact BK138.out) Tryd.underlying23 rfl (by kernel_rfl)) rfl ?_
    exact ⟨by first|rfl|(simp [errW_none,errW_some] <;> rfl)|(simp [*,errW_none,errW_some] <;> rfl),by repeat (first|(with_reducible first|exact HB.out|apply ba_|apply pd_|apply d1_|refine bs_ ?_ GE137.out|refine bs_ ?_ GE138.out|refine bs_ ?_ GE146.out)|exact HB.out)⟩
  ·replace c6 := bf_ c6
   subst c6
   have H1 : (some (0,0,0,0,3)) = some (r1,r2,r3,r4,r5) := by rw [if_neg (show ¬ (false = true) by decide)] at H;exact H
   clear H;have H := H1;clear H1
   simp only [Option.some.injEq,Prod.mk.injEq] at H
   obtain ⟨rfl,rfl,rfl,rfl,rfl⟩ := H
   go_enter Tryd.func10,Tryd.ntmps10
   go_wp2_with (first|((with_reducible refine gate_dst (N := 2) rfl ?_);refine box_event ?hg (N := 2) ?hd (cs := #[.int .i64 a0_0,.int .i64 a0_1,.int .i64 a0_2,.int .i64 a0_3]) (t := 23) ?hr ?_;(case hd => rfl);(case hg => rfl);(case hr => first|(go_simp;done)|(go_simp;rfl));intro gb137 hg w50 hbox hb;have n0_ := sd_ (bt_ (by repeat (first|(with_reducible first|exact HB.out|apply ba_|apply pd_|apply d1_)|exact HB.out)) hb);have n1_ := sd_ (hbox);have n2_ := sd_ ((by rw [hg];exact (bz_ (by repeat (first|(with_reducible first|exact HB.out|apply ba_|apply pd_|apply d1_)|exact HB.out))) : w.heap.size ≤ gb137));have n3_ := sd_ ((by rw [hg];exact (bz_ (by repeat (first|(with_reducible first|exact HB.out|apply ba_|apply pd_|apply d1_)|exact HB.out))) : w.heap.size ≤ gb137));clear HB;have HB := n0_;have BK137 := n1_;have GW137 := n2_;have GE137 := n3_;clear n0_ n1_ n2_ n3_;clear hb hbox hg)|((with_reducible refine gate_dst (N := 4) rfl ?_);refine box_event ?hg (N := 4) ?hd (cs := #[.int .i64 0,.int .i64 0,.int .i64 0,.int .i64 0]) (t := 23) ?hr ?_;(case hd => rfl);(case hg => rfl);(case hr => first|(go_simp;done)|(go_simp;rfl));intro gb138 hg w51 hbox hb;have n0_ := sd_ (blk_below (g := gb137) (o := .cells #[.int .i64 a0_0,.int .i64 a0_1,.int .i64 a0_2,.int .i64 a0_3] 23 (0,0)) (by (with_reducible repeat first|apply kn_|apply kd_|apply ka_);exact BK137.out) hb);have n1_ := sd_ (bt_ (by repeat (first|(with_reducible first|exact HB.out|apply ba_|apply pd_|apply d1_|refine bs_ ?_ GE137.out)|exact HB.out)) hb);have n2_ := sd_ (hbox);have n3_ := sd_ ((by rw [hg];exact (bz_ (by repeat (first|(with_reducible first|exact HB.out|apply ba_|apply pd_|apply d1_|refine bs_ ?_ GE137.out)|exact HB.out))) : w.heap.size ≤ gb138));have n4_ := sd_ ((by rw [hg];exact (bz_ (by repeat (first|(with_reducible first|exact HB.out|apply ba_|apply pd_|apply d1_|refine bs_ ?_ GE137.out)|exact HB.out))) : w.heap.size ≤ gb138));have n5_ := sd_ ((by rw [hg];exact nn_ (blk_lt (g := gb137) (o := .cells #[.int .i64 a0_0,.int .i64 a0_1,.int .i64 a0_2,.int .i64 a0_3] 23 (0,0)) (by (with_reducible repeat first|apply kn_|apply kd_|apply ka_);exact BK137.out)) : gb137 ≠ gb138));have n6_ := sd_ ((by rw [hg];exact Nat.ne_of_gt (blk_lt (g := gb137) (o := .cells #[.int .i64 a0_0,.int .i64 a0_1,.int .i64 a0_2,.int .i64 a0_3] 23 (0,0)) (by (with_reducible repeat first|apply kn_|apply kd_|apply ka_);exact BK137.out)) : gb138 ≠ gb137));clear BK137;clear HB;have BK137 := n0_;have HB := n1_;have BK138 := n2_;have GW138 := n3_;have GE138 := n4_;have NB137_138 := n5_;have NB138_137 := n6_;clear n0_ n1_ n2_ n3_ n4_ n5_ n6_;clear hb hbox hg;have hnb52 := NB137_138.out;have hnc52 := NB138_137.out;have hcz53_0 : w51.cell? ⟨gb137,0,none⟩ = some (.int .i64 a0_0) := (kc_ BK137.out 0).trans rfl;have hcz53_1 : w51.cell? ⟨gb137,1,none⟩ = some (.int .i64 a0_1) := (kc_ BK137.out 1).trans rfl;have hcz53_2 : w51.cell? ⟨gb137,2,none⟩ = some (.int .i64 a0_2) := (kc_ BK137.out 2).trans rfl;have hcz53_3 : w51.cell? ⟨gb137,3,none⟩ = some (.int .i64 a0_3) := (kc_ BK137.out 3).trans rfl;have hfz53_0 := kf_ BK137.out 0;have hfz53_1 := kf_ BK137.out 1;have hfz53_2 := kf_ BK137.out 2;have hfz53_3 := kf_ BK137.out 3)|((with_reducible refine gate_callee (f := 12) rfl ?_);refine goesL_ (some 10) rfl rfl Tryd.func12 (by kernel_rfl) rfl #[.agg #[.int .i64 a0_0,.int .i64 a0_1,.int .i64 a0_2,.int .i64 a0_3]] rfl (by (try simp only [lm_,lq_,lx_]);first|done|rfl|(simp only [ld_,lt_];rfl)) ?_;(with_reducible refine (box_Check.calls a0_0 a0_1 a0_2 a0_3 true _ A3.out).mono ?_);rintro e w54 ⟨rfl,hb⟩;refine ⟨_,rfl,?_⟩;have n0_ := sd_ (blk_below (g := gb137) (o := .cells #[.int .i64 a0_0,.int .i64 a0_1,.int .i64 a0_2,.int .i64 a0_3] 23 (0,0)) (by (with_reducible repeat first|apply kn_|apply kd_|apply ka_);exact BK137.out) hb);have n1_ := sd_ (blk_below (g := gb138) (o := .cells #[.int .i64 0,.int .i64 0,.int .i64 0,.int .i64 0] 23 (0,0)) (by (with_reducible repeat first|apply kn_|apply kd_|apply ka_);exact BK138.out) hb);have n2_ := sd_ (bt_ (by repeat (first|(with_reducible first|exact HB.out|apply ba_|apply pd_|apply d1_|refine bs_ ?_ GE137.out|refine bs_ ?_ GE138.out)|exact HB.out)) hb);clear BK137;clear BK138;clear HB;have BK137 := n0_;have BK138 := n1_;have HB := n2_;clear n0_ n1_ n2_;(try clear hb);(try clear hb2);(try clear hk);(try clear hi))|((with_reducible refine gate_callee (f := 27) rfl ?_);refine goesL_ (some 15) rfl rfl Tryd.func27 (by kernel_rfl) rfl #[.int .i64 a1] rfl (by (try simp only [lm_,lq_,lx_]);first|done|rfl|(simp only [ld_,lt_];rfl)) ?_;(with_reducible refine (fix_Ok.calls a1 false _ A5.out).mono ?_);rintro e w' ⟨rfl,⟨nd,rfl⟩⟩;refine ⟨_,rfl,?_⟩;(try (rw [drewN_self w54];generalize hq_ : World.drewN w54 _ = w54;have n0_ : Aside0 (w54.heap[gb137]? = some (.cells #[.int .i64 a0_0,.int .i64 a0_1,.int .i64 a0_2,.int .i64 a0_3] 23 (0,0))) := ⟨by rw [← hq_];exact (by (with_reducible repeat first|apply kn_|apply kd_|apply ka_);exact BK137.out)⟩;have n1_ : Aside0 (w54.heap[gb138]? = some (.cells #[.int .i64 0,.int .i64 0,.int .i64 0,.int .i64 0] 23 (0,0))) := ⟨by rw [← hq_];exact (by (with_reducible repeat first|apply kn_|apply kd_|apply ka_);exact BK138.out)⟩;have n2_ : Aside0 (Below w.heap.size w w54) := ⟨by rw [← hq_];exact (by repeat (first|(with_reducible first|exact HB.out|apply ba_|apply pd_|apply d1_|refine bs_ ?_ GE137.out|refine bs_ ?_ GE138.out)|exact HB.out))⟩;clear BK137 BK138 HB hq_;have BK137 := n0_;have BK138 := n1_;have HB := n2_;clear n0_ n1_ n2_));have hcz55_0 : w54.cell? ⟨gb138,0,none⟩ = some (.int .i64 0) := (kc_ BK138.out 0).trans rfl;have hcz55_1 : w54.cell? ⟨gb138,1,none⟩ = some (.int .i64 0) := (kc_ BK138.out 1).trans rfl;have hcz55_2 : w54.cell? ⟨gb138,2,none⟩ = some (.int .i64 0) := (kc_ BK138.out 2).trans rfl;have hcz55_3 : w54.cell? ⟨gb138,3,none⟩ = some (.int .i64 0) := (kc_ BK138.out 3).trans rfl;have hfz55_0 := kf_ BK138.out 0;have hfz55_1 := kf_ BK138.out 1;have hfz55_2 := kf_ BK138.out 2;have hfz55_3 := kf_ BK138.out 3))
   refine bodyPost_ret (results_ct rfl _ _ gb138 23 #[.int .i64 0,.int .i64 0,.int .i64 0,.int .i64 0] (0,0) _ rfl (by (with_reducible repeat first|apply kn_|apply kd_|apply ka_);refine blk_put (cs := #[.int .i64 0,.int .i64 0,.int .i64 0,.int .i64 0]) ?_ 3 _ rfl;(with_reducible repeat first|apply kn_|apply kd_|apply ka_);refine blk_put (cs := #[.int .i64 0,.int .i64 0,.int .i64 0,.int .i64 0]) ?_ 2 _ rfl;(with_reducible repeat first|apply kn_|apply kd_|apply ka_);refine blk_put (cs := #[.int .i64 0,.int .i64 0,.int .i64 0,.int .i64 0]) ?_ 1 _ rfl;(with_reducible repeat first|apply kn_|apply kd_|apply ka_);refine blk_put (cs := #[.int .i64 0,.int .i64 0,.int .i64 0,.int .i64 0]) ?_ 0 _ rfl;(with_reducible repeat first|apply kn_|apply kd_|apply ka_);exact BK138.out) Tryd.underlying23 rfl (by kernel_rfl)) rfl ?_
   exact ⟨by first|rfl|(simp [errW_none,errW_some] <;> rfl)|(simp [*,errW_none,errW_some] <;> rfl),by repeat (first|(with_reducible first|exact HB.out|apply ba_|apply pd_|apply d1_|refine bs_ ?_ GE137.out|refine bs_ ?_ GE138.out)|exact HB.out)⟩
 ·replace c4 := bf_ c4
  subst c4
  have H1 : (some (0,0,0,0,2)) = some (r1,r2,r3,r4,r5) := by rw [if_neg (show ¬ (false = true) by decide)] at H;exact H
  clear H;have H := H1;clear H1
  simp only [Option.some.injEq,Prod.mk.injEq] at H
  obtain ⟨rfl,rfl,rfl,rfl,rfl⟩ := H
  go_enter Tryd.func10,Tryd.ntmps10
  go_wp2_with (first|((with_reducible refine gate_dst (N := 2) rfl ?_);refine box_event ?hg (N := 2) ?hd (cs := #[.int .i64 a0_0,.int .i64 a0_1,.int .i64 a0_2,.int .i64 a0_3]) (t := 23) ?hr ?_;(case hd => rfl);(case hg => rfl);(case hr => first|(go_simp;done)|(go_simp;rfl));intro gb137 hg w56 hbox hb;have n0_ := sd_ (bt_ (by repeat (first|(with_reducible first|exact HB.out|apply ba_|apply pd_|apply d1_)|exact HB.out)) hb);have n1_ := sd_ (hbox);have n2_ := sd_ ((by rw [hg];exact (bz_ (by repeat (first|(with_reducible first|exact HB.out|apply ba_|apply pd_|apply d1_)|exact HB.out))) : w.heap.size ≤ gb137));have n3_ := sd_ ((by rw [hg];exact (bz_ (by repeat (first|(with_reducible first|exact HB.out|apply ba_|apply pd_|apply d1_)|exact HB.out))) : w.heap.size ≤ gb137));clear HB;have HB := n0_;have BK137 := n1_;have GW137 := n2_;have GE137 := n3_;clear n0_ n1_ n2_ n3_;clear hb hbox hg)|((with_reducible refine gate_dst (N := 4) rfl ?_);refine box_event ?hg (N := 4) ?hd (cs := #[.int .i64 0,.int .i64 0,.int .i64 0,.int .i64 0]) (t := 23) ?hr ?_;(case hd => rfl);(case hg => rfl);(case hr => first|(go_simp;done)|(go_simp;rfl));intro gb138 hg w57 hbox hb;have n0_ := sd_ (blk_below (g := gb137) (o := .cells #[.int .i64 a0_0,.int .i64 a0_1,.int .i64 a0_2,.int .i64 a0_3] 23 (0,0)) (by (with_reducible repeat first|apply kn_|apply kd_|apply ka_);exact BK137.out) hb);have n1_ := sd_ (bt_ (by repeat (first|(with_reducible first|exact HB.out|apply ba_|apply pd_|apply d1_|refine bs_ ?_ GE137.out)|exact HB.out)) hb);have n2_ := sd_ (hbox);have n3_ := sd_ ((by rw [hg];exact (bz_ (by repeat (first|(with_reducible first|exact HB.out|apply ba_|apply pd_|apply d1_|refine bs_ ?_ GE137.out)|exact HB.out))) : w.heap.size ≤ gb138));have n4_ := sd_ ((by rw [hg];exact (bz_ (by repeat (first|(with_reducible first|exact HB.out|apply ba_|apply pd_|apply d1_|refine bs_ ?_ GE137.out)|exact HB.out))) : w.heap.size ≤ gb138));have n5_ := sd_ ((by rw [hg];exact nn_ (blk_lt (g := gb137) (o := .cells #[.int .i64 a0_0,.int .i64 a0_1,.int .i64 a0_2,.int .i64 a0_3] 23 (0,0)) (by (with_reducible repeat first|apply kn_|apply kd_|apply ka_);exact BK137.out)) : gb137 ≠ gb138));have n6_ := sd_ ((by rw [hg];exact Nat.ne_of_gt (blk_lt (g := gb137) (o := .cells #[.int .i64 a0_0,.int .i64 a0_1,.int .i64 a0_2,.int .i64 a0_3] 23 (0,0)) (by (with_reducible repeat first|apply kn_|apply kd_|apply ka_);exact BK137.out)) : gb138 ≠ gb137));clear BK137;clear HB;have BK137 := n0_;have HB := n1_;have BK138 := n2_;have GW138 := n3_;have GE138 := n4_;have NB137_138 := n5_;have NB138_137 := n6_;clear n0_ n1_ n2_ n3_ n4_ n5_ n6_;clear hb hbox hg;have hnb58 := NB137_138.out;have hnc58 := NB138_137.out;have hcz59_0 : w57.cell? ⟨gb137,0,none⟩ = some (.int .i64 a0_0) := (kc_ BK137.out 0).trans rfl;have hcz59_1 : w57.cell? ⟨gb137,1,none⟩ = some (.int .i64 a0_1) := (kc_ BK137.out 1).trans rfl;have hcz59_2 : w57.cell? ⟨gb137,2,none⟩ = some (.int .i64 a0_2) := (kc_ BK137.out 2).trans rfl;have hcz59_3 : w57.cell? ⟨gb137,3,none⟩ = some (.int .i64 a0_3) := (kc_ BK137.out 3).trans rfl;have hfz59_0 := kf_ BK137.out 0;have hfz59_1 := kf_ BK137.out 1;have hfz59_2 := kf_ BK137.out 2;have hfz59_3 := kf_ BK137.out 3)|((with_reducible refine gate_callee (f := 12) rfl ?_);refine goesL_ (some 10) rfl rfl Tryd.func12 (by kernel_rfl) rfl #[.agg #[.int .i64 a0_0,.int .i64 a0_1,.int .i64 a0_2,.int .i64 a0_3]] rfl (by (try simp only [lm_,lq_,lx_]);first|done|rfl|(simp only [ld_,lt_];rfl)) ?_;(with_reducible refine (box_Check.calls a0_0 a0_1 a0_2 a0_3 false _ A3.out).mono ?_);rintro e w60 ⟨rfl,hb⟩;refine ⟨_,rfl,?_⟩;have n0_ := sd_ (blk_below (g := gb137) (o := .cells #[.int .i64 a0_0,.int .i64 a0_1,.int .i64 a0_2,.int .i64 a0_3] 23 (0,0)) (by (with_reducible repeat first|apply kn_|apply kd_|apply ka_);exact BK137.out) hb);have n1_ := sd_ (blk_below (g := gb138) (o := .cells #[.int .i64 0,.int .i64 0,.int .i64 0,.int .i64 0] 23 (0,0)) (by (with_reducible repeat first|apply kn_|apply kd_|apply ka_);exact BK138.out) hb);have n2_ := sd_ (bt_ (by repeat (first|(with_reducible first|exact HB.out|apply ba_|apply pd_|apply d1_|refine bs_ ?_ GE137.out|refine bs_ ?_ GE138.out)|exact HB.out)) hb);clear BK137;clear BK138;clear HB;have BK137 := n0_;have BK138 := n1_;have HB := n2_;clear n0_ n1_ n2_;(try clear hb);(try clear hb2);(try clear hk);(try clear hi);have hcz61_0 : w60.cell? ⟨gb138,0,none⟩ = some (.int .i64 0) := (kc_ BK138.out 0).trans rfl;have hcz61_1 : w60.cell? ⟨gb138,1,none⟩ = some (.int .i64 0) := (kc_ BK138.out 1).trans rfl;have hcz61_2 : w60.cell? ⟨gb138,2,none⟩ = some (.int .i64 0) := (kc_ BK138.out 2).trans rfl;have hcz61_3 : w60.cell? ⟨gb138,3,none⟩ = some (.int .i64 0) := (kc_ BK138.out 3).trans rfl;have hfz61_0 := kf_ BK138.out 0;have hfz61_1 := kf_ BK138.out 1;have hfz61_2 := kf_ BK138.out 2;have hfz61_3 := kf_ BK138.out 3))
  refine bodyPost_ret (results_ct rfl _ _ gb138 23 #[.int .i64 0,.int .i64 0,.int .i64 0,.int .i64 0] (0,0) _ rfl (by (with_reducible repeat first|apply kn_|apply kd_|apply ka_);refine blk_put (cs := #[.int .i64 0,.int .i64 0,.int .i64 0,.int .i64 0]) ?_ 3 _ rfl;(with_reducible repeat first|apply kn_|apply kd_|apply ka_);refine blk_put (cs := #[.int .i64 0,.int .i64 0,.int .i64 0,.int .i64 0]) ?_ 2 _ rfl;(with_reducible repeat first|apply kn_|apply kd_|apply ka_);refine blk_put (cs := #[.int .i64 0,.int .i64 0,.int .i64 0,.int .i64 0]) ?_ 1 _ rfl;(with_reducible repeat first|apply kn_|apply kd_|apply ka_);refine blk_put (cs := #[.int .i64 0,.int .i64 0,.int .i64 0,.int .i64 0]) ?_ 0 _ rfl;(with_reducible repeat first|apply kn_|apply kd_|apply ka_);exact BK138.out) Tryd.underlying23 rfl (by kernel_rfl)) rfl ?_
  exact ⟨by first|rfl|(simp [errW_none,errW_some] <;> rfl)|(simp [*,errW_none,errW_some] <;> rfl),by repeat (first|(with_reducible first|exact HB.out|apply ba_|apply pd_|apply d1_|refine bs_ ?_ GE137.out|refine bs_ ?_ GE138.out)|exact HB.out)⟩

end Go.Proofs.YteecpeggnejeaaaDoor.P
