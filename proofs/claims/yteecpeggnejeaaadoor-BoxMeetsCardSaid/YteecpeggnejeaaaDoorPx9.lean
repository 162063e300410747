-- Written by a program of this session (wip/tools/xprint.py, over the kit's print): Lean checks it.
import Derived.Test.YteecpeggnejeaaaDoorPx0
import Derived.Test.YteecpeggnejeaaaDoorPx2
namespace Go.Proofs.YteecpeggnejeaaaDoor.P
open Go.RowKit Go.Proofs.YteecpeggnejeaaaDoorW.PrintWords Go.Proofs.YteecpeggnejeaaaDoorW.PrintLast Go.Proofs.YteecpeggnejeaaaDoorW.PrintMore
attribute [local go_sem] max2_int min2_int max_two min_two max_three min_three max_four min_four   -- for this text's walks alone
set_option linter.unusedVariables false
set_option linter.unusedSimpArgs false

/-! ### fix_errno: function 36 -/
/-- What errors.As reads: the variable that holds the type of errors. -/
def LaidE (w : World) : Prop := w.cell? ⟨0, 0, none⟩ = some (.iface 79 (.agg #[.pointer (some ⟨1, 55, none⟩)]))
theorem LaidE.below {w w1 : World} (h : LaidE w) (hb : Below w.heap.size w w1) : LaidE w1 := pw_cell_below hb h
open Go.Extern.Stop Go.Stop Go.Extern in
/-- errors.As(nil, target). -/
theorem ea_nil (t : Value) (w : World) :
  Calls Tryd.prog 37 #[.nilIface, t] w fun e w' => e = .returned (.bool false) ∧ w' = w := by
 go_enter Tryd.func37, Tryd.ntmps37
 go_wp2
 go_ret
 exact ⟨rfl, rfl⟩
/-! the entries for internal/reflectlite, after the kit's worked proof of errors.As -/
open Go.Extern.Stop Go.Stop Go.Extern in
theorem ea_valueOfPP (t : Addr) (w : World) : (ReflectliteValue.unpack (.iface 65 (.pointer (some t)))).run Tryd.prog w
  = .ok (.agg #[.pointer (some ⟨1, 65, none⟩), .pointer (some ⟨w.heap.size, 0, none⟩), .int .u64 150]) (w.alloc (.cells #[.pointer (some t)] 65)) := by kernel_rfl
open Go.Extern.Stop Go.Stop Go.Extern in
theorem ea_typePP (a : Addr) (w : World) : (ReflectliteValue.methodAny (ReflectliteValue.valueError "reflectlite.Value.Type" 0) (fun t _ _ _ => ReflectliteType.toType t) #[.agg #[.pointer (some ⟨1, 65, none⟩), .pointer (some a), .int .u64 150]]).run Tryd.prog w
  = .ok (.iface 79 (.agg #[.pointer (some ⟨1, 65, none⟩)])) w := by kernel_rfl
open Go.Extern.Stop Go.Stop Go.Extern in
theorem ea_methodKind (h : Value) (w : World) : (Go.method 222 79 (.agg #[h]) "Kind").run Tryd.prog w = .ok (59, h) w := by kernel_rfl
open Go.Extern.Stop Go.Stop Go.Extern in
theorem ea_kindPP (w : World) : ((ReflectliteType.abiMethod fun t => (fun a : Nat => Value.int IntKind.u8 (a : Int)) <$> Rtype.kind t) #[.pointer (some ⟨1, 65, none⟩)]).run Tryd.prog w = .ok (.int .u8 22) w := by kernel_rfl
open Go.Extern.Stop Go.Stop Go.Extern in
theorem ea_kindP (w : World) : ((ReflectliteType.abiMethod fun t => (fun a : Nat => Value.int IntKind.u8 (a : Int)) <$> Rtype.kind t) #[.pointer (some ⟨1, 60, none⟩)]).run Tryd.prog w = .ok (.int .u8 22) w := by kernel_rfl
open Go.Extern.Stop Go.Stop Go.Extern in
theorem ea_rlm (z : Sem Value) (f : TypeId → Addr → Nat → Nat → Sem Value) (v : Value) :
  ReflectliteValue.method z f #[v] = (do match ← ReflectliteValue.parts v with | none => z | some (t, a, fl) => f t a fl (fl % 32)) := rfl
open Go.Extern.Stop Go.Stop Go.Extern in
theorem ea_partsPP (a : Addr) (w : World) : (ReflectliteValue.parts (.agg #[.pointer (some ⟨1, 65, none⟩), .pointer (some a), .int .u64 150])).run Tryd.prog w = .ok (some (65, a, 150)) w := by kernel_rfl
open Go.Extern.Stop Go.Stop Go.Extern in
/-- (Value).IsNil at the Value of a **p.E that is not nil. -/
theorem ea_isNilPP (a p : Addr) (W : World) (ha : W.cell? a = some (.pointer (some p))) :
  (ReflectliteValue.method (ReflectliteValue.valueError "reflectlite.Value.IsNil" 0) ReflectliteValue.isNil #[.agg #[.pointer (some ⟨1, 65, none⟩), .pointer (some a), .int .u64 150]]).run Tryd.prog W = .ok (.bool false) W := by
 rw [ea_rlm]
 simp only [Sem.run_bind, ea_partsPP, Result.andThen]
 simp [ReflectliteValue.isNil, loadVar, isAgg, underlying, Tryd.underlying65, ha, Result.andThen]
open Go.Extern.Stop Go.Stop Go.Extern in
theorem ea_methodElem (h : Value) (w : World) : (Go.method 222 79 (.agg #[h]) "Elem").run Tryd.prog w = .ok (69, .agg #[h]) w := by kernel_rfl
open Go.Extern.Stop Go.Stop Go.Extern in
theorem ea_methodImplements (h : Value) (w : World) : (Go.method 222 79 (.agg #[h]) "Implements").run Tryd.prog w = .ok (70, .agg #[h]) w := by kernel_rfl
open Go.Extern.Stop Go.Stop Go.Extern in
theorem ea_methodAssignableTo (h : Value) (w : World) : (Go.method 222 79 (.agg #[h]) "AssignableTo").run Tryd.prog w = .ok (67, .agg #[h]) w := by kernel_rfl
open Go.Extern.Stop Go.Stop Go.Extern in
theorem ea_elemPP (w : World) : (ReflectliteType.method ReflectliteType.elem #[.agg #[.pointer (some ⟨1, 65, none⟩)]]).run Tryd.prog w = .ok (.iface 79 (.agg #[.pointer (some ⟨1, 60, none⟩)])) w := by kernel_rfl
open Go.Extern.Stop Go.Stop Go.Extern in
theorem ea_implementsP (w : World) : (ReflectliteType.relation "Implements" ReflectliteType.implements_ #[.agg #[.pointer (some ⟨1, 60, none⟩)], .iface 79 (.agg #[.pointer (some ⟨1, 55, none⟩)])]).run Tryd.prog w = .ok (.bool true) w := by kernel_rfl
open Go.Extern.Stop Go.Stop Go.Extern in
theorem ea_typeOfP (v : Value) (w : World) : (ReflectliteType.typeOf #[.iface 60 v]).run Tryd.prog w = .ok (.iface 79 (.agg #[.pointer (some ⟨1, 60, none⟩)])) w := by kernel_rfl
open Go.Extern.Stop Go.Stop Go.Extern in
theorem ea_assignableP (w : World) : (ReflectliteType.relation "AssignableTo" ReflectliteType.assignableTo #[.agg #[.pointer (some ⟨1, 60, none⟩)], .iface 79 (.agg #[.pointer (some ⟨1, 60, none⟩)])]).run Tryd.prog w = .ok (.bool true) w := by kernel_rfl
open Go.Extern.Stop Go.Stop Go.Extern in
theorem ea_valueOfP (e : Addr) (w : World) : (ReflectliteValue.unpack (.iface 60 (.pointer (some e)))).run Tryd.prog w
  = .ok (.agg #[.pointer (some ⟨1, 60, none⟩), .pointer (some ⟨w.heap.size, 0, none⟩), .int .u64 150]) (w.alloc (.cells #[.pointer (some e)] 60)) := by kernel_rfl
open Go.Extern.Stop Go.Stop Go.Extern in
theorem ea_elemOfPP (w : World) : (Rtype.elem? 65).run Tryd.prog w = .ok (some 60) w := by kernel_rfl
open Go.Extern.Stop Go.Stop Go.Extern in
theorem ea_mkP (p : Addr) (w : World) : (ReflectliteValue.mk 60 p ReflectliteValue.flagAddr).run Tryd.prog w = .ok (.agg #[.pointer (some ⟨1, 60, none⟩), .pointer (some p), .int .u64 406]) w := by kernel_rfl
open Go.Extern.Stop Go.Stop Go.Extern in
/-- (Value).Elem at the Value of a **p.E that is not nil: the Value of the *p.E variable that it points to, addressable. -/
theorem ea_elemVPP (a p : Addr) (W : World) (ha : W.cell? a = some (.pointer (some p))) :
  (ReflectliteValue.method (ReflectliteValue.valueError "reflectlite.Value.Elem" 0) ReflectliteValue.elem #[.agg #[.pointer (some ⟨1, 65, none⟩), .pointer (some a), .int .u64 150]]).run Tryd.prog W
   = .ok (.agg #[.pointer (some ⟨1, 60, none⟩), .pointer (some p), .int .u64 406]) W := by
 rw [ea_rlm]
 simp only [Sem.run_bind, ea_partsPP, Result.andThen]
 simp [ReflectliteValue.elem, loadVar, isAgg, underlying, Tryd.underlying65, ha, Result.andThen, ea_elemOfPP, ea_mkP]
open Go.Extern.Stop Go.Stop Go.Extern in
theorem ea_rls (v x : Value) : ReflectliteValue.set #[v, x] = (do
  let (some (dst, a, fl), some (src, b, _)) := (← ReflectliteValue.parts v, ← ReflectliteValue.parts x)
   | unsupported (.noEntry "extern/(internal/reflectlite.Value).Set.zeroValue")
  if fl / ReflectliteValue.flagAddr % 2 == 0 then unsupported (.noEntry "extern/(internal/reflectlite.Value).Set.unaddressable")
  let val ← loadVar src b
  if ← Rtype.directlyAssignable dst src then storeVar dst a val
  else if ← Rtype.implements dst src then
   if (← Rtype.kind src) == 20 then
    match val with
    | .nilIface => unsupported (.noEntry "extern/reflectlite: a nil value of one interface type handed on as a value of another")
    | _ => storeVar dst a val
   else storeVar dst a (.iface src val)
  else panicString ("reflectlite.Set: value of type " ++ (← Rtype.spelt src) ++ " is not assignable to type " ++ (← Rtype.spelt dst))
  pure (.tuple #[])) := rfl
open Go.Extern.Stop Go.Stop Go.Extern in
theorem ea_partsPa (a : Addr) (w : World) : (ReflectliteValue.parts (.agg #[.pointer (some ⟨1, 60, none⟩), .pointer (some a), .int .u64 406])).run Tryd.prog w = .ok (some (60, a, 406)) w := by kernel_rfl
open Go.Extern.Stop Go.Stop Go.Extern in
theorem ea_partsP (a : Addr) (w : World) : (ReflectliteValue.parts (.agg #[.pointer (some ⟨1, 60, none⟩), .pointer (some a), .int .u64 150])).run Tryd.prog w = .ok (some (60, a, 150)) w := by kernel_rfl
open Go.Extern.Stop Go.Stop Go.Extern in
theorem ea_directP (w : World) : (Rtype.directlyAssignable 60 60).run Tryd.prog w = .ok true w := by kernel_rfl
open Go.Extern.Stop Go.Stop Go.Extern in
theorem ea_sizeP (w : World) : (sizeOf 60).run Tryd.prog w = .ok 1 w := by kernel_rfl
open Go.Extern.Stop Go.Stop Go.Extern in
/-- (Value).Set: the *p.E variable at 'ta' gets what the Value's own variable 'b' holds. -/
theorem ea_setP (ta b e : Addr) (old : Value) (W : World) (hb : W.cell? b = some (.pointer (some e))) (ht : W.cell? ta = some old) (hf : W.frozen? ta = false) :
  (ReflectliteValue.set #[.agg #[.pointer (some ⟨1, 60, none⟩), .pointer (some ta), .int .u64 406], .agg #[.pointer (some ⟨1, 60, none⟩), .pointer (some b), .int .u64 150]]).run Tryd.prog W
   = .ok (.tuple #[]) (W.setCell ta (.pointer (some e))) := by
 rw [ea_rls]
 simp only [Sem.run_bind, ea_partsPa, ea_partsP, Result.andThen]
 simp [ReflectliteValue.flagAddr, loadVar, isAgg, underlying, Tryd.underlying60, hb, Result.andThen, ea_directP, storeVar, Value.cells, storeCells, Addr.add]
 rw [run_store Tryd.prog W ta _ _ (by rfl)]
 simp [ht, hf]
open Go.Extern.Stop Go.Stop Go.Extern in
set_option maxHeartbeats 4000000 in
theorem ea_hit (e t : Addr) (old : Value) (w : World) (hg : w.cell? ⟨0, 0, none⟩ = some (.iface 79 (.agg #[.pointer (some ⟨1, 55, none⟩)]))) (ht0 : w.cell? t = some old) (hf0 : w.frozen? t = false) :
  Calls Tryd.prog 37 #[.iface 60 (.pointer (some e)), .iface 65 (.pointer (some t))] w fun ev w' => ev = .returned (.bool true) ∧ w' = ((((w.alloc (.cells #[.pointer (some t)] 65)).alloc (.cells #[.pointer (some ⟨1, 65, none⟩), .pointer (some ⟨w.heap.size, 0, none⟩), .int .u64 150] 69)).alloc (.cells #[.pointer (some ⟨1, 65, none⟩), .pointer (some ⟨w.heap.size, 0, none⟩), .int .u64 150] 69)).alloc (.cells #[.pointer (some e)] 60)).setCell t (.pointer (some e)) := by
 have h6 := @run_callFunc_extern Tryd.prog 38 _ (fun args => ReflectliteValue.unpack (args.getD 0 (.tuple #[]))) Tryd.func38 (by kernel_rfl) (by kernel_rfl) (by kernel_rfl) (by kernel_rfl)
 have h7 := @run_callFunc_extern Tryd.prog 39 _ (ReflectliteValue.methodAny (ReflectliteValue.valueError "reflectlite.Value.Type" 0) (fun t _ _ _ => ReflectliteType.toType t)) Tryd.func39 (by kernel_rfl) (by kernel_rfl) (by kernel_rfl) (by kernel_rfl)
 have h8 := @run_callFunc_extern Tryd.prog 40 _ (ReflectliteValue.method (ReflectliteValue.valueError "reflectlite.Value.IsNil" 0) ReflectliteValue.isNil) Tryd.func40 (by kernel_rfl) (by kernel_rfl) (by kernel_rfl) (by kernel_rfl)
 have h27 := @run_callFunc_extern Tryd.prog 59 _ (ReflectliteType.abiMethod fun t => do pure (.int .u8 (← Rtype.kind t))) Tryd.func59 (by kernel_rfl) (by kernel_rfl) (by kernel_rfl) (by kernel_rfl)
 have h37 := @run_callFunc_extern Tryd.prog 69 _ (ReflectliteType.method ReflectliteType.elem) Tryd.func69 (by kernel_rfl) (by kernel_rfl) (by kernel_rfl) (by kernel_rfl)
 have h38 := @run_callFunc_extern Tryd.prog 70 _ (ReflectliteType.relation "Implements" ReflectliteType.implements_) Tryd.func70 (by kernel_rfl) (by kernel_rfl) (by kernel_rfl) (by kernel_rfl)
 have h10 := @run_callFunc_extern Tryd.prog 42 _ ReflectliteType.typeOf Tryd.func42 (by kernel_rfl) (by kernel_rfl) (by kernel_rfl) (by kernel_rfl)
 have h35 := @run_callFunc_extern Tryd.prog 67 _ (ReflectliteType.relation "AssignableTo" ReflectliteType.assignableTo) Tryd.func67 (by kernel_rfl) (by kernel_rfl) (by kernel_rfl) (by kernel_rfl)
 have h11 := @run_callFunc_extern Tryd.prog 43 _ (ReflectliteValue.method (ReflectliteValue.valueError "reflectlite.Value.Elem" 0) ReflectliteValue.elem) Tryd.func43 (by kernel_rfl) (by kernel_rfl) (by kernel_rfl) (by kernel_rfl)
 have h12 := @run_callFunc_extern Tryd.prog 44 _ ReflectliteValue.set Tryd.func44 (by kernel_rfl) (by kernel_rfl) (by kernel_rfl) (by kernel_rfl)
 have tO := ea_typeOfP
 have mA := ea_methodAssignableTo
 have a25 := ea_assignableP
 have v25 := ea_valueOfP
 have f6 := ea_valueOfPP
 have f7 := ea_typePP
 have mK := ea_methodKind
 have mE := ea_methodElem
 have mI := ea_methodImplements
 have k27 := ea_kindPP
 have k25 := ea_kindP
 have e27 := ea_elemPP
 have i25 := ea_implementsP
 have n8 := ea_isNilPP ⟨w.heap.size, 0, none⟩ t ((w.alloc (.cells #[.pointer (some t)] 65)).alloc (.cells #[.pointer (some ⟨1, 65, none⟩), .pointer (some ⟨w.heap.size, 0, none⟩), .int .u64 150] 69)) (by simp)
 have hlt : 0 < w.heap.size := wb_ w _ hg
 have hg2 : ((w.alloc (.cells #[.pointer (some t)] 65)).alloc (.cells #[.pointer (some ⟨1, 65, none⟩), .pointer (some ⟨w.heap.size, 0, none⟩), .int .u64 150] 69)).cell? ⟨0, 0, none⟩ = some (.iface 79 (.agg #[.pointer (some ⟨1, 55, none⟩)])) := by
  rw [World.cell?_alloc_lt _ _ ⟨0, 0, none⟩ (Nat.lt_trans hlt (by rw [World.size_alloc]; exact Nat.lt_succ_self _)), World.cell?_alloc_lt _ _ ⟨0, 0, none⟩ hlt]; exact hg
 have htl : t.block < w.heap.size := by
  rcases Nat.lt_or_ge t.block w.heap.size with h | h
  ·exact h
  ·simp [World.cell?, Array.getElem?_eq_none h] at ht0
 have el := ea_elemVPP ⟨w.heap.size, 0, none⟩ t (((w.alloc (.cells #[.pointer (some t)] 65)).alloc (.cells #[.pointer (some ⟨1, 65, none⟩), .pointer (some ⟨w.heap.size, 0, none⟩), .int .u64 150] 69)).alloc (.cells #[.pointer (some ⟨1, 65, none⟩), .pointer (some ⟨w.heap.size, 0, none⟩), .int .u64 150] 69)) (by rw [World.cell?_alloc_lt _ _ ⟨w.heap.size, 0, none⟩ (by simp; omega)]; simp)
 have st := ea_setP t ⟨w.heap.size + 1 + 1 + 1, 0, none⟩ e old ((((w.alloc (.cells #[.pointer (some t)] 65)).alloc (.cells #[.pointer (some ⟨1, 65, none⟩), .pointer (some ⟨w.heap.size, 0, none⟩), .int .u64 150] 69)).alloc (.cells #[.pointer (some ⟨1, 65, none⟩), .pointer (some ⟨w.heap.size, 0, none⟩), .int .u64 150] 69)).alloc (.cells #[.pointer (some e)] 60))
  (by rw [World.cell?_alloc_at _ _ _ _ (by simp)]; rfl)
  (by rw [World.cell?_alloc_lt _ _ t (by simp; omega), World.cell?_alloc_lt _ _ t (by simp; omega), World.cell?_alloc_lt _ _ t (by simp; omega), World.cell?_alloc_lt _ _ t htl]; exact ht0)
  (by rw [World.frozen?_alloc_old _ _ t (by simp; omega), World.frozen?_alloc_old _ _ t (by simp; omega), World.frozen?_alloc_old _ _ t (by simp; omega), World.frozen?_alloc_old _ _ t (nn_ htl)]; exact hf0)
 go_enter Tryd.func37, Tryd.ntmps37
 go_wp2
 refine wp_loop_rounds 1 ?_
 rw [rounds_succ]
 go_wp2
 go_ret
 exact ⟨rfl, rfl⟩
theorem errno_as (w : World) (g : Nat) (c : Int) (hE : LaidE w) (hg : w.cell? ⟨g, 0, none⟩ = some (.int .i64 c)) :
  Calls Tryd.prog 37 #[.iface 60 (.pointer (some ⟨g, 0, none⟩)), .iface 65 (.pointer (some ⟨w.heap.size, 0, none⟩))] (w.alloc (.cells #[.pointer none] 60)) fun e w' => e = .returned (.bool true) ∧ w'.cell? ⟨w.heap.size, 0, none⟩ = some (.pointer (some ⟨g, 0, none⟩)) ∧ w'.cell? ⟨g, 0, none⟩ = some (.int .i64 c) ∧ Below w.heap.size w w' := by
 have hb0 : Below w.heap.size w (w.alloc (.cells #[.pointer none] 60)) := ba_ (Below.refl _ _) _
 refine (ea_hit ⟨g, 0, none⟩ ⟨w.heap.size, 0, none⟩ (.pointer none) _ (hE.below hb0) (by simp) (by simp)).mono ?_
 rintro e w' ⟨rfl, rfl⟩
 have hb : Below w.heap.size w ((((((w.alloc (.cells #[.pointer none] 60)).alloc (.cells #[.pointer (some ⟨w.heap.size, 0, none⟩)] 65)).alloc (.cells #[.pointer (some ⟨1, 65, none⟩), .pointer (some ⟨(w.alloc (.cells #[.pointer none] 60)).heap.size, 0, none⟩), .int .u64 150] 69)).alloc (.cells #[.pointer (some ⟨1, 65, none⟩), .pointer (some ⟨(w.alloc (.cells #[.pointer none] 60)).heap.size, 0, none⟩), .int .u64 150] 69)).alloc (.cells #[.pointer (some ⟨g, 0, none⟩)] 60)).setCell ⟨w.heap.size, 0, none⟩ (.pointer (some ⟨g, 0, none⟩))) :=
  bs_ (ba_ (ba_ (ba_ (ba_ hb0 _) _) _) _) (Nat.le_refl _)
 refine ⟨rfl, World.cell?_setCell_same _ _ _ (u := .pointer none) ?_, pw_cell_below hb hg, hb⟩
 have h0 : (w.alloc (.cells #[.pointer none] 60)).cell? ⟨w.heap.size, 0, none⟩ = some (.pointer none) := by simp
 exact pw_cell_below (ba_ (ba_ (ba_ (ba_ (Below.refl _ _) _) _) _) _) h0
theorem errno_hit (w : World) (g : Nat) (c : Int) (hE : LaidE w) (hg : w.cell? ⟨g, 0, none⟩ = some (.int .i64 c)) :
  Calls Tryd.prog 36 #[.iface 60 (.pointer (some ⟨g, 0, none⟩))] w fun e w' => e = .returned (.int .i64 c) ∧ Below w.heap.size w w' := by
 have HA := sd_ (errno_as w g c hE hg)
 clear hE hg
 go_enter Tryd.func36, Tryd.ntmps36
 go_wp2_with (go_at_call 37; refine HA.out.mono ?_; rintro e w' ⟨rfl, h1, h2, hb⟩; have HB := sd_ hb; clear hb)
 go_ret
 exact ⟨rfl, HB.out⟩

/-! ### fix_out: function 34 -/
theorem fx_ret2 {a b c d : Int} (h : a = c) (h' : b = d) : Ending.returned (.tuple #[.int .i64 a, .int .i64 b]) = .returned (.tuple #[.int .i64 c, .int .i64 d]) := by rw [h, h']
/-- An error that came in: its code. -/
theorem fix_out_err (x : Int) (g : Nat) (c : Int) (w : World) (hE : LaidE w) (hg : w.cell? ⟨g, 0, none⟩ = some (.int .i64 c)) :
  Calls Tryd.prog 34 #[.int .i64 x, .iface 60 (.pointer (some ⟨g, 0, none⟩))] w fun e w' => e = .returned (.tuple #[.int .i64 0, .int .i64 c]) ∧ Below w.heap.size w w' := by
 have HA := sd_ (errno_hit w g c hE hg)
 clear hE hg
 go_enter Tryd.func34, Tryd.ntmps34
 go_wp2_with (go_at_call 36; refine HA.out.mono ?_; rintro e w' ⟨rfl, hb⟩; have HB := sd_ hb; clear hb)
 go_ret2
 exact ⟨rfl, HB.out⟩
def fix_out.f (x : Int) : Option (Int × Int) := if fx_ok x = true then some (x, 0) else some (0, 3)
/-- No error came in: a length is handed back, or none. -/
theorem fix_out_nil (x r1 r2 : Int) (w : World) (hE : LaidE w) (h : fix_out.f x = some (r1, r2)) :
  Calls Tryd.prog 34 #[.int .i64 x, .nilIface] w fun e w' => e = .returned (.tuple #[.int .i64 r1, .int .i64 r2]) ∧ Below w.heap.size w w' := by
 have hC : Kd.C (Kd.int .i64) (w.alloc (.cells #[.int .i64 x] 3)) (some ⟨w.heap.size, 0, none⟩) 1 [x] := fx_C w [x] (by simp)
 have hb1 : Below w.heap.size w (w.alloc (.cells #[.int .i64 x] 3)) := ba_ (Below.refl _ _) _
 unfold fix_out.f at h
 cases hx : fx_ok x with
 | true =>
  rw [hx, if_pos rfl] at h
  obtain ⟨rfl, rfl⟩ : x = r1 ∧ 0 = r2 := by simpa using h
  have HA := sd_ (fix_all_ok _ 1 [x] _ hC (by simp [hx]))
  have HB1 := sd_ hb1
  clear h hC hx hE hb1
  go_enter Tryd.func34, Tryd.ntmps34
  go_wp2_with (go_at_call 33; refine HA.out.mono ?_; rintro e w' ⟨rfl, rfl⟩)
  go_ret2
  exact ⟨rfl, HB1.out⟩
 | false =>
  rw [hx, if_neg (by decide)] at h
  obtain ⟨rfl, rfl⟩ : 0 = r1 ∧ 3 = r2 := by simpa using h
  have hb2 : Below w.heap.size w ((w.alloc (.cells #[.int .i64 x] 3)).alloc (.cells #[.int .i64 3] 62)) := ba_ hb1 _
  have HA := sd_ (fix_all_bad _ 1 [x] _ hC (by simp [hx]))
  have HE := sd_ (errno_hit _ (w.heap.size + 1) 3 (hE.below hb2) (by simp))
  have HB2 := sd_ hb2
  clear h hC hx hE hb1 hb2
  go_enter Tryd.func34, Tryd.ntmps34
  go_wp2_with (first | (go_at_call 33; refine HA.out.mono ?_; rintro e w' ⟨rfl, rfl⟩) | (go_at_call 36; refine HE.out.mono ?_; rintro e w' ⟨rfl, hb⟩; have HB := sd_ (below_then HB2.out HB2.out.size hb); clear hb))
  go_ret2
  exact ⟨rfl, HB.out⟩

/-! ### fix_Add: function 31 -/
theorem fx_all2 {a b : Int} (h : fx_ok a = true) (h' : fx_ok b = true) : [a, b].all fx_ok = true := by simp [h, h']
theorem fx_bad2 {a b : Int} (h : ¬ (fx_ok a = true ∧ fx_ok b = true)) : [a, b].all fx_ok = false := by
 cases ha : fx_ok a <;> cases hb : fx_ok b <;> simp_all
theorem fx_bd {a : Int} (h : fx_ok a = true) : -1099511627776 ≤ a ∧ a ≤ 1099511627776 := od_ h
def fix_Add.f (a b : Int) : Option (Int × Int) := if fx_ok a = true ∧ fx_ok b = true then fix_out.f (a + b) else some (0, 3)
theorem fix_Add.calls (a b r1 r2 : Int) (w : World) (hE : Aside0 (LaidE w)) (h : fix_Add.f a b = some (r1, r2)) :
  Calls Tryd.prog 31 #[.int .i64 a, .int .i64 b] w fun e w' => e = .returned (.tuple #[.int .i64 r1, .int .i64 r2]) ∧ Below w.heap.size w w' := by
 have hC : Kd.C (Kd.int .i64) (w.alloc (.cells #[.int .i64 a, .int .i64 b] 3)) (some ⟨w.heap.size, 0, none⟩) 2 [a, b] := fx_C w [a, b] (by simp)
 have hb1 : Below w.heap.size w (w.alloc (.cells #[.int .i64 a, .int .i64 b] 3)) := ba_ (Below.refl _ _) _
 unfold fix_Add.f at h
 by_cases c : fx_ok a = true ∧ fx_ok b = true
 ·rw [if_pos c] at h
  have HA := sd_ (fix_all_ok _ 2 [a, b] _ hC (fx_all2 c.1 c.2))
  have HO := sd_ (fix_out_nil (a + b) r1 r2 _ (hE.out.below hb1) h)
  have HB1 := sd_ hb1
  obtain ⟨b1, b2⟩ := fx_bd c.1
  obtain ⟨b3, b4⟩ := fx_bd c.2
  clear h hC hE hb1 c
  go_enter Tryd.func31, Tryd.ntmps31
  go_wp2_with (first | (go_at_call 33; refine HA.out.mono ?_; rintro e w' ⟨rfl, rfl⟩) | (go_at_call 34; refine HO.out.mono ?_; rintro e w' ⟨rfl, hb⟩; have HB := sd_ (below_then HB1.out HB1.out.size hb); clear hb))
  go_ret2
  exact ⟨rfl, HB.out⟩
 ·rw [if_neg c] at h
  obtain ⟨rfl, rfl⟩ : 0 = r1 ∧ 3 = r2 := by simpa using h
  have hb2 : Below w.heap.size w ((w.alloc (.cells #[.int .i64 a, .int .i64 b] 3)).alloc (.cells #[.int .i64 3] 62)) := ba_ hb1 _
  have HA := sd_ (fix_all_bad _ 2 [a, b] _ hC (fx_bad2 c))
  have HO := sd_ (fix_out_err 0 (w.heap.size + 1) 3 _ (hE.out.below hb2) (by simp))
  have HB1 := sd_ hb2
  clear h hC hE hb1 hb2 c
  go_enter Tryd.func31, Tryd.ntmps31
  go_wp2_with (first | (go_at_call 33; refine HA.out.mono ?_; rintro e w' ⟨rfl, rfl⟩) | (go_at_call 34; refine HO.out.mono ?_; rintro e w' ⟨rfl, hb⟩; have HB := sd_ (below_then HB1.out HB1.out.size hb); clear hb))
  go_ret2
  exact ⟨rfl, HB.out⟩

-- NOT PRINTED: function 30 (box_shifted_1)

end Go.Proofs.YteecpeggnejeaaaDoor.P
