-- Written by a program of this session (wip/tools/xprint.py, over the kit's print): Lean checks it.
import Derived.Test.YteecpeggnejeaaaDoorProg
import Derived.Below
import Derived.Deep.Draws
import Derived.Deep.AppendLies
import Derived.Maps.AppendAt
import Derived.OwnWalk
import Derived.Laws.BytesArg
import Derived.Laws.MakeOwn
import Derived.Laws.OwnMore
import Derived.Deep.OwnRows
import Derived.Tactics
import Derived.Lib.ConvBytes
import Derived.Laws.Slices
import Derived.WalkKit
import Derived.KernelRfl
import Derived.RowKit3
import Derived.Deep.LoopGhost
import Derived.Deep.QuietTactic
import Derived.BigQuiet
import Derived.WideLaws
import Derived.Deep.DeepCutAuto
import Derived.Deep.CutBlock
import Derived.Deep.RegionHeld3
import Derived.Laws.Rows
import Derived.Lib.AppendStr
import Derived.ArgAppend
import Derived.Laws.IdiomCopy
import Derived.OrdersHeld
import Derived.Laws.BitsLemmas
import Derived.RowKit
import Derived.LaidEql
import Derived.Stop.Asserts
import Derived.RowKitTokens
import Derived.Test.YteecpeggnejeaaaDoorMl
import Derived.Test.YteecpeggnejeaaaDoorWWords
import Derived.Test.YteecpeggnejeaaaDoorWLast
import Derived.Test.YteecpeggnejeaaaDoorWTab
import Derived.Test.YteecpeggnejeaaaDoorWEqStruct
import Derived.Test.YteecpeggnejeaaaDoorWRepsOne
namespace Go.Proofs.YteecpeggnejeaaaDoor.P
open Go.RowKit Go.Proofs.YteecpeggnejeaaaDoorW.PrintWords Go.Proofs.YteecpeggnejeaaaDoorW.PrintLast Go.Proofs.YteecpeggnejeaaaDoorW.PrintMore
attribute [local go_sem] max2_int min2_int max_two min_two max_three min_three max_four min_four   -- for this text's walks alone
set_option linter.unusedVariables false
set_option linter.unusedSimpArgs false



def errW : Option Int → Value
  | none => .nilIface
  | some c => .iface 0 (.int .i64 c)
theorem errW_none : errW none = .nilIface := rfl
theorem errW_some (c : Int) : errW (some c) = .iface 0 (.int .i64 c) := rfl

theorem info23 : (Tryd.prog.info? 23).map (fun i => (i.zero, i.size, i.bytes)) = some (some (.agg #[(.int .i64 0), (.int .i64 0), (.int .i64 0), (.int .i64 0)]), 4, 32) := by kernel_rfl
-- the values' own types
/-! #### struct type 23 -/
structure S23 where
  f0 : Int
  f1 : Int
  f2 : Int
  f3 : Int
def z23 : S23 := ⟨(0 : Int), (0 : Int), (0 : Int), (0 : Int)⟩
def k23 : Kd S23 := Kd.iso (Kd.pair (Kd.int .i64) (Kd.pair (Kd.int .i64) (Kd.pair (Kd.int .i64) (Kd.int .i64)))) (fun x : S23 => (x.f0, x.f1, x.f2, x.f3))
theorem k23_open {w : World} {x : S23} {cs : List Value} (h : k23.K w x cs) : cs = [.int .i64 x.f0, .int .i64 x.f1, .int .i64 x.f2, .int .i64 x.f3] := by
  obtain ⟨_,_,rfl,rfl,⟨_,_,rfl,rfl,⟨_,_,rfl,rfl,rfl⟩⟩⟩ := h
  exact rfl
theorem k23_openM {w : World} {base : Nat} {ok : Nat → Prop} {x : S23} {cs : List Value} (h : k23.M w base ok x cs) : cs = [.int .i64 x.f0, .int .i64 x.f1, .int .i64 x.f2, .int .i64 x.f3] := by
  obtain ⟨_,_,rfl,rfl,⟨_,_,rfl,rfl,⟨_,_,rfl,rfl,rfl⟩⟩⟩ := h
  exact rfl
theorem k23_mk (w : World) (x : S23)  : k23.K w x [.int .i64 x.f0, .int .i64 x.f1, .int .i64 x.f2, .int .i64 x.f3] := ⟨[.int .i64 x.f0], [.int .i64 x.f1, .int .i64 x.f2, .int .i64 x.f3], rfl, rfl, ⟨[.int .i64 x.f1], [.int .i64 x.f2, .int .i64 x.f3], rfl, rfl, ⟨[.int .i64 x.f2], [.int .i64 x.f3], rfl, rfl, rfl⟩⟩⟩
theorem k23_mkM (w : World) (base : Nat) (ok : Nat → Prop) (x : S23)  : k23.M w base ok x [.int .i64 x.f0, .int .i64 x.f1, .int .i64 x.f2, .int .i64 x.f3] := ⟨[.int .i64 x.f0], [.int .i64 x.f1, .int .i64 x.f2, .int .i64 x.f3], rfl, rfl, ⟨[.int .i64 x.f1], [.int .i64 x.f2, .int .i64 x.f3], rfl, rfl, ⟨[.int .i64 x.f2], [.int .i64 x.f3], rfl, rfl, rfl⟩⟩⟩
def rd_T23 (xs : List S23) (i : Int) : S23 := xs.getD i.toNat z23
theorem at_T23 {w : World} {A : Option Addr} {n : Nat} {xs : List S23} (h : Kd.C k23 w A n xs) (i : Int) (h0 : 0 ≤ i) (h1 : i < n) : ∃ ad , A = some ad ∧ w.cell? (ad.add (i.toNat * 4)) = some (.int .i64 (rd_T23 xs i).f0) ∧ w.cell? ⟨(ad.add (i.toNat * 4)).block, (ad.add (i.toNat * 4)).off + 1, none⟩ = some (.int .i64 (rd_T23 xs i).f1) ∧ w.cell? ⟨(ad.add (i.toNat * 4)).block, (ad.add (i.toNat * 4)).off + 2, none⟩ = some (.int .i64 (rd_T23 xs i).f2) ∧ w.cell? ⟨(ad.add (i.toNat * 4)).block, (ad.add (i.toNat * 4)).off + 3, none⟩ = some (.int .i64 (rd_T23 xs i).f3) := by
  obtain ⟨ad,c,e,_,hK,hc0⟩ := Kd.C_get h z23 i h0 h1
  have hc : ∀ j u,c[j]? = some u → w.cell? (ad.add (i.toNat * 4 + j)) = some u := hc0
  obtain rfl := k23_open hK
  exact ⟨ad,e,hc 0 _ rfl,by rw [← add_field _ _ 1 (by omega)];exact hc 1 _ rfl,by rw [← add_field _ _ 2 (by omega)];exact hc 2 _ rfl,by rw [← add_field _ _ 3 (by omega)];exact hc 3 _ rfl⟩

def rd_L3 (xs : List (List Int)) (i : Int) : (List Int) := xs.getD i.toNat ([] : List Int)
theorem at_L3 {w : World} {A : Option Addr} {n : Nat} {xs : List (List Int)} (h : Kd.C (Kd.slice 3 (Kd.int .i64)) w A n xs) (i : Int) (h0 : 0 ≤ i) (h1 : i < n) : ∃ ad A0 c0, A = some ad ∧ w.cell? (ad.add i.toNat) = some (.slice A0 (rd_L3 xs i).length c0) ∧ (rd_L3 xs i).length ≤ c0 ∧ (Kd.int .i64).C w A0 (rd_L3 xs i).length (rd_L3 xs i) := by
  obtain ⟨ad,c,e,_,hK,hc0⟩ := Kd.C_get h ([] : List Int) i h0 h1
  have hc : ∀ j u,c[j]? = some u → w.cell? (ad.add (i.toNat * 1 + j)) = some u := hc0
  obtain ⟨A0,c0,rfl,l0,g0⟩ := hK
  exact ⟨ad,A0,c0,e,by have hq := hc 0 _ rfl;rwa [Nat.mul_one,Nat.add_zero] at hq,l0,g0⟩

-- short names for long ones, in the printed texts
theorem sd_ {p : Prop} (h : p) : Aside0 p := ⟨h⟩
theorem wb_ : ∀ (w : World) (a : Addr) {u : Value}, w.cell? a = some u → a.block < w.heap.size := @World.block_lt_of_cell?
theorem pd_ : ∀ {B : Nat} {w W : World}, Below B w W → ∀ (n : Nat), Below B w (W.drewN n) := @pw_below_drewN
theorem d1_ : ∀ {base : Nat} {w W : World}, Below base w W → Below base w W.drew := @below_drew1
theorem ba_ : ∀ {w W : World}, Below w.heap.size w W → ∀ (o : Obj), Below w.heap.size w (W.alloc o) := @below_alloc
theorem bs_ : ∀ {w W : World} {g j : Nat} {v : Value}, Below w.heap.size w W → w.heap.size ≤ g → Below w.heap.size w (W.setCell ⟨g, j, none⟩ v) := @below_set
theorem ka_ : ∀ {w : World} {g : Nat} {o : Obj}, w.heap[g]? = some o → ∀ (o' : Obj), (w.alloc o').heap[g]? = some o := @blk_alloc
theorem kn_ : ∀ {w : World} {g : Nat} {o : Obj}, w.heap[g]? = some o → ∀ (n : Nat), (w.drewN n).heap[g]? = some o := @blk_drewN
theorem kd_ : ∀ {w : World} {g : Nat} {o : Obj}, w.heap[g]? = some o → w.drew.heap[g]? = some o := @blk_drew
theorem kf_ : ∀ {w : World} {g : Nat} {t : TypeId} {cs : Array Value}, w.heap[g]? = some (.cells cs t (0, 0)) → ∀ (i : Nat), w.frozen? ⟨g, i, none⟩ = false := @blk_frozen
theorem kc_ : ∀ {w : World} {g : Nat} {t : TypeId} {cs : Array Value}, w.heap[g]? = some (.cells cs t (0, 0)) → ∀ (i : Nat), w.cell? ⟨g, i, none⟩ = cs[i]? := @blk_cell
theorem nn_ : ∀ {a b : Nat}, a < b → a ≠ b := @Nat.ne_of_lt
theorem ls_ : ∀ {α : Type} (l : List α) (i : Nat) (a : α), l.toArray.setIfInBounds i a = (l.set i a).toArray := @List.setIfInBounds_toArray
theorem lz_ : ∀ {α : Type} {x : α} {xs : List α} {a : α}, (x :: xs).set 0 a = a :: xs := @List.set_cons_zero
theorem lc_ : ∀ {α : Type} {x : α} {xs : List α} {i : Nat} {a : α}, (x :: xs).set (i + 1) a = x :: xs.set i a := @List.set_cons_succ
theorem dt_ : ∀ {p : Prop} [inst : Decidable p], p → decide p = true := @decide_eq_true
theorem df_ : ∀ {p : Prop} [inst : Decidable p], ¬p → decide p = false := @decide_eq_false
theorem od_ : ∀ {p : Prop} [inst : Decidable p], decide p = true → p := @of_decide_eq_true
theorem bz_ : ∀ {w W : World}, Below w.heap.size w W → w.heap.size ≤ W.heap.size := @below_size
theorem bt_ : ∀ {w W w2 : World}, Below w.heap.size w W → Below W.heap.size W w2 → Below w.heap.size w w2 := @below_step
theorem ld_ : ∀ {α : Type} {i : Nat} {l : List α}, (List.drop i l).length = l.length - i := @List.length_drop
theorem lt_ : ∀ {α : Type} {i : Nat} {l : List α}, (List.take i l).length = min i l.length := @List.length_take
theorem lm_ : ∀ {α β : Type} {f : α → β} {l : List α}, Array.map f l.toArray = (List.map f l).toArray := @List.map_toArray
theorem lq_ : ∀ {α β : Type} {f : α → β} {a : α} {l : List α}, List.map f (a :: l) = f a :: List.map f l := @List.map_cons
theorem lx_ : ∀ {α β : Type} {f : α → β}, List.map f [] = [] := @List.map_nil
theorem ob_ : ∀ {α β : Type} {x : Option α} {f : α → Option β} {b : β} (_ : x.bind f = some b), ∃ a, x = some a ∧ f a = some b := fun h => Option.bind_eq_some_iff.mp h
theorem bf_ : ∀ {b : Bool} (_ : ¬ b = true), b = false := fun h => Bool.eq_false_iff.mpr h
end Go.Proofs.YteecpeggnejeaaaDoor.P
