-- Written by a program of this session (wip/tools/xprint.py, over the kit's print): Lean checks it.
import Derived.Test.YtchmcljinkemaaaProg
import Derived.Below
import Derived.Deep.Draws
import Derived.Deep.AppendLies
import Derived.Maps.AppendAt
import Derived.OwnWalk
import Derived.Laws.BytesArg
import Derived.Laws.MakeOwn
import Derived.Laws.OwnMore
import Derived.Deep.OwnRows
import Derived.Tactics
import Derived.Lib.ConvBytes
import Derived.Laws.Slices
import Derived.WalkKit
import Derived.KernelRfl
import Derived.RowKit3
import Derived.Deep.LoopGhost
import Derived.Deep.QuietTactic
import Derived.BigQuiet
import Derived.WideLaws
import Derived.Deep.DeepCutAuto
import Derived.Deep.CutBlock
import Derived.Deep.RegionHeld3
import Derived.Laws.Rows
import Derived.Lib.AppendStr
import Derived.ArgAppend
import Derived.Laws.IdiomCopy
import Derived.OrdersHeld
import Derived.Laws.BitsLemmas
import Derived.RowKit
import Derived.Test.YtchmcljinkemaaaShelf
import Derived.Lib.SliceRun
import Derived.Maps.OwnSet
import Derived.Sort.OwnSortedInts
import Derived.Lib.SlicesCompact
import Derived.Test.YtchmcljinkemaaaWWords
import Derived.Test.YtchmcljinkemaaaWLast
import Derived.Test.YtchmcljinkemaaaWTab
import Derived.Test.YtchmcljinkemaaaWQPut
import Derived.Test.YtchmcljinkemaaaWApart
import Derived.Test.YtchmcljinkemaaaWArr
import Derived.Test.YtchmcljinkemaaaWZeros
import Derived.Test.YtchmcljinkemaaaWFoot
import Derived.Test.YtchmcljinkemaaaWKept
import Derived.Test.YtchmcljinkemaaaWShare
import Derived.Test.YtchmcljinkemaaaWN
import Derived.Test.YtchmcljinkemaaaWEqStruct
import Derived.Test.YtchmcljinkemaaaWRepsOne
import Derived.Test.YtchmcljinkemaaaWGuard
import Derived.Test.YtchmcljinkemaaaWNEv
import Derived.Test.YtchmcljinkemaaaWMore
namespace Go.Proofs.Ytchmcljinkemaaa.P
open Go.RowKit Go.Proofs.YtchmcljinkemaaaW.PrintWords Go.Proofs.YtchmcljinkemaaaW.PrintLast Go.Proofs.YtchmcljinkemaaaW.PrintMore
attribute [local go_sem] max2_int min2_int max_two min_two max_three min_three max_four min_four   -- for this text's walks alone
set_option linter.unusedVariables false
set_option linter.unusedSimpArgs false



def errW : Option Int → Value
  | none => .nilIface
  | some c => .iface 0 (.int .i64 c)
theorem errW_none : errW none = .nilIface := rfl
theorem errW_some (c : Int) : errW (some c) = .iface 0 (.int .i64 c) := rfl

theorem info3 : (Try.prog.info? 3).map (fun i => (i.zero, i.size, i.bytes)) = some (some (.int .i64 0), 1, 8) := by kernel_rfl
theorem info22 : (Try.prog.info? 22).map (fun i => (i.zero, i.size, i.bytes)) = some (some (.slice none 0 0), 1, 24) := by kernel_rfl
theorem info45 : (Try.prog.info? 45).map (fun i => (i.zero, i.size, i.bytes)) = some (some (.agg #[(.int .i64 0), (.int .i64 0), (.int .i64 0), (.int .i64 0)]), 4, 32) := by kernel_rfl
-- the values' own types
/-! #### struct type 45 -/
structure S45 where
  f0 : Int
  f1 : Int
  f2 : Int
  f3 : Int
def z45 : S45 := ⟨(0 : Int), (0 : Int), (0 : Int), (0 : Int)⟩
def k45 : Kd S45 := Kd.iso (Kd.pair (Kd.int .i64) (Kd.pair (Kd.int .i64) (Kd.pair (Kd.int .i64) (Kd.int .i64)))) (fun x : S45 => (x.f0, x.f1, x.f2, x.f3))
theorem k45_open {w : World} {x : S45} {cs : List Value} (h : k45.K w x cs) : cs = [.int .i64 x.f0, .int .i64 x.f1, .int .i64 x.f2, .int .i64 x.f3] := by
  obtain ⟨_, _, rfl, rfl, ⟨_, _, rfl, rfl, ⟨_, _, rfl, rfl, rfl⟩⟩⟩ := h
  exact rfl
theorem k45_openM {w : World} {base : Nat} {ok : Nat → Prop} {x : S45} {cs : List Value} (h : k45.M w base ok x cs) : cs = [.int .i64 x.f0, .int .i64 x.f1, .int .i64 x.f2, .int .i64 x.f3] := by
  obtain ⟨_, _, rfl, rfl, ⟨_, _, rfl, rfl, ⟨_, _, rfl, rfl, rfl⟩⟩⟩ := h
  exact rfl
theorem k45_mk (w : World) (x : S45)  : k45.K w x [.int .i64 x.f0, .int .i64 x.f1, .int .i64 x.f2, .int .i64 x.f3] := ⟨[.int .i64 x.f0], [.int .i64 x.f1, .int .i64 x.f2, .int .i64 x.f3], rfl, rfl, ⟨[.int .i64 x.f1], [.int .i64 x.f2, .int .i64 x.f3], rfl, rfl, ⟨[.int .i64 x.f2], [.int .i64 x.f3], rfl, rfl, rfl⟩⟩⟩
theorem k45_mkM (w : World) (base : Nat) (ok : Nat → Prop) (x : S45)  : k45.M w base ok x [.int .i64 x.f0, .int .i64 x.f1, .int .i64 x.f2, .int .i64 x.f3] := ⟨[.int .i64 x.f0], [.int .i64 x.f1, .int .i64 x.f2, .int .i64 x.f3], rfl, rfl, ⟨[.int .i64 x.f1], [.int .i64 x.f2, .int .i64 x.f3], rfl, rfl, ⟨[.int .i64 x.f2], [.int .i64 x.f3], rfl, rfl, rfl⟩⟩⟩
theorem k45_mkF (W : World) (ok : Nat → Prop) (x : S45) : Kd.FK k45 W ok x [.int .i64 x.f0, .int .i64 x.f1, .int .i64 x.f2, .int .i64 x.f3] := fun W2 _ => k45_mk W2 x
def rd_T45 (xs : List S45) (i : Int) : S45 := xs.getD i.toNat z45
theorem at_T45 {w : World} {A : Option Addr} {n : Nat} {xs : List S45} (h : Kd.C k45 w A n xs) (i : Int) (h0 : 0 ≤ i) (h1 : i < n) : ∃ ad , A = some ad ∧ w.cell? (ad.add (i.toNat * 4)) = some (.int .i64 (rd_T45 xs i).f0) ∧ w.cell? ⟨(ad.add (i.toNat * 4)).block, (ad.add (i.toNat * 4)).off + 1, none⟩ = some (.int .i64 (rd_T45 xs i).f1) ∧ w.cell? ⟨(ad.add (i.toNat * 4)).block, (ad.add (i.toNat * 4)).off + 2, none⟩ = some (.int .i64 (rd_T45 xs i).f2) ∧ w.cell? ⟨(ad.add (i.toNat * 4)).block, (ad.add (i.toNat * 4)).off + 3, none⟩ = some (.int .i64 (rd_T45 xs i).f3) := by
  obtain ⟨ad, c, e, _, hK, hc0⟩ := Kd.C_get h z45 i h0 h1
  have hc : ∀ j u, c[j]? = some u → w.cell? (ad.add (i.toNat * 4 + j)) = some u := hc0
  obtain rfl := k45_open hK
  exact ⟨ad, e, hc 0 _ rfl, by rw [← add_field _ _ 1 (by omega)]; exact hc 1 _ rfl, by rw [← add_field _ _ 2 (by omega)]; exact hc 2 _ rfl, by rw [← add_field _ _ 3 (by omega)]; exact hc 3 _ rfl⟩

def rd_L2 (xs : List (List S45)) (i : Int) : (List S45) := xs.getD i.toNat ([] : List S45)
theorem at_L2 {w : World} {A : Option Addr} {n : Nat} {xs : List (List S45)} (h : Kd.C (Kd.slice 45 k45) w A n xs) (i : Int) (h0 : 0 ≤ i) (h1 : i < n) : ∃ ad A0 c0, A = some ad ∧ w.cell? (ad.add i.toNat) = some (.slice A0 (rd_L2 xs i).length c0) ∧ (rd_L2 xs i).length ≤ c0 ∧ k45.C w A0 (rd_L2 xs i).length (rd_L2 xs i) := by
  obtain ⟨ad, c, e, _, hK, hc0⟩ := Kd.C_get h ([] : List S45) i h0 h1
  have hc : ∀ j u, c[j]? = some u → w.cell? (ad.add (i.toNat * 1 + j)) = some u := hc0
  obtain ⟨A0, c0, rfl, l0, g0⟩ := hK
  exact ⟨ad, A0, c0, e, by have hq := hc 0 _ rfl; rwa [Nat.mul_one, Nat.add_zero] at hq, l0, g0⟩

def rd_L4 (xs : List (List Int)) (i : Int) : (List Int) := xs.getD i.toNat ([] : List Int)
theorem at_L4 {w : World} {A : Option Addr} {n : Nat} {xs : List (List Int)} (h : Kd.C (Kd.slice 3 (Kd.int .i64)) w A n xs) (i : Int) (h0 : 0 ≤ i) (h1 : i < n) : ∃ ad A0 c0, A = some ad ∧ w.cell? (ad.add i.toNat) = some (.slice A0 (rd_L4 xs i).length c0) ∧ (rd_L4 xs i).length ≤ c0 ∧ (Kd.int .i64).C w A0 (rd_L4 xs i).length (rd_L4 xs i) := by
  obtain ⟨ad, c, e, _, hK, hc0⟩ := Kd.C_get h ([] : List Int) i h0 h1
  have hc : ∀ j u, c[j]? = some u → w.cell? (ad.add (i.toNat * 1 + j)) = some u := hc0
  obtain ⟨A0, c0, rfl, l0, g0⟩ := hK
  exact ⟨ad, A0, c0, e, by have hq := hc 0 _ rfl; rwa [Nat.mul_one, Nat.add_zero] at hq, l0, g0⟩

def rd_L5 (xs : List (List (List S45))) (i : Int) : (List (List S45)) := xs.getD i.toNat ([] : List (List S45))
theorem at_L5 {w : World} {A : Option Addr} {n : Nat} {xs : List (List (List S45))} (h : Kd.C (Kd.slice 22 (Kd.slice 45 k45)) w A n xs) (i : Int) (h0 : 0 ≤ i) (h1 : i < n) : ∃ ad A0 c0, A = some ad ∧ w.cell? (ad.add i.toNat) = some (.slice A0 (rd_L5 xs i).length c0) ∧ (rd_L5 xs i).length ≤ c0 ∧ (Kd.slice 45 k45).C w A0 (rd_L5 xs i).length (rd_L5 xs i) := by
  obtain ⟨ad, c, e, _, hK, hc0⟩ := Kd.C_get h ([] : List (List S45)) i h0 h1
  have hc : ∀ j u, c[j]? = some u → w.cell? (ad.add (i.toNat * 1 + j)) = some u := hc0
  obtain ⟨A0, c0, rfl, l0, g0⟩ := hK
  exact ⟨ad, A0, c0, e, by have hq := hc 0 _ rfl; rwa [Nat.mul_one, Nat.add_zero] at hq, l0, g0⟩

-- short names for long ones, in the printed texts
theorem sd_ {p : Prop} (h : p) : Aside0 p := ⟨h⟩
theorem wb_ : ∀ (w : World) (a : Addr) {u : Value}, w.cell? a = some u → a.block < w.heap.size := @World.block_lt_of_cell?
theorem pd_ : ∀ {B : Nat} {w W : World}, Below B w W → ∀ (n : Nat), Below B w (W.drewN n) := @pw_below_drewN
theorem d1_ : ∀ {base : Nat} {w W : World}, Below base w W → Below base w W.drew := @below_drew1
theorem ba_ : ∀ {w W : World}, Below w.heap.size w W → ∀ (o : Obj), Below w.heap.size w (W.alloc o) := @below_alloc
theorem bs_ : ∀ {w W : World} {g j : Nat} {v : Value}, Below w.heap.size w W → w.heap.size ≤ g → Below w.heap.size w (W.setCell ⟨g, j, none⟩ v) := @below_set
theorem ka_ : ∀ {w : World} {g : Nat} {o : Obj}, w.heap[g]? = some o → ∀ (o' : Obj), (w.alloc o').heap[g]? = some o := @blk_alloc
theorem kn_ : ∀ {w : World} {g : Nat} {o : Obj}, w.heap[g]? = some o → ∀ (n : Nat), (w.drewN n).heap[g]? = some o := @blk_drewN
theorem kd_ : ∀ {w : World} {g : Nat} {o : Obj}, w.heap[g]? = some o → w.drew.heap[g]? = some o := @blk_drew
theorem kf_ : ∀ {w : World} {g : Nat} {t : TypeId} {cs : Array Value}, w.heap[g]? = some (.cells cs t (0, 0)) → ∀ (i : Nat), w.frozen? ⟨g, i, none⟩ = false := @blk_frozen
theorem kc_ : ∀ {w : World} {g : Nat} {t : TypeId} {cs : Array Value}, w.heap[g]? = some (.cells cs t (0, 0)) → ∀ (i : Nat), w.cell? ⟨g, i, none⟩ = cs[i]? := @blk_cell
theorem nn_ : ∀ {a b : Nat}, a < b → a ≠ b := @Nat.ne_of_lt
theorem ls_ : ∀ {α : Type} (l : List α) (i : Nat) (a : α), l.toArray.setIfInBounds i a = (l.set i a).toArray := @List.setIfInBounds_toArray
theorem lz_ : ∀ {α : Type} {x : α} {xs : List α} {a : α}, (x :: xs).set 0 a = a :: xs := @List.set_cons_zero
theorem lc_ : ∀ {α : Type} {x : α} {xs : List α} {i : Nat} {a : α}, (x :: xs).set (i + 1) a = x :: xs.set i a := @List.set_cons_succ
theorem dt_ : ∀ {p : Prop} [inst : Decidable p], p → decide p = true := @decide_eq_true
theorem df_ : ∀ {p : Prop} [inst : Decidable p], ¬p → decide p = false := @decide_eq_false
theorem od_ : ∀ {p : Prop} [inst : Decidable p], decide p = true → p := @of_decide_eq_true
theorem bz_ : ∀ {w W : World}, Below w.heap.size w W → w.heap.size ≤ W.heap.size := @below_size
theorem bt_ : ∀ {w W w2 : World}, Below w.heap.size w W → Below W.heap.size W w2 → Below w.heap.size w w2 := @below_step
theorem ld_ : ∀ {α : Type} {i : Nat} {l : List α}, (List.drop i l).length = l.length - i := @List.length_drop
theorem lt_ : ∀ {α : Type} {i : Nat} {l : List α}, (List.take i l).length = min i l.length := @List.length_take
theorem lm_ : ∀ {α β : Type} {f : α → β} {l : List α}, Array.map f l.toArray = (List.map f l).toArray := @List.map_toArray
theorem lq_ : ∀ {α β : Type} {f : α → β} {a : α} {l : List α}, List.map f (a :: l) = f a :: List.map f l := @List.map_cons
theorem lx_ : ∀ {α β : Type} {f : α → β}, List.map f [] = [] := @List.map_nil
theorem ob_ : ∀ {α β : Type} {x : Option α} {f : α → Option β} {b : β} (_ : x.bind f = some b), ∃ a, x = some a ∧ f a = some b := fun h => Option.bind_eq_some_iff.mp h
theorem bf_ : ∀ {b : Bool} (_ : ¬ b = true), b = false := fun h => Bool.eq_false_iff.mpr h
-- shorter words for what printed texts say often: a block's fact, and what lies below, carried over draws and makings
structure Ltr (w W : World) : Prop where
  h : ∀ {g : Nat} {o : Obj}, w.heap[g]? = some o → W.heap[g]? = some o
instance ltr_a {w W : World} [c : Nonempty (Ltr w W)] {o : Obj} : Nonempty (Ltr w (W.alloc o)) := c.elim fun c => ⟨⟨fun h => blk_alloc (c.h h) _⟩⟩
instance ltr_n {w W : World} [c : Nonempty (Ltr w W)] {n : Nat} : Nonempty (Ltr w (W.drewN n)) := c.elim fun c => ⟨⟨fun h => blk_drewN (c.h h) _⟩⟩
instance ltr_d {w W : World} [c : Nonempty (Ltr w W)] : Nonempty (Ltr w W.drew) := c.elim fun c => ⟨⟨fun h => blk_drew (c.h h)⟩⟩
instance ltr_0 {w : World} : Nonempty (Ltr w w) := ⟨⟨fun h => h⟩⟩
theorem kk_ {w W : World} [c : Nonempty (Ltr w W)] {g : Nat} {o : Obj} (h : w.heap[g]? = some o) : W.heap[g]? = some o := c.elim fun c => c.h h
structure LtB (gs : List Nat) (w W : World) : Prop where
  h : ∀ {v : World}, Below v.heap.size v w → (∀ g ∈ gs, v.heap.size ≤ g) → Below v.heap.size v W
instance mb_s {g k : Nat} {gs : List Nat} [c : Nonempty (g ∈ gs)] : Nonempty (g ∈ k :: gs) := c.elim fun c => ⟨List.mem_cons_of_mem _ c⟩
instance mb_0 {g : Nat} {gs : List Nat} : Nonempty (g ∈ g :: gs) := ⟨List.mem_cons_self ..⟩
instance ltb_s {gs : List Nat} {w W : World} [c : Nonempty (LtB gs w W)] {g j : Nat} {x : Value} [m : Nonempty (g ∈ gs)] : Nonempty (LtB gs w (W.setCell ⟨g, j, none⟩ x)) := c.elim fun c => m.elim fun m => ⟨⟨fun h hg => below_set (c.h h hg) (hg _ m)⟩⟩
instance ltb_a {gs : List Nat} {w W : World} [c : Nonempty (LtB gs w W)] {o : Obj} : Nonempty (LtB gs w (W.alloc o)) := c.elim fun c => ⟨⟨fun h hg => below_alloc (c.h h hg) _⟩⟩
instance ltb_n {gs : List Nat} {w W : World} [c : Nonempty (LtB gs w W)] {n : Nat} : Nonempty (LtB gs w (W.drewN n)) := c.elim fun c => ⟨⟨fun h hg => pw_below_drewN (c.h h hg) _⟩⟩
instance ltb_d {gs : List Nat} {w W : World} [c : Nonempty (LtB gs w W)] : Nonempty (LtB gs w W.drew) := c.elim fun c => ⟨⟨fun h hg => below_drew1 (c.h h hg)⟩⟩
instance ltb_0 {gs : List Nat} {w : World} : Nonempty (LtB gs w w) := ⟨⟨fun h _ => h⟩⟩
theorem bb_ {gs : List Nat} {v w W : World} [c : Nonempty (LtB gs w W)] (h : Below v.heap.size v w) (hg : ∀ g ∈ gs, v.heap.size ≤ g) : Below v.heap.size v W := c.elim fun c => c.h h hg
theorem e0_ {B : Nat} : ∀ g ∈ ([] : List Nat), B ≤ g := fun _ h => nomatch h
theorem e_ {B k : Nat} {gs : List Nat} (h : Aside0 (B ≤ k)) (hg : ∀ g ∈ gs, B ≤ g) : ∀ g ∈ k :: gs, B ≤ g := fun g m => (List.mem_cons.1 m).elim (fun q => q ▸ h.out) (hg g)
theorem sy_ {a b : Nat} (h : Aside0 (a ≠ b)) : Aside0 (b ≠ a) := ⟨fun q => h.out q.symm⟩
theorem rdset_ {α : Type} {d : α} {l : List α} {i : Int} (h0 : 0 ≤ i) (h1 : i < l.length) (v : α) : rdOf d (l.set i.toNat v) i = v := by unfold rdOf; rw [List.getD_eq_getElem?_getD, List.getElem?_set_self (by omega)]; rfl
theorem kb_ {w W W2 : World} [c : Nonempty (Ltr w W)] {g : Nat} {o : Obj} (h : Aside0 (w.heap[g]? = some o)) (hb : Below W.heap.size W W2) : Aside0 (W2.heap[g]? = some o) := ⟨blk_below (kk_ h.out) hb⟩
theorem hb_ {gs : List Nat} {v w W W2 : World} [c : Nonempty (LtB gs w W)] (h : Aside0 (Below v.heap.size v w)) (hg : ∀ g ∈ gs, v.heap.size ≤ g) (hb : Below W.heap.size W W2) : Aside0 (Below v.heap.size v W2) := ⟨below_step (bb_ h.out hg) hb⟩
theorem gw_ {gs : List Nat} {v w W : World} {k : Nat} [c : Nonempty (LtB gs w W)] (h : Aside0 (Below v.heap.size v w)) (hg : ∀ g ∈ gs, v.heap.size ≤ g) (e : k = W.heap.size) : Aside0 (v.heap.size ≤ k) := ⟨e ▸ below_size (bb_ h.out hg)⟩
theorem nb_ {w W : World} {g k : Nat} {o : Obj} [c : Nonempty (Ltr w W)] (h : Aside0 (w.heap[g]? = some o)) (e : k = W.heap.size) : Aside0 (g ≠ k) := ⟨e ▸ Nat.ne_of_lt (blk_lt (kk_ h.out))⟩
/-- An array of n Bools, told by the bits of a number. -/
def bz (n m : Nat) : Array Bool := ((List.range n).map fun i => m.testBit i).toArray
section
variable {P : Program} {ops : Array Oper} {Q : Exit → Act → World → Prop} {md : Region.Mode} {S : World → Prop} {ds : List Nat} {T : Bool × List (List Nat × List Nat)}
theorem pu_ {oi : Oper} {v : Value} {fuel : Nat} {l : Array Bool} {a : Act} {w : World} (i n : Nat) (l' : Array Bool) (hi : ops[i]? = some oi) (hN : oi.dst = some n) (hT : Aside0 (rtab md ops = T)) (hc : anyT T l.toList l'.toList i = true)
    (hQ : ∀ c a w, Q (.panic c) (a.put oi.dst v) w → Q (.panic c) a w) (hw : Region.wanted oi (yielded ops a.tmps) = true) (hy : ∀ w, (execOp a.eval oi).run P w = .ok (.value v) w) {a' : Act} (ha : a.put (some n) v = a')
    (h : wpAnyLast P md ops Q S ds fuel l' a' w) : wpAnyLast P md ops Q S ds (fuel + 1) l a w := pure_ l' hi hN (any_of hT.out hc) hQ (Or.inl ⟨hw, hy⟩) ha h
theorem pz_ {oi : Oper} {fuel : Nat} {l : Array Bool} {a : Act} {w : World} (i n : Nat) (l' : Array Bool) (hi : ops[i]? = some oi) (hN : oi.dst = some n) (hT : Aside0 (rtab md ops = T)) (hc : anyT T l.toList l'.toList i = true)
    (hQ : ∀ c a w, Q (.panic c) (a.put oi.dst undef) w → Q (.panic c) a w) (hw : Region.wanted oi (yielded ops a.tmps) = false) {a' : Act} (ha : a.put (some n) undef = a')
    (h : wpAnyLast P md ops Q S ds fuel l' a' w) : wpAnyLast P md ops Q S ds (fuel + 1) l a w := pure_ l' hi hN (any_of hT.out hc) hQ (Or.inr ⟨hw, rfl⟩) ha h
theorem ta_ {B : List Nat} {oi : Oper} {v : Value} {fuel : Nat} {l : Array Bool} {a : Act} {w : World} (i n : Nat) (l' : Array Bool) (hi : ops[i]? = some oi) (hN : oi.dst = some n) (hT : Aside0 (rtab md ops = T)) (hB : Aside0 (waitsOk T.2 B = true)) (hc : takeW T B ds l.toList l'.toList i = true)
    (hQ : ∀ c a w, Q (.panic c) (a.put oi.dst v) w → Q (.panic c) a w) (hw : Region.wanted oi (yielded ops a.tmps) = true) (hy : ∀ w, S w → (execOp a.eval oi).run P w = .ok (.value v) w) (hS : S w) {a' : Act} (ha : a.put (some n) v = a')
    (h : wpAnyLast P md ops Q S ds fuel l' a' w) : wpAnyLast P md ops Q S ds (fuel + 1) l a w := take_ l' hi hN (take_ofW hT.out hB.out hc) hQ (Or.inl ⟨hw, hy⟩) hS ha h
theorem on_ {N : Option Tmp} {oi : Oper} {fuel : Nat} {l : Array Bool} {a : Act} {w : World} (i : Nat) (l' : Array Bool) (hi : ops[i]? = some oi) (hN : oi.dst = N) (hT : Aside0 (rtab md ops = T)) (hc : (readyT T.2 l.toList == [i] && l.toList.set i true == l'.toList) = true) (hd : i ∉ ds)
    (h : ∀ K : Act → World → Prop, Shut (∀ a' w', S w' → (S w' → wpAnyLast P md ops Q S ds fuel l' a' w') → K a' w') → if Region.wanted oi (yielded ops a.tmps) = true then Oper.wp P oi a w K Q else K (a.put N undef) w) :
    wpAnyLast P md ops Q S ds (fuel + 1) l a w := one_ l' hi hN (one_of hT.out hc) hd h
end
end Go.Proofs.Ytchmcljinkemaaa.P
