-- Written by a program of this session (wip/tools/xprint.py, over the kit's print): Lean checks it.
import Derived.Test.YtfnpnkhhmehidaaDoorProg
import Derived.Below
import Derived.Deep.Draws
import Derived.Deep.AppendLies
import Derived.Maps.AppendAt
import Derived.OwnWalk
import Derived.Laws.BytesArg
import Derived.Laws.MakeOwn
import Derived.Laws.OwnMore
import Derived.Deep.OwnRows
import Derived.Tactics
import Derived.Lib.ConvBytes
import Derived.Laws.Slices
import Derived.WalkKit
import Derived.KernelRfl
import Derived.RowKit3
import Derived.Deep.LoopGhost
import Derived.Deep.QuietTactic
import Derived.BigQuiet
import Derived.WideLaws
import Derived.Deep.DeepCutAuto
import Derived.Deep.CutBlock
import Derived.Deep.RegionHeld3
import Derived.Laws.Rows
import Derived.Lib.AppendStr
import Derived.ArgAppend
import Derived.Laws.IdiomCopy
import Derived.OrdersHeld
import Derived.Laws.BitsLemmas
import Derived.RowKit
import Derived.Test.YtfnpnkhhmehidaaDoorShelf
import Derived.LaidEql
import Derived.Stop.Asserts
import Derived.RowKitTokens
import Derived.Lib.ItoaNum
import Derived.Test.YtfnpnkhhmehidaaDoorMl
import Derived.Test.YtfnpnkhhmehidaaDoorWWords
import Derived.Test.YtfnpnkhhmehidaaDoorWLast
import Derived.Test.YtfnpnkhhmehidaaDoorWTab
import Derived.Test.YtfnpnkhhmehidaaDoorWApart
import Derived.Test.YtfnpnkhhmehidaaDoorWEqStruct
import Derived.Test.YtfnpnkhhmehidaaDoorWRepsOne
import Derived.Test.YtfnpnkhhmehidaaDoorWGuard
namespace Go.Proofs.YtfnpnkhhmehidaaDoor.P
open Go.RowKit Go.Proofs.YtfnpnkhhmehidaaDoorW.PrintWords Go.Proofs.YtfnpnkhhmehidaaDoorW.PrintLast Go.Proofs.YtfnpnkhhmehidaaDoorW.PrintMore
attribute [local go_sem] max2_int min2_int max_two min_two max_three min_three max_four min_four   -- for this text's walks alone
set_option linter.unusedVariables false
set_option linter.unusedSimpArgs false



def errW : Option Int → Value
  | none => .nilIface
  | some c => .iface 0 (.int .i64 c)
theorem errW_none : errW none = .nilIface := rfl
theorem errW_some (c : Int) : errW (some c) = .iface 0 (.int .i64 c) := rfl

-- the values' own types
def rd_L1 (xs : List (List Int)) (i : Int) : (List Int) := xs.getD i.toNat ([] : List Int)
theorem at_L1 {w : World} {A : Option Addr} {n : Nat} {xs : List (List Int)} (h : Kd.C (Kd.slice 3 (Kd.int .i64)) w A n xs) (i : Int) (h0 : 0 ≤ i) (h1 : i < n) : ∃ ad A0 c0, A = some ad ∧ w.cell? (ad.add i.toNat) = some (.slice A0 (rd_L1 xs i).length c0) ∧ (rd_L1 xs i).length ≤ c0 ∧ (Kd.int .i64).C w A0 (rd_L1 xs i).length (rd_L1 xs i) := by
  obtain ⟨ad, c, e, _, hK, hc0⟩ := Kd.C_get h ([] : List Int) i h0 h1
  have hc : ∀ j u, c[j]? = some u → w.cell? (ad.add (i.toNat * 1 + j)) = some u := hc0
  obtain ⟨A0, c0, rfl, l0, g0⟩ := hK
  exact ⟨ad, A0, c0, e, by have hq := hc 0 _ rfl; rwa [Nat.mul_one, Nat.add_zero] at hq, l0, g0⟩

-- short names for long ones, in the printed texts
theorem sd_ {p : Prop} (h : p) : Aside0 p := ⟨h⟩
theorem pd_ : ∀ {B : Nat} {w W : World}, Below B w W → ∀ (n : Nat), Below B w (W.drewN n) := @pw_below_drewN
theorem d1_ : ∀ {base : Nat} {w W : World}, Below base w W → Below base w W.drew := @below_drew1
theorem ba_ : ∀ {w W : World}, Below w.heap.size w W → ∀ (o : Obj), Below w.heap.size w (W.alloc o) := @below_alloc
theorem dt_ : ∀ {p : Prop} [inst : Decidable p], p → decide p = true := @decide_eq_true
theorem df_ : ∀ {p : Prop} [inst : Decidable p], ¬p → decide p = false := @decide_eq_false
theorem od_ : ∀ {p : Prop} [inst : Decidable p], decide p = true → p := @of_decide_eq_true
theorem bt_ : ∀ {w W w2 : World}, Below w.heap.size w W → Below W.heap.size W w2 → Below w.heap.size w w2 := @below_step
theorem ld_ : ∀ {α : Type} {i : Nat} {l : List α}, (List.drop i l).length = l.length - i := @List.length_drop
theorem lt_ : ∀ {α : Type} {i : Nat} {l : List α}, (List.take i l).length = min i l.length := @List.length_take
theorem lm_ : ∀ {α β : Type} {f : α → β} {l : List α}, Array.map f l.toArray = (List.map f l).toArray := @List.map_toArray
theorem lq_ : ∀ {α β : Type} {f : α → β} {a : α} {l : List α}, List.map f (a :: l) = f a :: List.map f l := @List.map_cons
theorem lx_ : ∀ {α β : Type} {f : α → β}, List.map f [] = [] := @List.map_nil
theorem ob_ : ∀ {α β : Type} {x : Option α} {f : α → Option β} {b : β} (_ : x.bind f = some b), ∃ a, x = some a ∧ f a = some b := fun h => Option.bind_eq_some_iff.mp h
theorem bf_ : ∀ {b : Bool} (_ : ¬ b = true), b = false := fun h => Bool.eq_false_iff.mpr h
end Go.Proofs.YtfnpnkhhmehidaaDoor.P
