-- Written by a program of this session (wip/tools/xprint.py, over the kit's print): Lean checks it.
import Derived.Test.YtochpedmjpidkaaPx0
import Derived.Test.YtochpedmjpidkaaPx1
namespace Go.Proofs.Ytochpedmjpidkaa.P
open Go.RowKit Go.Proofs.YtochpedmjpidkaaW.PrintWords Go.Proofs.YtochpedmjpidkaaW.PrintLast Go.Proofs.YtochpedmjpidkaaW.PrintMore
attribute [local go_sem] max2_int min2_int max_two min_two max_three min_three max_four min_four   -- for this text's walks alone
set_option linter.unusedVariables false
set_option linter.unusedSimpArgs false

/-! ### dots_Dots: function 7 -/
section
open Go.Maps Go.ChangeMaps Go.MapKept Go.Sort
variable {P : Program}
/-- A map that the call made, whose keys are ints: its entries, as they came. -/
def ML (w : World) (b : Nat) (L : List (Int × Value)) : Prop := ∃ es ck, w.heap[b]? = some (.map es ck) ∧ es.toList.map (fun x => (x.key, x.val)) = L.map (fun p => (Value.int .i64 p.1, p.2)) ∧ ∀ p ∈ L, (Lit.int .i64 p.1).wf = true
theorem ML.mem {es : Array MapEntry} {L : List (Int × Value)} (h : es.toList.map (fun x => (x.key, x.val)) = L.map (fun p => (Value.int .i64 p.1, p.2))) {x : MapEntry} (hx : x ∈ es.toList) : ∃ p ∈ L, x.key = .int .i64 p.1 ∧ x.val = p.2 := by
 have : (x.key, x.val) ∈ L.map (fun p => (Value.int .i64 p.1, p.2)) := by rw [← h]; exact List.mem_map.2 ⟨x, hx, rfl⟩
 obtain ⟨p, hp, e⟩ := List.mem_map.1 this
 simp only [Prod.mk.injEq] at e
 exact ⟨p, hp, e.1.symm, e.2.symm⟩
theorem ML.mem' {es : Array MapEntry} {L : List (Int × Value)} (h : es.toList.map (fun x => (x.key, x.val)) = L.map (fun p => (Value.int .i64 p.1, p.2))) {p : Int × Value} (hp : p ∈ L) : ∃ x ∈ es.toList, x.key = .int .i64 p.1 := by
 have : (Value.int .i64 p.1, p.2) ∈ es.toList.map (fun x => (x.key, x.val)) := by rw [h]; exact List.mem_map.2 ⟨p, hp, rfl⟩
 obtain ⟨x, hx, e⟩ := List.mem_map.1 this
 simp only [Prod.mk.injEq] at e
 exact ⟨x, hx, e.1⟩
theorem ML.look {w : World} {b : Nat} {L : List (Int × Value)} {t k e : TypeId} (h : ML w b L) (K : Keyed P k) (hk : P.underlying k = some (.int .i64)) (ht : P.underlying t = some (.map k e)) {z : Value} (hz : (zeroValue e).run P w = .ok z w) {a : Int} (ha : (Lit.int .i64 a).wf = true) :
  ((Instr.lookup t (.map (some b)) (.int .i64 a) false).run P w = .ok z w ∧ ∀ p ∈ L, p.1 ≠ a) ∨ ∃ p ∈ L, p.1 = a ∧ (Instr.lookup t (.map (some b)) (.int .i64 a) false).run P w = .ok p.2 w := by
 obtain ⟨es, ck, hb, he, hw⟩ := h
 have hkey := keyOf_int_mk (P := P) hk ha
 rcases K.find w hkey es.toList (fun x hx => by
  obtain ⟨p, hp, e1, _⟩ := ML.mem he hx
  rw [e1]
  exact ⟨_, keyOf_int_mk hk (hw p hp)⟩) with ⟨h1, h2⟩ | ⟨j, e0, h1, h2, h3⟩
 ·refine .inl ⟨by simp [Instr.lookup, run_underlying ht, MapKept.run_getObj_map hb, K.check w _ hkey, h1, hz, Result.andThen], fun p hp q => ?_⟩
  obtain ⟨x, hx, e1⟩ := ML.mem' he hp
  exact h2 x hx (by rw [e1, q])
 ·obtain ⟨p, hp, e1, e2⟩ := ML.mem he (List.mem_of_getElem? h2)
  refine .inr ⟨p, hp, ?_, ?_⟩
  ·rw [e1] at h3
   injection h3
  ·rw [← e2]
   simp [Instr.lookup, run_underlying ht, MapKept.run_getObj_map hb, K.check w _ hkey, h1, Result.andThen]
theorem ML.store {w : World} {b : Nat} {L : List (Int × Value)} {t k e : TypeId} (h : ML w b L) (K : Keyed P k) (hk : P.underlying k = some (.int .i64)) (ht : P.underlying t = some (.map k e)) {a : Int} (ha : (Lit.int .i64 a).wf = true) (hn : ∀ p ∈ L, p.1 ≠ a) (v : Value) :
  ∃ es ck, (Instr.mapUpdate t (.map (some b)) (.int .i64 a) v).run P w = .ok () (setBlock w b (.map es ck)) ∧ ML (setBlock w b (.map es ck)) b (L ++ [(a, v)]) := by
 obtain ⟨es, ck, hb, he, hw⟩ := h
 have hkey := keyOf_int_mk (P := P) hk ha
 rcases K.find w hkey es.toList (fun x hx => by
  obtain ⟨p, hp, e1, _⟩ := ML.mem he hx
  rw [e1]
  exact ⟨_, keyOf_int_mk hk (hw p hp)⟩) with ⟨h1, h2⟩ | ⟨j, e0, h1, h2, h3⟩
 ·refine ⟨es.push ⟨.int .i64 a, v, ck⟩, ck + 1, ?_, _, _, heap_setBlock_same hb _, ?_, ?_⟩
  ·simp [Instr.mapUpdate, run_underlying ht, MapKept.run_getObj_map hb, K.check w false hkey, h1, MapKept.run_setObj_map _ hb, Result.andThen, setBlock]
  ·simp [he]
  ·intro p hp
   rcases List.mem_append.1 hp with q | q
   ·exact hw p q
   ·rw [List.mem_singleton] at q
    subst q
    exact ha
 ·obtain ⟨p, hp, e1, e2⟩ := ML.mem he (List.mem_of_getElem? h2)
  rw [e1] at h3
  injection h3 with _ h4
  exact absurd h4 (hn p hp)
theorem ML.clear {w : World} {b : Nat} {L : List (Int × Value)} {t k e : TypeId} (h : ML w b L) (ht : P.underlying t = some (.map k e)) (ty : TypeId) : ∃ es ck, (Builtin.clear_ #[t] ty #[.map (some b)]).run P w = .ok (.tuple #[]) (setBlock w b (.map es ck)) ∧ ∃ es' ck', w.heap[b]? = some (.map es' ck') := by
 obtain ⟨es, ck, hb, _, _⟩ := h
 exact ⟨#[], ck, by simp [Builtin.clear_, run_underlying ht, MapKept.run_getObj_map hb, MapKept.run_setObj_map _ hb, Result.andThen, setBlock], es, ck, hb⟩
theorem ML.lt {w : World} {b : Nat} {L : List (Int × Value)} (h : ML w b L) : b < w.heap.size := by
 obtain ⟨es, ck, hb, _, _⟩ := h
 exact (Array.getElem?_eq_some_iff.1 hb).1
theorem ML.of {w w' : World} {b : Nat} {L : List (Int × Value)} (h : ML w b L) (hb : w'.heap[b]? = w.heap[b]?) : ML w' b L := by
 obtain ⟨es, ck, h1, h2⟩ := h
 exact ⟨es, ck, hb.trans h1, h2⟩
theorem ML.new (w : World) : ML (w.alloc (.map #[] 0)) w.heap.size [] := ⟨#[], 0, blk_new w _, rfl, fun _ h => nomatch h⟩
theorem sb_other {w : World} {b i : Nat} {o : Obj} (h : b ≠ i) : (setBlock w b o).heap[i]? = w.heap[i]? := by
 simp [setBlock, Array.getElem?_setIfInBounds_ne h]
theorem sb_size (w : World) (b : Nat) (o : Obj) : (setBlock w b o).heap.size = w.heap.size := by simp [setBlock]
theorem sb_below {w v : World} {b : Nat} {o : Obj} (h : Below w.heap.size w v) (hb : w.heap.size ≤ b) : Below w.heap.size w (setBlock v b o) :=
 ⟨h.os, h.tape, h.output, by rw [sb_size]; exact h.size, fun i hi => by rw [sb_other (by omega)]; exact h.block i hi⟩
/-- Two steps down as long as a place is taken. -/
def seek_l : Nat → List Int → Int → Option Int
 | 0, _, _ => none
 | k + 1, T, x => if x ∈ T then seek_l k T (wrap64 (x - 2)) else some x
def seek_0 (T : List Int) (p : Int) : Int := if Int.tmod p 2 = 0 then (if wrap64 (p + 1) ∈ T then wrap64 (p - 1) else wrap64 (p + 1)) else p
def seek_f (k : Nat) (T : List Int) (p : Int) : Option Int := seek_l k T (seek_0 T p)
theorem seek_l.mono : ∀ k T x, LeO (seek_l k T x) (seek_l (k + 1) T x)
 | 0, _, _ => fun r h => by simp [seek_l] at h
 | k + 1, T, x => by
  rw [seek_l, seek_l]
  exact LeO.ite (seek_l.mono k T _) (LeO.refl _)
def tk (T : List Int) : List (Int × Value) := T.reverse.map (fun a => (a, Value.bool true))
theorem tk_mem {T : List Int} {p : Int × Value} (h : p ∈ tk T) : p.1 ∈ T ∧ p.2 = .bool true := by
 obtain ⟨a, ha, rfl⟩ := List.mem_map.1 h
 exact ⟨List.mem_reverse.1 ha, rfl⟩
theorem tk_of {T : List Int} {a : Int} (h : a ∈ T) : (a, Value.bool true) ∈ tk T := List.mem_map.2 ⟨a, List.mem_reverse.2 h, rfl⟩
theorem seek_key : Go.Maps.Keyed Try.prog 3 := Go.Maps.int_keyed Try.underlying3
theorem zero_bool (w : World) : (zeroValue 4).run Try.prog w = .ok (.bool false) w := by first | exact run_zeroValue (by kernel_rfl) | (simp [zeroValue]; done) | kernel_rfl
theorem zero_int (w : World) : (zeroValue 3).run Try.prog w = .ok (.int .i64 0) w := by first | exact run_zeroValue (by kernel_rfl) | (simp [zeroValue]; done) | kernel_rfl
theorem seek_look {w : World} {b : Nat} {T : List Int} (h : ML w b (tk T)) {a : Int} (ha : (Lit.int .i64 a).wf = true) : (Instr.lookup 42 (.map (some b)) (.int .i64 a) false).run Try.prog w = .ok (.bool (decide (a ∈ T))) w := by
 rcases h.look seek_key Try.underlying3 Try.underlying42 (zero_bool w) ha with ⟨h1, h2⟩ | ⟨p, hp, e, h1⟩
 ·rw [h1, df_ (fun q => h2 _ (tk_of q) rfl)]
 ·obtain ⟨q1, q2⟩ := tk_mem hp
  rw [h1, q2, dt_ (e ▸ q1)]
theorem wf_of {a : Int} (h1 : -9223372036854775808 ≤ a) (h2 : a ≤ 9223372036854775807) : (Lit.int .i64 a).wf = true := by
 simp [Lit.wf, IntKind.min, IntKind.max, IntKind.signed, IntKind.bits]
 omega
theorem wf_wrap (x : Int) : (Lit.int .i64 (wrap64 x)).wf = true := by
 have : -9223372036854775808 ≤ wrap64 x ∧ wrap64 x ≤ 9223372036854775807 := by unfold wrap64; omega
 exact wf_of this.1 this.2
set_option maxHeartbeats 2000000 in
set_option maxRecDepth 100000 in
theorem seek.calls (k : Nat) (gs bt : Nat) (T : List Int) (p r : Int) (w : World) (hs : w.heap[gs]? = some (.cells #[.map (some bt)] 44 (0, 0))) (hm : ML w bt (tk T)) (hp : (Lit.int .i64 p).wf = true) (h : seek_f k T p = some r) :
  Calls Try.prog 20 #[.pointer (some ⟨gs, 0, none⟩), .int .i64 p] w fun e w' => e = .returned (.int .i64 r) ∧ ∃ o, w' = setBlock w bt o ∧ ML w' bt (tk (r :: T)) := by
 have HS := sd_ hs
 have HM := sd_ hm
 have H := sd_ h
 have c0 : w.cell? ⟨gs, 0, none⟩ = some (.map (some bt)) := (kc_ hs 0).trans rfl
 have hl1 := seek_look hm (wf_wrap (p + 1))
 have HW : Aside0 ((Lit.int .i64 (seek_0 T p)).wf = true) := ⟨by
  unfold seek_0
  split
  ·split <;> exact wf_wrap _
  ·exact hp⟩
 have E0 := sd_ (show seek_0 T p = if Int.tmod p 2 = 0 then (if wrap64 (p + 1) ∈ T then wrap64 (p - 1) else wrap64 (p + 1)) else p from rfl)
 clear hs hm h hp
 unfold seek_f at H
 generalize seek_0 T p = q at *
 go_enter Try.func20, Try.ntmps20
 go_upto_if 9 with (fail)
 go_cut [5] (fun v5 wc => v5 = .int .i64 q ∧ wc = w)
 case first =>
  go_wp2
  all_goals go_meet
  all_goals
   refine ⟨?_, rfl⟩
   rw [E0.out]
   first
   | (rw [if_pos (by first | assumption | (exact eq_of_beq (by assumption))), if_pos (by assumption)])
   | (rw [if_pos (by first | assumption | (exact eq_of_beq (by assumption))), if_neg (by assumption)])
   | (rw [if_neg (by first | assumption | (exact ne_of_beq_false (by assumption)))])
 case rest =>
  obtain ⟨rfl, rfl⟩ := hcut
  clear hl1 E0
  go_wp2
  go_loopg [5] k (fun kq v5 wr => ∃ x, v5 = .int .i64 x ∧ wr = wc ∧ Aside0 (seek_l kq T x = some r ∧ (Lit.int .i64 x).wf = true))
  case atStart => exact ⟨q, rfl, rfl, ⟨H.out, HW.out⟩⟩
  case round =>
   obtain ⟨x, rfl, rfl, hA⟩ := hrel
   cases gk with
   | zero => exact absurd hA.out.1 (by simp [seek_l])
   | succ k1 =>
    have hl := seek_look HM.out hA.out.2
    by_cases c : x ∈ T
    ·rw [dt_ c] at hl
     have hB : Aside0 (seek_l k1 T (wrap64 (x - 2)) = some r) := ⟨by have := hA.out.1; rw [seek_l, if_pos c] at this; exact this⟩
     go_wp2
     go_roundg k1
     case measure => omega
     case rel => exact ⟨_, rfl, rfl, ⟨hB.out, wf_wrap _⟩⟩
    ·rw [df_ c] at hl
     have hB : x = r := by have := hA.out.1; rw [seek_l, if_neg c] at this; exact Option.some.inj this
     subst hB
     obtain ⟨es, ck, hst, hml⟩ := HM.out.store seek_key Try.underlying3 Try.underlying42 hA.out.2 (fun q hq e => c (e ▸ (tk_mem hq).1)) (.bool true)
     have HF := sd_ hml
     clear hml
     go_wp2
     go_ret
     refine ⟨rfl, _, rfl, ?_⟩
     have := HF.out
     unfold tk at this ⊢
     simpa using this
/-- What is said of the places that are left. -/
def dots_l (k : Nat) : List Int → List Int → List (Int × Int) → Option (List (Int × Int))
 | [], _, G => some G
 | p :: r, T, G => (seek_f k T p).bind fun x => dots_l k r (x :: T) ((p, x) :: G)
def lk (G : List (Int × Int)) (a : Int) : Int := ((G.find? (fun p => p.1 == a)).map (·.2)).getD 0
/-- A row, sorted by putting in: it reckons well. -/
def ins (x : Int) : List Int → List Int
 | [] => [x]
 | y :: r => if x ≤ y then x :: y :: r else y :: ins x r
def isort (l : List Int) : List Int := l.foldr ins []
theorem ins_perm (x : Int) : ∀ l, (ins x l).Perm (x :: l)
 | [] => List.Perm.refl _
 | y :: r => by
  unfold ins
  split
  ·exact List.Perm.refl _
  ·exact ((ins_perm x r).cons y).trans (List.Perm.swap x y r)
theorem ins_rises (x : Int) : ∀ l : List Int, l.Pairwise (fun a b => a ≤ b) → (ins x l).Pairwise (fun a b => a ≤ b)
 | [], _ => List.pairwise_singleton _ _
 | y :: r, h => by
  obtain ⟨h1, h2⟩ := List.pairwise_cons.1 h
  unfold ins
  split
  ·rename_i c
   refine List.pairwise_cons.2 ⟨fun z hz => ?_, h⟩
   rcases List.mem_cons.1 hz with rfl | hz
   ·exact c
   ·exact Int.le_trans c (h1 z hz)
  ·rename_i c
   refine List.pairwise_cons.2 ⟨fun z hz => ?_, ins_rises x r h2⟩
   rcases List.mem_cons.1 ((ins_perm x r).mem_iff.1 hz) with rfl | hz
   ·omega
   ·exact h1 z hz
theorem isort_perm : ∀ l, (isort l).Perm l
 | [] => List.Perm.refl _
 | x :: r => (ins_perm x _).trans ((isort_perm r).cons x)
theorem isort_rises : ∀ l, (isort l).Pairwise (fun a b => a ≤ b)
 | [] => List.Pairwise.nil
 | x :: r => ins_rises x _ (isort_rises r)
theorem merge_isort (l : List Int) : (l.mergeSort fun x y => decide (x ≤ y)) = isort l := by
 have h1 := List.pairwise_mergeSort (le := fun x y : Int => decide (x ≤ y)) (fun a b c => by simp only [decide_eq_true_eq]; omega) (fun a b => by simp only [Bool.or_eq_true, decide_eq_true_eq]; omega) l
 exact List.Perm.eq_of_pairwise (le := fun a b : Int => a ≤ b) (fun a b _ _ p q => Int.le_antisymm p q) (h1.imp (fun h => by simpa using h)) (isort_rises l) ((List.mergeSort_perm l _).trans (isort_perm l).symm)
/-- The places, rising, each once. -/
def dots_order (l : List Int) : List Int := Go.Lib.compact (isort l)
def dots_Dots.f (k : Nat) (l0 : List Int) : Option (List Int × Int) := (dots_fits.f k l0).bind fun t => if t = true then ((dots_l k (dots_order l0).reverse [] []).bind fun G => some (l0.map (lk G), 0)) else some ([], 2)
theorem dots_l.mono (k : Nat) : ∀ (l T : List Int) (G : List (Int × Int)), LeO (dots_l k l T G) (dots_l (k + 1) l T G)
 | [], _, _ => LeO.refl _
 | p :: r, T, G => by
  unfold dots_l
  exact LeO.bind (seek_l.mono k T _) (fun _ => dots_l.mono k r _ _)
theorem dots_Dots.mono : ∀ l0 k, LeO (dots_Dots.f k l0) (dots_Dots.f (k + 1) l0) := by
 intro l0 k
 unfold dots_Dots.f
 exact LeO.bind (dots_fits.mono l0 k) (fun _ => LeO.ite (LeO.bind (dots_l.mono k _ _ _) (fun _ => LeO.refl _)) (LeO.refl _))
def dgk (G : List (Int × Int)) : List (Int × Value) := G.reverse.map (fun p => (p.1, Value.int .i64 p.2))
theorem dgk_mem {G : List (Int × Int)} {p : Int × Value} (h : p ∈ dgk G) : ∃ q ∈ G, p.1 = q.1 ∧ p.2 = .int .i64 q.2 := by
 obtain ⟨a, ha, rfl⟩ := List.mem_map.1 h
 exact ⟨a, List.mem_reverse.1 ha, rfl, rfl⟩
theorem dgk_of {G : List (Int × Int)} {q : Int × Int} (h : q ∈ G) : (q.1, Value.int .i64 q.2) ∈ dgk G := List.mem_map.2 ⟨q, List.mem_reverse.2 h, rfl⟩
theorem lk_mem {G : List (Int × Int)} (hp : G.Pairwise (fun p q => p.1 ≠ q.1)) {q : Int × Int} (h : q ∈ G) : lk G q.1 = q.2 := by
 induction G with
 | nil => cases h
 | cons x r ih =>
  obtain ⟨h1, h2⟩ := List.pairwise_cons.1 hp
  unfold lk
  rw [List.find?_cons]
  rcases List.mem_cons.1 h with rfl | hr
  ·simp
  ·have : (x.1 == q.1) = false := beq_eq_false_iff_ne.2 (h1 q hr)
   rw [this]
   exact ih h2 hr
theorem lk_none {G : List (Int × Int)} {a : Int} (h : ∀ q ∈ G, q.1 ≠ a) : lk G a = 0 := by
 have : G.find? (fun p => p.1 == a) = none := List.find?_eq_none.2 (fun q hq => by simpa using h q hq)
 unfold lk
 rw [this]; rfl
theorem by_look {w : World} {b : Nat} {G : List (Int × Int)} (h : ML w b (dgk G)) (hp : G.Pairwise (fun p q => p.1 ≠ q.1)) {a : Int} (ha : (Lit.int .i64 a).wf = true) : (Instr.lookup 45 (.map (some b)) (.int .i64 a) false).run Try.prog w = .ok (.int .i64 (lk G a)) w := by
 rcases h.look seek_key Try.underlying3 Try.underlying45 (zero_int w) ha with ⟨h1, h2⟩ | ⟨p, hp1, e, h1⟩
 ·rw [h1, lk_none (fun q hq e => h2 _ (dgk_of hq) e)]
 ·obtain ⟨q, hq, q1, q2⟩ := dgk_mem hp1
  rw [h1, q2, ← e, q1, lk_mem hp hq]
/-- How all lies in the loops. -/
structure DW (w : World) (gs bt bb go : Nat) (cur : Array Value) (T : List Int) (G : List (Int × Int)) (W : World) : Prop where
 zs : w.heap.size ≤ gs
 zt : w.heap.size ≤ bt
 zb : w.heap.size ≤ bb
 zo : w.heap.size ≤ go
 n1 : bt ≠ bb
 n2 : bt ≠ gs
 n3 : bb ≠ gs
 n4 : bt ≠ go
 n5 : bb ≠ go
 hs : W.heap[gs]? = some (.cells #[.map (some bt)] 44 (0, 0))
 ht : ML W bt (tk T)
 hb : ML W bb (dgk G)
 ho : W.heap[go]? = some (.cells cur 3 (0, 0))
 hB : Below w.heap.size w W
theorem DW.st {w : World} {gs bt bb go : Nat} {cur : Array Value} {T T' : List Int} {G : List (Int × Int)} {W : World} (h : DW w gs bt bb go cur T G W) {o : Obj} (hm : ML (setBlock W bt o) bt (tk T')) : DW w gs bt bb go cur T' G (setBlock W bt o) :=
 ⟨h.zs, h.zt, h.zb, h.zo, h.n1, h.n2, h.n3, h.n4, h.n5, (sb_other h.n2).trans h.hs, hm, h.hb.of (sb_other h.n1), (sb_other h.n4).trans h.ho, sb_below h.hB h.zt⟩
theorem DW.sb {w : World} {gs bt bb go : Nat} {cur : Array Value} {T : List Int} {G G' : List (Int × Int)} {W : World} (h : DW w gs bt bb go cur T G W) {o : Obj} (hm : ML (setBlock W bb o) bb (dgk G')) : DW w gs bt bb go cur T G' (setBlock W bb o) :=
 ⟨h.zs, h.zt, h.zb, h.zo, h.n1, h.n2, h.n3, h.n4, h.n5, (sb_other h.n3).trans h.hs, h.ht.of (sb_other (Ne.symm h.n1)), hm, (sb_other h.n5).trans h.ho, sb_below h.hB h.zb⟩
theorem DW.made {w : World} {gs bt bb go : Nat} {cur : Array Value} {T : List Int} {G : List (Int × Int)} {W : World} (h : DW w gs bt bb go cur T G W) (o : Obj) : DW w gs bt bb go cur T G (W.alloc o) :=
 ⟨h.zs, h.zt, h.zb, h.zo, h.n1, h.n2, h.n3, h.n4, h.n5, ka_ h.hs _, h.ht.of (Below.heap_alloc W o _ h.ht.lt), h.hb.of (Below.heap_alloc W o _ h.hb.lt), ka_ h.ho _, ba_ h.hB _⟩
theorem DW.cell {w : World} {gs bt bb go : Nat} {cur : Array Value} {T : List Int} {G : List (Int × Int)} {W : World} (h : DW w gs bt bb go cur T G W) {g j : Nat} {v : Value} (h0 : w.heap.size ≤ g) (h1 : g ≠ gs) (h2 : g ≠ bt) (h3 : g ≠ bb) (h4 : g ≠ go) : DW w gs bt bb go cur T G (W.setCell ⟨g, j, none⟩ v) :=
 ⟨h.zs, h.zt, h.zb, h.zo, h.n1, h.n2, h.n3, h.n4, h.n5, blk_far h.hs (p := ⟨g, j, none⟩) (Ne.symm h1) v, h.ht.of (Below.heap_setCell W ⟨g, j, none⟩ v _ (Ne.symm h2)), h.hb.of (Below.heap_setCell W ⟨g, j, none⟩ v _ (Ne.symm h3)), blk_far h.ho (p := ⟨g, j, none⟩) (Ne.symm h4) v, bs_ h.hB h0⟩
theorem cell_plain {w : World} {ad : Addr} {v : Value} (h : w.cell? ad = some v) : ∃ b o, ad = ⟨b, o, none⟩ := by
 obtain ⟨b, o, s⟩ := ad
 unfold World.cell? at h
 split at h
 ·split at h
  ·cases h
  ·rename_i hs
   cases s with
   | none => exact ⟨b, o, rfl⟩
   | some x => simp at hs
 ·cases h
/-- The cells of an argument. -/
theorem arg_cells {w : World} {A0 : Option Addr} {l0 : List Int} (h : Kd.C (Kd.int .i64) w A0 l0.length l0) (hp : 0 < l0.length) : ∃ b o, A0 = some ⟨b, o, none⟩ ∧ ∀ j, j < l0.length → w.cell? ⟨b, o + j, none⟩ = some (.int .i64 (l0.getD j 0)) := by
 obtain ⟨ad, e, hc⟩ := Kd.at_int h (0 : Int) (by omega) (by omega)
 obtain ⟨b, o, rfl⟩ : ∃ b o, ad = ⟨b, o, none⟩ := by
  rw [show ((0 : Int)).toNat = 0 from rfl, Addr.add_zero'] at hc
  exact cell_plain hc
 refine ⟨b, o, e, fun j hj => ?_⟩
 obtain ⟨ad2, e2, hc2⟩ := Kd.at_int h (j : Int) (by omega) (by omega)
 rw [e] at e2
 cases e2
 have q := hc2
 rw [Int.toNat_natCast, show (Addr.add ⟨b, o, none⟩ j) = ⟨b, o + j, none⟩ by simp [Addr.add]] at q
 rw [q]
 unfold Go.Proofs.YtochpedmjpidkaaW.PrintWords.rd
 rw [Int.toNat_natCast]
theorem sort_below {w W W' : World} {g : Nat} (h : Below w.heap.size w W) (hg : W.grownBy W' (some g)) (hb : w.heap.size ≤ g) : Below w.heap.size w W' :=
 ⟨hg.os.trans h.os, hg.tape.trans h.tape, hg.output.trans h.output, Nat.le_trans h.size hg.size, fun i hi => (hg.block i (Nat.lt_of_lt_of_le hi h.size) (by intro q; injection q with q; omega)).trans (h.block i hi)⟩
theorem fits_len {k : Nat} {l : List Int} (h : dots_fits.f k l = some true) : 1 ≤ l.length ∧ l.length ≤ 16 := by
 unfold dots_fits.f at h
 by_cases c1 : (l.length : Int) ≥ 1
 ·by_cases c2 : (l.length : Int) ≤ 16
  ·omega
  ·rw [if_pos c1, if_neg c2] at h; simp at h
 ·rw [if_neg c1] at h; simp at h
theorem min_l0 : ∀ (d k : Nat) (l : List Int) (m i r : Int), 0 ≤ i → i ≤ l.length → l.length ≤ 16 → l.length - i.toNat = d → slices_Min_int_int.l0 k l m i = some r → r ≤ m ∧ ∀ j : Nat, i ≤ j → j < l.length → r ≤ l.getD j 0
 | d, 0, l, m, i, r => fun _ _ _ _ h => by simp [slices_Min_int_int.l0] at h
 | d, k + 1, l, m, i, r => fun h0 h1 h2 hd h => by
  rw [slices_Min_int_int.l0] at h
  by_cases c : i < (l.length : Int)
  ·rw [if_pos c, if_pos h0, show wrap64 (i + 1) = i + 1 by unfold wrap64; omega] at h
   obtain ⟨d, rfl⟩ : ∃ q, d = q + 1 := ⟨d - 1, by omega⟩
   obtain ⟨q1, q2⟩ := min_l0 d k l _ (i + 1) r (by omega) (by omega) h2 (by omega) h
   have hm : mn m (Go.Proofs.YtochpedmjpidkaaW.PrintWords.rd l i) ≤ m ∧ mn m (Go.Proofs.YtochpedmjpidkaaW.PrintWords.rd l i) ≤ Go.Proofs.YtochpedmjpidkaaW.PrintWords.rd l i := by unfold mn; split <;> omega
   refine ⟨by omega, fun j h3 h4 => ?_⟩
   by_cases e : i = j
   ·subst e
    have : Go.Proofs.YtochpedmjpidkaaW.PrintWords.rd l (j : Int) = l.getD j 0 := by unfold Go.Proofs.YtochpedmjpidkaaW.PrintWords.rd; rw [Int.toNat_natCast]
    omega
   ·exact q2 j (by omega) h4
  ·rw [if_neg c] at h
   obtain rfl := Option.some.inj h
   exact ⟨Int.le_refl _, fun j h3 h4 => by omega⟩
theorem max_ge (l : List Int) : ∀ a : Int, a ≤ l.foldl (fun a b => mx a b) a ∧ ∀ x ∈ l, x ≤ l.foldl (fun a b => mx a b) a := by
 induction l with
 | nil => exact fun a => ⟨Int.le_refl _, fun _ h => nomatch h⟩
 | cons y r ih =>
  intro a
  obtain ⟨h1, h2⟩ := ih (mx a y)
  have hm : a ≤ mx a y ∧ y ≤ mx a y := by unfold mx; split <;> omega
  simp only [List.foldl_cons]
  refine ⟨by omega, fun x hx => ?_⟩
  rcases List.mem_cons.1 hx with rfl | hx
  ·omega
  ·exact h2 x hx
theorem fits_bd {k : Nat} {l : List Int} (h : dots_fits.f k l = some true) : ∀ x ∈ l, -200 ≤ x ∧ x ≤ 200 := by
 have hl := fits_len h
 unfold dots_fits.f at h
 rw [if_pos (by omega), if_pos (by omega)] at h
 obtain ⟨a, ha, h⟩ := ob_ h
 by_cases c : a ≥ -200
 ·rw [if_pos c] at h
  obtain ⟨b, hb, h⟩ := ob_ h
  have hb2 : b ≤ 200 := od_ (Option.some.inj h)
  unfold slices_Min_int_int.f at ha
  rw [if_neg (by omega), if_pos (by omega)] at ha
  obtain ⟨q1, q2⟩ := min_l0 _ k l _ 1 a (by omega) (by omega) hl.2 rfl ha
  match l, hl, hb, q1, q2 with
  | x :: r, hl, hb, q1, q2 =>
   unfold slices_Max_int_int.f at hb
   have hb := Option.some.inj hb
   obtain ⟨p1, p2⟩ := max_ge r x
   intro y hy
   rcases List.mem_cons.1 hy with rfl | hy
   ·refine ⟨?_, by omega⟩
    have : Go.Proofs.YtochpedmjpidkaaW.PrintWords.rd (y :: r) 0 = y := rfl
    omega
   ·refine ⟨?_, by have := p2 y hy; omega⟩
    obtain ⟨j, hj, rfl⟩ := List.getElem_of_mem hy
    have := q2 (j + 1) (by omega) (by simpa using hj)
    rw [List.getD_eq_getElem?_getD, List.getElem?_cons_succ, List.getElem?_eq_getElem hj] at this
    simp at this
    omega
 ·rw [if_neg c] at h; simp at h
/-- A sorted row, each once: rising. -/
theorem compact_rises {s : List Int} (h : s.Pairwise (fun x y => x ≤ y)) : (Go.Lib.compact s).Pairwise (fun x y => x < y) := by
 have hg : ∀ i j : Nat, i ≤ j → j < s.length → s.toArray[i]! ≤ s.toArray[j]! := by
  intro i j hij hj
  rw [getElem!_pos s.toArray i (by simpa using by omega), getElem!_pos s.toArray j (by simpa using hj)]
  rcases Nat.lt_or_ge i j with c | c
  ·exact List.pairwise_iff_getElem.1 h i j (by omega) hj c
  ·obtain rfl : i = j := by omega
   exact Int.le_refl _
 unfold Go.Lib.compact Go.Lib.compactUpTo
 rw [List.pairwise_map]
 have hp : (List.range s.length).Pairwise (fun i j => i < j) := List.pairwise_lt_range
 have hf := hp.filter (Go.Lib.keeps s.toArray)
 refine hf.imp_of_mem ?_
 intro i j hi hj hij
 obtain ⟨hj1, hj2⟩ := List.mem_filter.1 hj
 have hjl : j < s.length := List.mem_range.1 hj1
 unfold Go.Lib.keeps at hj2
 have hk := od_ hj2
 have h1 := hg i (j - 1) (by omega) (by omega)
 have h2 := hg (j - 1) j (by omega) hjl
 have h3 : s.toArray[j]! ≠ s.toArray[j - 1]! := hk.resolve_left (by omega)
 have := Int.lt_iff_le_and_ne.2 ⟨h2, Ne.symm h3⟩
 omega
theorem order_rises (l : List Int) : (dots_order l).Pairwise (fun x y => x < y) := compact_rises (isort_rises l)
theorem order_mem {l : List Int} {x : Int} (h : x ∈ dots_order l) : x ∈ l := by
 unfold dots_order Go.Lib.compact Go.Lib.compactUpTo at h
 obtain ⟨i, hi, rfl⟩ := List.mem_map.1 h
 have hil := List.mem_range.1 (List.mem_filter.1 hi).1
 rw [getElem!_pos _ i (by simpa using hil)]
 exact (isort_perm l).mem_iff.1 (by rw [List.getElem_toArray]; exact List.getElem_mem hil)
/-- The row of what is told: the first i, then zeros. -/
def outN (G : List (Int × Int)) (l : List Int) (i : Nat) : List Int := (l.take i).map (lk G) ++ List.replicate (l.length - i) 0
theorem outN_succ {G : List (Int × Int)} {l : List Int} {i : Nat} (h : i < l.length) : (outN G l i).set i (lk G (l.getD i 0)) = outN G l (i + 1) := by
 unfold outN
 apply List.ext_getElem?
 intro j
 rw [List.getD_eq_getElem?_getD, List.getElem?_eq_getElem h, Option.getD_some]
 by_cases c : i = j
 ·subst c
  rw [List.getElem?_set_self (by simp; omega), List.getElem?_append_left (by simp; omega), List.getElem?_map, List.getElem?_take_of_lt (by omega), List.getElem?_eq_getElem h]
  rfl
 ·rw [List.getElem?_set_ne c]
  by_cases c2 : j < i
  ·rw [List.getElem?_append_left (by simp; omega), List.getElem?_append_left (by simp; omega), List.getElem?_map, List.getElem?_map, List.getElem?_take_of_lt c2, List.getElem?_take_of_lt (by omega)]
  ·rw [List.getElem?_append_right (by simp; omega), List.getElem?_append_right (by simp; omega), List.getElem?_replicate, List.getElem?_replicate]
   simp only [List.length_map, lt_]
   by_cases c3 : j < l.length
   ·rw [if_pos (by omega), if_pos (by omega)]
   ·rw [if_neg (by omega), if_neg (by omega)]
theorem outN_length {G : List (Int × Int)} {l : List Int} {i : Nat} (h : i ≤ l.length) : (outN G l i).length = l.length := by
 unfold outN
 simp
 omega
theorem outN_all (G : List (Int × Int)) (l : List Int) : outN G l l.length = l.map (lk G) := by unfold outN; simp
theorem nums_set' (k : IntKind) (l : List Int) (j : Nat) (v : Int) : (nums k l).toArray.setIfInBounds j (.int k v) = (nums k (l.set j v)).toArray := by
 simp [nums, List.map_set]
theorem made_nums' (m : Nat) : madeCells #[Value.int .i64 0] m = (nums .i64 (List.replicate m 0)).toArray := by
 apply Array.ext
 ·simp [nums, madeCells]
 ·intro i h1 h2
  simp [nums, madeCells, Nat.mod_one]
theorem R_of_blk' {w : World} {g base : Nat} {k : IntKind} {e : TypeId} {l : List Int} (h : w.heap[g]? = some (.cells (nums k l).toArray e (0, 0))) (hb : base ≤ g) (hl : l.length ≤ 9223372036854775807) : Kd.R (Kd.int k) e w base (fun _ => True) (.slice (some ⟨g, 0, none⟩) l.length l.length) l :=
 Kd.R_of_own ⟨by simp [encs], .inr ⟨g, l.length, (nums k l).toArray, rfl, hb, h, Nat.le_refl _, by simpa [maxLen] using hl, by simp [nums], by simp [nums, encs, List.take_of_length_le]⟩⟩ (fun _ _ => trivial)
set_option maxHeartbeats 4000000 in
set_option maxRecDepth 100000 in
theorem dots_Dots.calls (k : Nat) (A0 : Option Addr) (c0 : Nat) (l0 : List Int) (r1 : List Int) (r2 : Int) (w : World) (hr0 : Kd.C (Kd.int .i64) w A0 l0.length l0) (hc0 : l0.length ≤ c0) (h : dots_Dots.f k l0 = some (r1, r2)) :
  Calls Try.prog 7 #[.slice A0 l0.length c0] w fun e w' => ∃ v0_ : Value, e = .returned (.tuple #[v0_, .int .i64 r2]) ∧ Kd.R (Kd.int .i64) 3 w' w.heap.size (fun _ => True) v0_ r1 ∧ Below w.heap.size w w' := by
 unfold dots_Dots.f at h
 obtain ⟨t, ht, h⟩ := ob_ h
 have HR0 := sd_ hr0
 have HC0 := sd_ hc0
 have A2 := sd_ ht
 clear hr0 hc0 ht
 by_cases c : t = true
 rotate_left
 ·obtain rfl := bf_ c
  obtain ⟨rfl, rfl⟩ : [] = r1 ∧ 2 = r2 := by simpa using h
  go_enter Try.func7, Try.ntmps7
  go_wp2_with (go_at_call 16; refine (dots_fits.calls k _ _ l0 false _ HR0.out HC0.out A2.out).mono ?_; rintro e w1 ⟨rfl, hb⟩)
  go_ret2
  exact ⟨_, rfl, Kd.R_nil _ _ _ _ _, hb⟩
 ·subst c
  rw [if_pos rfl] at h
  obtain ⟨G, hG, h⟩ := ob_ h
  obtain ⟨rfl, rfl⟩ : l0.map (lk G) = r1 ∧ 0 = r2 := by simpa using h
  have HG := sd_ hG
  clear h hG
  have hln := fits_len A2.out
  obtain ⟨b, o, rfl, hcells⟩ := arg_cells HR0.out (by omega)
  have HL := sd_ hln
  have HQ := sd_ hcells
  clear hln hcells
  obtain ⟨s, hs⟩ : ∃ s, (l0.mergeSort fun x y => decide (x ≤ y)) = s := ⟨_, rfl⟩
  have hs2 := sd_ ((merge_isort l0).symm.trans hs)
  have HSL : Aside0 (s.length = l0.length) := ⟨by rw [← hs, List.length_mergeSort]⟩
  obtain ⟨m, hm⟩ : ∃ m, Go.Lib.compact s = m := ⟨_, rfl⟩
  have HML : Aside0 (m.length ≤ l0.length) := ⟨by rw [← hm, ← HSL.out]; exact Go.Lib.compact_length_le s⟩
  have HMO : Aside0 (dots_order l0 = m) := ⟨by unfold dots_order; rw [hs2.out, hm]⟩
  rw [HMO.out] at HG
  have HS := sd_ hs
  have HM := sd_ hm
  clear hs hm
  have hmm := @run_makeMap Try.prog
  go_enter Try.func7, Try.ntmps7
  go_upto_region 3 with (go_at_call 16; refine (dots_fits.calls k _ _ l0 true _ HR0.out HC0.out A2.out).mono ?_; rintro e w1 ⟨rfl, hb1⟩)
  go_upto_region 4 with (go_at_call 17; refine (Try.slices_Clone_int b o l0.length c0 l0 _ (Nat.le_refl _) (by have := HL.out; omega) (fun j hj => (pw_cell_below hb1 (HQ.out j hj)))).mono ?_; rintro e w2 ⟨v, rfl, hown, hnn, hb2⟩)
  rw [List.take_length] at hown
  obtain ⟨hol, ho2⟩ := hown
  rcases ho2 with ⟨q1, _⟩ | ⟨go, cap, cur, rfl, hgo, hhe, hcl, hcm, hcs, htk⟩
  ·exact absurd q1 hnn
  have hB2 : Below w.heap.size w w2 := bt_ hb1 hb2
  have hgw : w.heap.size ≤ go := Nat.le_trans hb1.size hgo
  rw [Nat.mul_one] at htk hcs
  have HH := holds_of_blockI (ss := l0) hhe (by simpa using htk)
  go_upto_region 5 with (go_at_call 18; refine (Try.slices_Sort_int go 0 cap l0 _ HH (blk_lt hhe) (by have := HL.out; omega)).mono ?_; rintro e w3 ⟨rfl, n3, os3, rfl⟩)
  rw [HS.out]
  have hhe3 := heap_sortedI (n := n3) (os := os3) s.toArray hhe
  have hB3 : Below w.heap.size w (grow (putRow (Value.int .i64) (Sort.ahead w2 n3) go 0 s.toArray) os3) := sort_below hB2 (grownBy_sortedI _) hgw
  have hcs3 : (putCells (Value.int .i64) 0 s.toArray cur).size = cap := by simp [putCells, hcs]
  have htk3 : (putCells (Value.int .i64) 0 s.toArray cur).toList.take s.length = s.map (Value.int .i64) := take_putCellsI cur s (by rw [HSL.out]; omega)
  generalize grow (putRow (Value.int .i64) (Sort.ahead w2 n3) go 0 s.toArray) os3 = W3 at hhe3 hB3 ⊢
  generalize putCells (Value.int .i64) 0 s.toArray cur = cur3 at hhe3 hcs3 htk3
  have HH3 := holds_of_blockI (ss := s) hhe3 htk3
  rw [← HSL.out]
  go_upto_region 6 with (go_at_call 19; refine (Try.slices_Compact_int go 0 cap s _ HH3 (by have := HL.out; have := HSL.out; omega) (by have := HSL.out; omega)).mono ?_; rintro e w4 ⟨rfl, n4, rfl⟩)
  rw [HM.out]
  have hcl4 : (m ++ List.replicate (s.length - m.length) 0).length = s.length := by have := HML.out; have := HSL.out; simp; omega
  have hhe4 := heap_sortedI (n := n4) (os := #[]) (m ++ List.replicate (s.length - m.length) 0).toArray hhe3
  have hB4 : Below w.heap.size w (grow (putRow (Value.int .i64) (Sort.ahead W3 n4) go 0 (m ++ List.replicate (s.length - m.length) 0).toArray) #[]) := sort_below hB3 (grownBy_sortedI _) hgw
  rw [grow_empty] at hhe4 hB4
  have htk4 := take_putCellsI cur3 (m ++ List.replicate (s.length - m.length) 0) (by rw [hcl4]; have := HSL.out; omega)
  rw [hcl4] at htk4
  generalize putRow (Value.int .i64) (Sort.ahead W3 n4) go 0 (m ++ List.replicate (s.length - m.length) 0).toArray = W4 at hhe4 hB4 ⊢
  generalize putCells (Value.int .i64) 0 (m ++ List.replicate (s.length - m.length) 0).toArray cur3 = cur4 at hhe4 htk4
  have hcm4 : ∀ j, j < m.length → cur4[j]? = some (.int .i64 (m.getD j 0)) := by
   intro j hj
   have hjs : j < s.length := by have := HML.out; have := HSL.out; omega
   have e1 : (cur4.toList.take s.length)[j]? = ((m ++ List.replicate (s.length - m.length) 0).map (Value.int .i64))[j]? := by rw [htk4]
   rw [List.getElem?_take_of_lt hjs, Array.getElem?_toList] at e1
   rw [e1, List.getElem?_map, List.getElem?_append_left hj, List.getElem?_eq_getElem hj, List.getD_eq_getElem?_getD, List.getElem?_eq_getElem hj]
   rfl
  have HC4 := sd_ hcm4
  clear hcm4 htk4 hcl4 HH HH3 hB3 hhe3 hcs3 htk3 hhe htk hcs hB2 hb2 hb1 hol hnn h
  go_upto_region 8 with (fail)
  have D0 : DW w (W4.heap.size + 1) W4.heap.size (W4.heap.size + 1 + 1) go cur4 [] [] (((W4.alloc (.map #[] 0)).alloc (.cells #[.map (some W4.heap.size)] 44)).alloc (.map #[] 0)) := by
   have lg := blk_lt hhe4
   have s1 : (W4.alloc (.map #[] 0)).heap.size = W4.heap.size + 1 := by simp
   have s2 : ((W4.alloc (.map #[] 0)).alloc (.cells #[.map (some W4.heap.size)] 44)).heap.size = W4.heap.size + 1 + 1 := by simp
   have b1 := ba_ hB4 (.map #[] 0)
   have b2 := ba_ b1 (.cells #[.map (some W4.heap.size)] 44)
   have hz := hB4.size
   have n1 := blk_new (W4.alloc (.map #[] 0)) (.cells #[.map (some W4.heap.size)] 44)
   have n2 := ML.new ((W4.alloc (.map #[] 0)).alloc (.cells #[.map (some W4.heap.size)] 44))
   rw [s1] at n1
   rw [s2] at n2
   refine ⟨by omega, by omega, by omega, hgw, by omega, by omega, by omega, by omega, by omega, ka_ n1 _, ?_, n2, ka_ (ka_ (ka_ hhe4 _) _) _, ba_ b2 _⟩
   exact ((ML.new W4).of (Below.heap_alloc _ _ _ (by omega))).of (Below.heap_alloc _ _ _ (by omega))
  generalize (((W4.alloc (.map #[] 0)).alloc (.cells #[.map (some W4.heap.size)] 44)).alloc (.map #[] 0)) = W7 at D0 ⊢
  generalize W4.heap.size + 1 + 1 = bb at D0 ⊢
  generalize W4.heap.size + 1 = gs at D0 ⊢
  generalize W4.heap.size = bt at D0 ⊢
  clear hhe4 hB4
  have HD0 := sd_ D0
  clear D0
  have HGW := sd_ hgw
  have HNB := sd_ (And.intro hcl hcm)
  clear hgw hcl hcm hgo
  go_wp2
  go_loopg [27] m.length (fun kq v27 wr => ∃ (i : Nat) (T : List Int) (G1 : List (Int × Int)), v27 = .int .i64 i ∧ Aside0 (kq + i = m.length ∧ dots_l k (m.reverse.drop i) T G1 = some G ∧ DW w gs bt bb go cur4 T G1 wr ∧ (∀ q ∈ G1, q.1 ∉ m.reverse.drop i) ∧ G1.Pairwise (fun p q => p.1 ≠ q.1)))
  case atStart => exact ⟨0, [], [], rfl, ⟨by omega, HG.out, HD0.out, (fun _ hq => absurd hq List.not_mem_nil), List.Pairwise.nil⟩⟩
  case round =>
   obtain ⟨i, T, G1, rfl, hA⟩ := hrel
   clear HD0 HG
   have hi : i ≤ m.length := by have := hA.out.1; omega
   have hml : m.length ≤ 16 := by have := HML.out; have := HL.out; omega
   by_cases hlt : i < m.length
   ·obtain ⟨k1, rfl⟩ : ∃ k1, gk = k1 + 1 := ⟨gk - 1, by have := hA.out.1; omega⟩
    have hlr : i < m.reverse.length := by simpa using hlt
    obtain ⟨p, hp⟩ : ∃ p, m.reverse[i] = p := ⟨_, rfl⟩
    have hdr : m.reverse.drop i = p :: m.reverse.drop (i + 1) := by rw [List.drop_eq_getElem_cons hlr, hp]
    have hpm : m.getD (m.length - 1 - i) 0 = p := by
     rw [← hp, List.getElem_reverse, List.getD_eq_getElem?_getD, List.getElem?_eq_getElem (by omega)]
     rfl
    have hA1 := hA.out
    rw [hdr] at hA1
    obtain ⟨q1, q2, q3, q4, q5⟩ := hA1
    unfold dots_l at q2
    obtain ⟨x, hx, q2⟩ := ob_ q2
    have hpl : p ∈ l0 := order_mem (by rw [HMO.out, ← List.mem_reverse, ← hp]; exact List.getElem_mem hlr)
    have hpb := fits_bd A2.out p hpl
    have hwf : (Lit.int .i64 p).wf = true := wf_of (by omega) (by omega)
    have HSK := sd_ (seek.calls k gs bt T p x wr q3.hs q3.ht hwf hx)
    have HD := sd_ q3
    have HQ2 := sd_ (And.intro q2 (And.intro q4 q5))
    have HI := sd_ q1
    have HWF := sd_ hwf
    obtain ⟨j, hj⟩ : ∃ j, m.length - 1 - i = j := ⟨_, rfl⟩
    have hc : wr.cell? ⟨go, j, none⟩ = some (.int .i64 p) := (kc_ q3.ho j).trans ((HC4.out j (by omega)).trans (by rw [← hj, hpm]))
    have hw1 : IntKind.i64.wrap ((m.length : Int) - 1) = (m.length : Int) - 1 := by rw [i64_w]; unfold wrap64; omega
    have hw2 : IntKind.i64.wrap ((m.length : Int) - 1 - (i : Int)) = (j : Int) := by rw [i64_w]; unfold wrap64; omega
    have hjl : (j : Int) < m.length := by omega
    have cs : wr.cell? ⟨gs, 0, none⟩ = some (.map (some bt)) := (kc_ q3.hs 0).trans rfl
    have HDR := sd_ (And.intro hdr hj)
    clear hA hx q1 q2 q3 q4 q5 hdr hj hwf hp hpm hpl hpb hi
    go_wp2_with (go_at_call 20; refine HSK.out.mono ?_; rintro e w3 ⟨rfl, o3, rfl, hm3⟩; have HD3 := sd_ (HD.out.st hm3); obtain ⟨es5, ck5, hst5, hml5⟩ := HD3.out.hb.store seek_key Try.underlying3 Try.underlying45 HWF.out (fun q hq e => by obtain ⟨r0, hr0, e1, _⟩ := dgk_mem hq; exact HQ2.out.2.1 r0 hr0 (by rw [← e1, e]; exact List.mem_cons_self ..)) (.int .i64 x); have HM5 := sd_ hml5; clear hml5 hm3)
    go_roundg k1
    case measure => omega
    case rel =>
     refine ⟨i + 1, x :: T, (p, x) :: G1, by go_num, ⟨by have := HI.out; omega, HQ2.out.1, HD3.out.sb ?_, ?_, ?_⟩⟩
     ·have := HM5.out
      unfold dgk at this ⊢
      simpa using this
     ·have hnd : (p :: m.reverse.drop (i + 1)).Pairwise (fun x y => y < x) := by
       rw [← HDR.out.1]
       have h1 : m.reverse.Pairwise (fun x y => y < x) := by rw [List.pairwise_reverse, ← HMO.out]; exact order_rises l0
       exact h1.sublist (List.drop_sublist _ _)
      intro q hq
      rcases List.mem_cons.1 hq with rfl | hq
      ·intro hmem
       have := (List.pairwise_cons.1 hnd).1 _ hmem
       omega
      ·exact fun hmem => HQ2.out.2.1 q hq (List.mem_cons_of_mem _ hmem)
     ·exact List.pairwise_cons.2 ⟨fun q hq e => HQ2.out.2.1 q hq (by rw [← e]; exact List.mem_cons_self ..), HQ2.out.2.2⟩
   ·have him : i = m.length := by omega
    have hA1 := hA.out
    rw [show m.reverse.drop i = [] from List.drop_eq_nil_of_le (by simp; omega)] at hA1
    obtain ⟨_, q2, q3, _, q5⟩ := hA1
    obtain rfl : G1 = G := by unfold dots_l at q2; exact Option.some.inj q2
    subst him
    have HD := sd_ q3
    have HP := sd_ q5
    clear hA q2 q3 q5
    have hsl : s.length ≤ 16 := by have := HSL.out; have := HL.out; omega
    have hmk := print_make (P := Try.prog) 22 3 .i64 8 Try.underlying22 info3 (by decide) s.length (by omega)
    have hlz : decide ((m.length : Int) < (m.length : Int)) = false := df_ (by omega)
    go_wp2
    have D3 := HD.out.made (.cells (madeCells #[Value.int .i64 0] s.length) 3)
    have ho3 := blk_new wr (.cells (madeCells #[Value.int .i64 0] s.length) 3)
    rw [made_nums'] at ho3 D3
    have hbz : w.heap.size ≤ wr.heap.size := HD.out.hB.size
    have hne : wr.heap.size ≠ gs ∧ wr.heap.size ≠ bt ∧ wr.heap.size ≠ bb ∧ wr.heap.size ≠ go := by
     have a1 := blk_lt HD.out.hs
     have a2 := HD.out.ht.lt
     have a3 := HD.out.hb.lt
     have a4 := blk_lt HD.out.ho
     omega
    rw [made_nums']
    clear HD hmk hlz
    generalize wr.alloc (.cells (nums .i64 (List.replicate s.length 0)).toArray 3) = W8 at D3 ho3 ⊢
    generalize wr.heap.size = gx at D3 ho3 hbz hne ⊢
    have HN := sd_ (And.intro hbz hne)
    have HD3 := sd_ D3
    have HO3 := sd_ ho3
    clear hbz hne D3 ho3
    go_loopg [49] s.length (fun kq v49 wr => ∃ i : Nat, v49 = .int .i64 i ∧ Aside0 (kq + i = s.length ∧ DW w gs bt bb go cur4 T G1 wr ∧ wr.heap[gx]? = some (.cells (nums .i64 (outN G1 l0 i)).toArray 3 (0, 0))))
    case atStart => exact ⟨0, rfl, ⟨by omega, HD3.out, by rw [show outN G1 l0 0 = List.replicate s.length 0 by unfold outN; rw [HSL.out]; simp]; exact HO3.out⟩⟩
    case round =>
     obtain ⟨i, rfl, hA⟩ := hrel
     clear HD3 HO3
     have hi : i ≤ s.length := by have := hA.out.1; omega
     by_cases hlt : i < s.length
     ·obtain ⟨k1, rfl⟩ : ∃ k1, gk = k1 + 1 := ⟨gk - 1, by have := hA.out.1; omega⟩
      obtain ⟨q1, q2, q3⟩ := hA.out
      have hil : i < l0.length := by rw [← HSL.out]; exact hlt
      obtain ⟨a, ha⟩ : ∃ a, l0.getD i 0 = a := ⟨_, rfl⟩
      have hab := fits_bd A2.out a (by rw [← ha, List.getD_eq_getElem?_getD, List.getElem?_eq_getElem hil]; exact List.getElem_mem hil)
      have hc : wr.cell? ⟨b, o + i, none⟩ = some (.int .i64 a) := by rw [← ha]; exact pw_cell_below q2.hB (HQ.out i hil)
      have hlk := by_look q2.hb HP.out (wf_of (a := a) (by omega) (by omega))
      have HS2 := sd_ (outN_succ (G := G1) hil)
      rw [ha] at HS2
      obtain ⟨v, hv⟩ : ∃ v, lk G1 a = v := ⟨_, rfl⟩
      rw [hv] at hlk HS2
      have hll : (outN G1 l0 i).length = s.length := by rw [outN_length (by omega), HSL.out]
      obtain ⟨u0, hu0⟩ : ∃ u, wr.cell? ⟨gx, i, none⟩ = some u := ⟨_, (kc_ q3 i).trans (Array.getElem?_eq_getElem (by rw [List.size_toArray, nums_length, hll]; exact hlt))⟩
      have hf0 := kf_ q3 i
      have HD4 := sd_ q2
      have HX4 := sd_ q3
      have HI := sd_ q1
      clear hA q1 q2 q3 ha hv hab hi
      go_wp2
      go_roundg k1
      case measure => omega
      case rel =>
       refine ⟨i + 1, by go_num, ⟨by have := HI.out; omega, HD4.out.cell HN.out.1 HN.out.2.1 HN.out.2.2.1 HN.out.2.2.2.1 HN.out.2.2.2.2, ?_⟩⟩
       rw [← HS2.out, ← nums_set']
       exact blk_set HX4.out i _
     ·have him : i = s.length := by omega
      subst him
      obtain ⟨_, q2, q3⟩ := hA.out
      obtain ⟨es9, ck9, hclr, _⟩ := q2.ht.clear Try.underlying42 0
      have cs : wr.cell? ⟨gs, 0, none⟩ = some (.map (some bt)) := (kc_ q2.hs 0).trans rfl
      have HD4 := sd_ q2
      have HX4 := sd_ q3
      clear hA q2 q3
      go_wp2
      go_ret2
      have hfin := (sb_other (o := .map es9 ck9) (Ne.symm HN.out.2.2.1)).trans HX4.out
      rw [HSL.out, outN_all] at hfin
      refine ⟨_, rfl, ?_, sb_below HD4.out.hB HD4.out.zt⟩
      have hll : (l0.map (lk G1)).length = s.length := by rw [List.length_map, HSL.out]
      have hsl16 := hsl
      rw [← hll]
      exact R_of_blk' hfin HN.out.1 (by omega)
end

/-! ### dur_Check: function 24 -/
def dur_Check.f (a0_0 : Int) (a0_1 : Int) : Option (Bool) := if (-1) ≤ a0_0 then (if a0_0 ≤ 6 then (if 0 ≤ a0_1 then (some (decide (a0_1 ≤ 3))) else (some false)) else (some false)) else (some false)
set_option maxHeartbeats 8000000 in
set_option maxRecDepth 100000 in
theorem dur_Check.calls (a0_0 : Int) (a0_1 : Int) (r : Bool) (w : World) (h : dur_Check.f a0_0 a0_1 = some r) :
  Calls Try.prog 24 #[.agg #[.int .i64 a0_0, .int .i64 a0_1]] w fun e w' => e = .returned (.bool r) ∧ Below w.heap.size w w' := by
 have hu24 := Try.underlying24
 have HB := sd_ (Below.refl w.heap.size w)
 have H : (if (-1) ≤ a0_0 then (if a0_0 ≤ 6 then (if 0 ≤ a0_1 then (some (decide (a0_1 ≤ 3))) else (some false)) else (some false)) else (some false)) = some r := h
 clear h
 by_cases c2 : (-1) ≤ a0_0
 ·rw [if_pos c2] at H
  have c2b0 : decide ((-1) ≤ a0_0) = true := dt_ c2
  clear c2
  by_cases c3 : a0_0 ≤ 6
  ·rw [if_pos c3] at H
   have c3b0 : decide (a0_0 ≤ 6) = true := dt_ c3
   clear c3
   by_cases c4 : 0 ≤ a0_1
   ·rw [if_pos c4] at H
    have c4b0 : decide (0 ≤ a0_1) = true := dt_ c4
    clear c4
    obtain rfl := Option.some.inj H
    go_enter Try.func24, Try.ntmps24
    go_wp2_with (first | ((with_reducible refine gate_dst (N := 1) rfl ?_); refine box_event ?hg (N := 1) ?hd (cs := #[.int .i64 a0_0, .int .i64 a0_1]) (t := 24) ?hr ?_; (case hd => rfl); (case hg => rfl); (case hr => first | (go_simp; done) | (go_simp; rfl)); intro gb105 hg w5 hbox hb; have BK105 := sd_ hbox; have GW105 := gw_ HB e0_ hg; have GE105 := GW105; replace HB := hb_ HB e0_ hb; clear hb hbox hg; have hcz6_0 : w5.cell? ⟨gb105, 0, none⟩ = some (.int .i64 a0_0) := (kc_ BK105.out 0).trans rfl; have hcz6_1 : w5.cell? ⟨gb105, 1, none⟩ = some (.int .i64 a0_1) := (kc_ BK105.out 1).trans rfl; have hfz6_0 := kf_ BK105.out 0; have hfz6_1 := kf_ BK105.out 1))
    go_ret
    exact ⟨by first | rfl | (simp [errW_none, errW_some] <;> rfl) | (simp [*, errW_none, errW_some] <;> rfl), by repeat (first | (with_reducible first | exact HB.out | apply ba_ | apply pd_ | apply d1_ | refine bs_ ?_ GE105.out) | exact HB.out)⟩
   ·rw [if_neg c4] at H
    have c4b0 : decide (0 ≤ a0_1) = false := df_ c4
    clear c4
    obtain rfl := Option.some.inj H
    go_enter Try.func24, Try.ntmps24
    go_wp2_with (first | ((with_reducible refine gate_dst (N := 1) rfl ?_); refine box_event ?hg (N := 1) ?hd (cs := #[.int .i64 a0_0, .int .i64 a0_1]) (t := 24) ?hr ?_; (case hd => rfl); (case hg => rfl); (case hr => first | (go_simp; done) | (go_simp; rfl)); intro gb105 hg w7 hbox hb; have BK105 := sd_ hbox; have GW105 := gw_ HB e0_ hg; have GE105 := GW105; replace HB := hb_ HB e0_ hb; clear hb hbox hg; have hcz8_0 : w7.cell? ⟨gb105, 0, none⟩ = some (.int .i64 a0_0) := (kc_ BK105.out 0).trans rfl; have hcz8_1 : w7.cell? ⟨gb105, 1, none⟩ = some (.int .i64 a0_1) := (kc_ BK105.out 1).trans rfl; have hfz8_0 := kf_ BK105.out 0; have hfz8_1 := kf_ BK105.out 1))
    go_ret
    exact ⟨by first | rfl | (simp [errW_none, errW_some] <;> rfl) | (simp [*, errW_none, errW_some] <;> rfl), by repeat (first | (with_reducible first | exact HB.out | apply ba_ | apply pd_ | apply d1_ | refine bs_ ?_ GE105.out) | exact HB.out)⟩
  ·rw [if_neg c3] at H
   have c3b0 : decide (a0_0 ≤ 6) = false := df_ c3
   clear c3
   obtain rfl := Option.some.inj H
   go_enter Try.func24, Try.ntmps24
   go_wp2_with (first | ((with_reducible refine gate_dst (N := 1) rfl ?_); refine box_event ?hg (N := 1) ?hd (cs := #[.int .i64 a0_0, .int .i64 a0_1]) (t := 24) ?hr ?_; (case hd => rfl); (case hg => rfl); (case hr => first | (go_simp; done) | (go_simp; rfl)); intro gb105 hg w9 hbox hb; have BK105 := sd_ hbox; have GW105 := gw_ HB e0_ hg; have GE105 := GW105; replace HB := hb_ HB e0_ hb; clear hb hbox hg; have hcz10_0 : w9.cell? ⟨gb105, 0, none⟩ = some (.int .i64 a0_0) := (kc_ BK105.out 0).trans rfl; have hcz10_1 : w9.cell? ⟨gb105, 1, none⟩ = some (.int .i64 a0_1) := (kc_ BK105.out 1).trans rfl; have hfz10_0 := kf_ BK105.out 0; have hfz10_1 := kf_ BK105.out 1))
   go_ret
   exact ⟨by first | rfl | (simp [errW_none, errW_some] <;> rfl) | (simp [*, errW_none, errW_some] <;> rfl), by repeat (first | (with_reducible first | exact HB.out | apply ba_ | apply pd_ | apply d1_ | refine bs_ ?_ GE105.out) | exact HB.out)⟩
 ·rw [if_neg c2] at H
  have c2b0 : decide ((-1) ≤ a0_0) = false := df_ c2
  clear c2
  obtain rfl := Option.some.inj H
  go_enter Try.func24, Try.ntmps24
  go_wp2_with (first | ((with_reducible refine gate_dst (N := 1) rfl ?_); refine box_event ?hg (N := 1) ?hd (cs := #[.int .i64 a0_0, .int .i64 a0_1]) (t := 24) ?hr ?_; (case hd => rfl); (case hg => rfl); (case hr => first | (go_simp; done) | (go_simp; rfl)); intro gb105 hg w11 hbox hb; have BK105 := sd_ hbox; have GW105 := gw_ HB e0_ hg; have GE105 := GW105; replace HB := hb_ HB e0_ hb; clear hb hbox hg; have hcz12_0 : w11.cell? ⟨gb105, 0, none⟩ = some (.int .i64 a0_0) := (kc_ BK105.out 0).trans rfl; have hcz12_1 : w11.cell? ⟨gb105, 1, none⟩ = some (.int .i64 a0_1) := (kc_ BK105.out 1).trans rfl; have hfz12_0 := kf_ BK105.out 0; have hfz12_1 := kf_ BK105.out 1))
  go_ret
  exact ⟨by first | rfl | (simp [errW_none, errW_some] <;> rfl) | (simp [*, errW_none, errW_some] <;> rfl), by repeat (first | (with_reducible first | exact HB.out | apply ba_ | apply pd_ | apply d1_ | refine bs_ ?_ GE105.out) | exact HB.out)⟩

end Go.Proofs.Ytochpedmjpidkaa.P
