-- Written by a program of this session (wip/tools/xprint.py, over the kit's print): Lean checks it.
import Derived.Test.YtipfgmflofdedaaPx0
import Derived.Test.YtipfgmflofdedaaPx1
namespace Go.Proofs.Ytipfgmflofdedaa.P
open Go.RowKit Go.Proofs.YtipfgmflofdedaaW.PrintWords Go.Proofs.YtipfgmflofdedaaW.PrintLast Go.Proofs.YtipfgmflofdedaaW.PrintMore
attribute [local go_sem] max2_int min2_int max_two min_two max_three min_three max_four min_four   -- for this text's walks alone
set_option linter.unusedVariables false
set_option linter.unusedSimpArgs false

/-! ### solve_Solve: function 7 -/
theorem ln_info23 : (Try.prog.info? 23).map (fun i => (i.zero, i.size, i.bytes)) = some (some (.slice none 0 0), 1, 24) := by kernel_rfl
theorem ln_info36 : (Try.prog.info? 36).map (fun i => (i.zero, i.size, i.bytes)) = some (some (.agg #[(.int .i64 0), (.int .i64 0), (.int .i64 0)]), 3, 24) := by kernel_rfl
theorem ln_info3 : (Try.prog.info? 3).map (fun i => (i.zero, i.size, i.bytes)) = some (some (.int .i64 0), 1, 8) := by kernel_rfl
/-- Rows of rods, by number, and the values that hold them. -/
def LRows (w : World) (base T : Nat) (vs : List Value) (xss : List (List S36)) : Prop :=
 w.heap[T]? = some (.cells vs.toArray 23 (0, 0)) ∧ base ≤ T ∧ vs.length = xss.length ∧ (∀ (j : Nat) (v : Value) xs, vs[j]? = some v → xss[j]? = some xs → k36.R 36 w base (fun k => some k = v.ownBlock) v xs) ∧ ∀ (i j : Nat) (v u : Value), vs[i]? = some v → vs[j]? = some u → i ≠ j → v.ownBlock = none ∨ v.ownBlock ≠ u.ownBlock
theorem LRows.below {w w1 : World} {base T : Nat} {vs : List Value} {xss : List (List S36)} (h : LRows w base T vs xss) (hb : Below w.heap.size w w1) : LRows w1 base T vs xss :=
 ⟨(hb.block T (blk_lt h.1)).trans h.1, h.2.1, h.2.2.1, fun j v xs hv hx => Kd.R_below (h.2.2.2.1 j v xs hv hx) hb, h.2.2.2.2⟩
theorem LRows.app {w w1 : World} {base T i : Nat} {vs : List Value} {xss : List (List S36)} {v v1 : Value} {xs xs' : List S36} (h : LRows w base T vs xss) (hv : vs[i]? = some v) (hx : xss[i]? = some xs) (hg : w.grownBy w1 v.ownBlock)
  (hR : k36.R 36 w1 base (fun _ => True) v1 xs') (hat : v1.ownBlock = v.ownBlock ∨ ∃ b, v1.ownBlock = some b ∧ w.heap.size ≤ b) : LRows (w1.setCell ⟨T, i, none⟩ v1) base T (vs.set i v1) (xss.set i xs') := by
 obtain ⟨hT, hbT, hl, hr, hap⟩ := h
 have hvT : ∀ k, v.ownBlock = some k → k ≠ T := by
  intro k hk e
  obtain ⟨cells, hc⟩ := Kd.R_typed (hr i v xs hv hx) k hk
  rw [e, hT] at hc
  injection hc with hc
  injection hc with _ hc
  cases hc
 have hT1 : w1.heap[T]? = some (.cells vs.toArray 23 (0, 0)) := (hg.block T (blk_lt hT) (fun e => hvT T e.symm rfl)).trans hT
 refine ⟨?_, hbT, by rw [List.length_set, List.length_set]; exact hl, ?_, ?_⟩
 ·have := blk_set hT1 i v1
  rw [this]
  simp
 ·intro j u ys hu hy
  by_cases e : j = i
  ·subst e
   have hj : j < vs.length := (List.getElem?_eq_some_iff.1 hv).1
   rw [List.getElem?_set_self hj] at hu
   rw [List.getElem?_set_self (by omega)] at hy
   cases hu; cases hy
   exact Kd.R_tight rfl (Kd.R_set hR hT1 (by decide) j v1)
  ·rw [List.getElem?_set_ne (Ne.symm e)] at hu hy
   have hR0 := hr j u ys hu hy
   have h1 : k36.R 36 w1 base (fun k => some k = u.ownBlock) u ys := Kd.R_grown hR0 hg (fun k hk e2 => by
    rcases hap j i u v hu hv e with h3 | h3
    ·rw [h3] at hk; cases hk
    ·exact h3 (hk.symm.trans e2))
   exact Kd.R_set h1 hT1 (by decide) i v1
 ·intro j k u u' hu hu' hne
  have hnew : ∀ (m : Nat) (y : Value), vs[m]? = some y → m ≠ i → v1.ownBlock = none ∨ v1.ownBlock ≠ y.ownBlock := by
   intro m y hm hmi
   rcases hat with h1 | ⟨b, h1, h2⟩
   ·rw [h1]; exact hap i m v y hv hm (Ne.symm hmi)
   ·right
    intro e
    have hml : m < xss.length := by rw [← hl]; exact (List.getElem?_eq_some_iff.1 hm).1
    have := Kd.R_lt (hr m y _ hm (List.getElem?_eq_getElem hml)) b (e.symm.trans h1)
    omega
  by_cases e : j = i
  ·subst e
   rw [List.getElem?_set_self (List.getElem?_eq_some_iff.1 hv).1] at hu
   cases hu
   rw [List.getElem?_set_ne hne] at hu'
   exact hnew k u' hu' (Ne.symm hne)
  ·rw [List.getElem?_set_ne (Ne.symm e)] at hu
   by_cases e2 : k = i
   ·subst e2
    rw [List.getElem?_set_self (List.getElem?_eq_some_iff.1 hv).1] at hu'
    cases hu'
    rcases hnew j u hu e with h1 | h1
    ·by_cases h2 : u.ownBlock = none
     ·exact .inl h2
     ·right; rw [h1]; exact h2
    ·exact .inr (Ne.symm h1)
   ·rw [List.getElem?_set_ne (Ne.symm e2)] at hu'
    exact hap j k u u' hu hu' hne
def addTo (xss : List (List S36)) (r : S36) : List (List S36) := xss.set r.f1.toNat (xss.getD r.f1.toNat [] ++ [r])
theorem addTo_length (xss : List (List S36)) (r : S36) : (addTo xss r).length = xss.length := by simp [addTo]
theorem addTo_eq (xss : List (List S36)) (p : S36) (j : Nat) (xs : List S36) (hj : p.f1 = j) (h : xss[j]? = some xs) : addTo xss p = xss.set j (xs ++ [p]) := by
 unfold addTo
 rw [hj, Int.toNat_natCast, List.getD_eq_getElem?_getD, h]
 rfl
theorem addTo_row (j : Nat) (l : List S36) (xss : List (List S36)) : ((l.foldl addTo xss).getD j []).length ≤ (xss.getD j []).length + l.length := by
 induction l generalizing xss with
 | nil => simp
 | cons r t ih =>
  rw [List.foldl_cons]
  refine Nat.le_trans (ih _) ?_
  have h1 : ((addTo xss r).getD j []).length ≤ (xss.getD j []).length + 1 := by
   unfold addTo
   rw [List.getD_eq_getElem?_getD, List.getD_eq_getElem?_getD, List.getD_eq_getElem?_getD, List.getElem?_set]
   by_cases e : r.f1.toNat = j
   ·rw [if_pos e, e]
    split
    ·simp
    ·simp
   ·rw [if_neg e]; omega
  rw [List.length_cons]
  omega
theorem addTo_all (l : List S36) (xss : List (List S36)) : (l.foldl addTo xss).length = xss.length := by
 induction l generalizing xss with
 | nil => rfl
 | cons r t ih => rw [List.foldl_cons, ih, addTo_length]
/-- A line in memory. -/
def LLine (w : World) (base g T : Nat) (A0 : Option Addr) (n c0 m : Nat) (vs : List Value) (xss : List (List S36)) : Prop :=
 w.heap[g]? = some (.cells #[.slice A0 n c0, .slice (some ⟨T, 0, none⟩) m m] 49 (0, 0)) ∧ base ≤ g ∧ vs.length = m ∧ LRows w base T vs xss
theorem LLine.below {w w1 : World} {base g T : Nat} {A0 : Option Addr} {n c0 m : Nat} {vs : List Value} {xss : List (List S36)} (h : LLine w base g T A0 n c0 m vs xss) (hb : Below w.heap.size w w1) : LLine w1 base g T A0 n c0 m vs xss :=
 ⟨(hb.block g (blk_lt h.1)).trans h.1, h.2.1, h.2.2.1, h.2.2.2.below hb⟩
theorem LLine.new (w : World) (A0 : Option Addr) (n c0 : Nat) : LLine ((w.alloc (Obj.cells (madeCells #[Value.slice none 0 0] (n + 1)) 23)).alloc (Obj.cells #[Value.slice A0 n c0, Value.slice (some { block := w.heap.size, off := 0 }) (n + 1) (n + 1)] 49)) w.heap.size (w.heap.size + 1) w.heap.size A0 n c0 (n + 1) (List.replicate (n + 1) (.slice none 0 0)) (List.replicate (n + 1) []) := by
 have h1 : (w.alloc (Obj.cells (madeCells #[Value.slice none 0 0] (n + 1)) 23)).heap.size = w.heap.size + 1 := World.size_alloc ..
 refine ⟨?_, by omega, by simp, ?_, by omega, by simp, ?_, ?_⟩
 ·rw [← h1]; exact heap_alloc_new _ _
 ·refine ((ba_ (Below.refl _ _) _).block _ (by omega)).trans ?_
  rw [heap_alloc_new, show madeCells #[Value.slice none 0 0] (n + 1) = (List.replicate (n + 1) (Value.slice none 0 0)).toArray from by rw [← toList_madeCells_one, Array.toArray_toList]]
 ·intro j v xs hv hx
  rw [List.getElem?_replicate] at hv hx
  split at hv
  ·rw [if_pos (by assumption)] at hx
   cases hv; cases hx
   exact Kd.R_nil _ _ _ _ _
  ·cases hv
 ·intro i j v u hv _ _
  rw [List.getElem?_replicate] at hv
  split at hv
  ·cases hv; exact .inl rfl
  ·cases hv
theorem grown_cell {w w1 : World} {row : Option Nat} (hg : w.grownBy w1 row) {a : Addr} {v : Value} (hc : w.cell? a = some v) (hne : some a.block ≠ row) : w1.cell? a = some v := by
 have h := hg.block a.block (wb_ w a hc) hne
 unfold World.cell? at hc ⊢
 rw [h]
 exact hc
theorem LLine.app {w w1 : World} {base g T i n c0 m : Nat} {A0 : Option Addr} {vs : List Value} {xss : List (List S36)} {v v1 : Value} {xs xs' : List S36} (h : LLine w base g T A0 n c0 m vs xss) (hv : vs[i]? = some v) (hx : xss[i]? = some xs) (hg : w.grownBy w1 v.ownBlock)
  (hR : k36.R 36 w1 base (fun _ => True) v1 xs') (hat : v1.ownBlock = v.ownBlock ∨ ∃ b, v1.ownBlock = some b ∧ w.heap.size ≤ b) : LLine (w1.setCell ⟨T, i, none⟩ v1) base g T A0 n c0 m (vs.set i v1) (xss.set i xs') := by
 obtain ⟨hL, hb, hl, hr⟩ := h
 have hgT : g ≠ T := by
  intro e
  rw [e, hr.1] at hL
  injection hL with hL
  injection hL with _ hL
  cases hL
 have hvg : some g ≠ v.ownBlock := Kd.R_ne (hr.2.2.2.1 i v xs hv hx) hL (by decide)
 exact ⟨blk_far ((hg.block g (blk_lt hL) hvg).trans hL) hgT _, hb, by rw [List.length_set]; exact hl, hr.app hv hx hg hR hat⟩
set_option maxHeartbeats 8000000 in
set_option maxRecDepth 100000 in
theorem solve_begin.calls (A0 A1 : Option Addr) (c0 c1 : Nat) (l0 : List Int) (l1 : List S36) (w : World) (hn : l0.length < 4096) (hr1 : Kd.C k36 w A1 l1.length l1) (hm : l1.length ≤ 400000)
  (hto : ∀ (i : Nat), i < l1.length → 0 ≤ (rd_T36 l1 i).f1 ∧ (rd_T36 l1 i).f1 ≤ l0.length) :
  Calls Try.prog 14 #[.slice A0 l0.length c0, .slice A1 l1.length c1] w fun e w' => ∃ g T vs, e = .returned (.pointer (some ⟨g, 0, none⟩)) ∧ LLine w' w.heap.size g T A0 l0.length c0 (l0.length + 1) vs (l1.foldl addTo (List.replicate (l0.length + 1) [])) ∧ Below w.heap.size w w' := by
 have hmk : ∀ W : World, (Instr.makeSlice 47 (.int .i64 ((l0.length : Int) + 1)) (.int .i64 ((l0.length : Int) + 1))).run Try.prog W = .ok (.slice (some ⟨W.heap.size, 0, none⟩) (l0.length + 1) (l0.length + 1)) (W.alloc (.cells (madeCells #[.slice none 0 0] (l0.length + 1)) 23)) := fun W => run_make_row' (P := Try.prog) 47 23 (.slice none 0 0) 24 Try.underlying47 ln_info23 rfl .i64 .i64 (l0.length + 1) (by omega) (by omega) W
 have HR1 := sd_ hr1
 have hlen1 : l1.length ≤ 9223372036854775807 := hr1.2.1
 clear hr1
 have HT := sd_ hto
 clear hto
 go_enter Try.func14, Try.ntmps14
 go_wp2
 have hW := sd_ (LLine.new w A0 l0.length c0)
 have hB : Below w.heap.size w ((w.alloc (Obj.cells (madeCells #[Value.slice none 0 0] (l0.length + 1)) 23)).alloc (Obj.cells #[Value.slice A0 l0.length c0, Value.slice (some { block := w.heap.size, off := 0 }) (l0.length + 1) (l0.length + 1)] 49)) := ba_ (ba_ (Below.refl _ _) _) _
 generalize (w.alloc (Obj.cells (madeCells #[Value.slice none 0 0] (l0.length + 1)) 23)).alloc (Obj.cells #[Value.slice A0 l0.length c0, Value.slice (some { block := w.heap.size, off := 0 }) (l0.length + 1) (l0.length + 1)] 49) = W at hW hB ⊢
 have hW' := hW.out
 clear hW
 generalize w.heap.size + 1 = g at hW' ⊢
 obtain ⟨m, hm2⟩ : ∃ m, m = l0.length + 1 := ⟨_, rfl⟩
 have hgo := sd_ hm2
 rw [← hm2] at hW' ⊢
 clear hmk
 obtain ⟨I, hI⟩ : ∃ I, I = List.replicate m ([] : List S36) := ⟨_, rfl⟩
 have HI := sd_ hI
 rw [← hI] at hW'
 clear hI hm2
 go_loopg [17] l1.length (fun k v17 wr => ∃ i : Nat, v17 = .int .i64 i ∧ Aside0 (k + i = l1.length ∧ Below w.heap.size w wr ∧ ∃ vs, LLine wr w.heap.size g w.heap.size A0 l0.length c0 m vs ((l1.take i).foldl addTo I)))
 case atStart => exact ⟨0, rfl, ⟨by omega, hB, _, hW'⟩⟩
 case round =>
  clear hW' hB
  obtain ⟨i, rfl, hA⟩ := hrel
  have hi : i ≤ l1.length := by have := hA.out.1; omega
  by_cases hlt : i < l1.length
  ·obtain ⟨k, rfl⟩ : ∃ k, gk = k + 1 := ⟨gk - 1, by have := hA.out.1; omega⟩
   obtain ⟨vs, hLL⟩ := hA.out.2.2
   have HL := sd_ hLL
   clear hLL
   have HB := sd_ hA.out.2.1
   obtain ⟨ad, e, hx0, hx1, hx2⟩ := at_T36 HR1.out (i : Int) (by omega) (by omega)
   cases e
   have hS := sd_ (show (l1.take (i + 1)).foldl addTo I = addTo ((l1.take i).foldl addTo I) (rd_T36 l1 (i : Int)) by
    rw [List.take_succ_eq_append_getElem hlt, List.foldl_append]
    unfold rd_T36
    rw [Int.toNat_natCast, List.getD_eq_getElem?_getD, List.getElem?_eq_getElem hlt]
    rfl)
   have hb := HT.out i hlt
   generalize rd_T36 l1 (i : Int) = p at hx0 hx1 hx2 hS hb
   replace hx0 := pw_cell_below HB.out hx0
   replace hx1 := pw_cell_below HB.out hx1
   replace hx2 := pw_cell_below HB.out hx2
   simp only [Int.toNat_natCast] at hx0 hx1 hx2
   obtain ⟨j, hj⟩ : ∃ j : Nat, p.f1 = (j : Int) := ⟨p.f1.toNat, by omega⟩
   rw [hj] at hx1 hb
   have hjm : j < m := by have := hgo.out; omega
   go_wp2
   clear hx0 hx1 hx2
   have HBn : Aside0 (Below wr.heap.size wr (wr.alloc (Obj.cells #[Value.int IntKind.i64 p.f0, Value.int IntKind.i64 (j : Int), Value.int IntKind.i64 p.f2] 36)).drew) := ⟨below_drew (ba_ (Below.refl _ _) _)⟩
   have hr : Aside0 ((wr.alloc (Obj.cells #[Value.int IntKind.i64 p.f0, Value.int IntKind.i64 (j : Int), Value.int IntKind.i64 p.f2] 36)).drew.heap[wr.heap.size]? = some (.cells #[Value.int IntKind.i64 p.f0, Value.int IntKind.i64 (j : Int), Value.int IntKind.i64 p.f2] 36 (0, 0))) := ⟨heap_alloc_new wr _⟩
   have hlg : ∀ k, k < wr.heap.size → some wr.heap.size ≠ some k := fun k hk e => by injection e with e; omega
   have HLL := sd_ (HL.out.below HBn.out)
   have HB2 := sd_ (below_then HB.out HB.out.size HBn.out)
   generalize wr.alloc (Obj.cells #[Value.int IntKind.i64 p.f0, Value.int IntKind.i64 (j : Int), Value.int IntKind.i64 p.f2] 36) = W1 at HBn hr HLL HB2 ⊢
   obtain ⟨v, hv⟩ : ∃ v, vs[j]? = some v := ⟨vs[j]'(by have := HLL.out.2.2.1; omega), List.getElem?_eq_getElem _⟩
   obtain ⟨xs, hxs⟩ : ∃ xs, ((l1.take i).foldl addTo I)[j]? = some xs := ⟨((l1.take i).foldl addTo I)[j]'(by have := HLL.out.2.2.1; have := HLL.out.2.2.2.2.2.1; omega), List.getElem?_eq_getElem _⟩
   have hxl : Aside0 ((xs.length + 1) * 24 ≤ 140737488355328) := ⟨by
    have h1 := addTo_row j (l1.take i) I
    rw [List.getD_eq_getElem?_getD, hxs, HI.out, List.getD_eq_getElem?_getD, List.getElem?_replicate, if_pos hjm, lt_] at h1
    simp only [Option.getD_some, List.length_nil] at h1
    omega⟩
   have HRV := sd_ (HLL.out.2.2.2.2.2.2.1 j v xs hv hxs)
   have HRW := sd_ (HL.out.2.2.2.2.2.2.1 j v xs hv hxs)
   have hne0 : some g ≠ v.ownBlock := Kd.R_ne HRV.out HLL.out.1 (by decide)
   have hne4 : some w.heap.size ≠ v.ownBlock := Kd.R_ne HRV.out HLL.out.2.2.2.1 (by decide)
   have hne1 : some wr.heap.size ≠ v.ownBlock := fun e => by have := Kd.R_lt HRW.out wr.heap.size e.symm; omega
   have hs0 : W1.drew.cell? ⟨g, 1, none⟩ = some (.slice (some ⟨w.heap.size, 0, none⟩) m m) := (kc_ HLL.out.1 1).trans rfl
   have hs1 : W1.drew.cell? ⟨wr.heap.size, 0, none⟩ = some (.int .i64 p.f0) := (kc_ hr.out 0).trans rfl
   have hs2 : W1.drew.cell? ⟨wr.heap.size, 1, none⟩ = some (.int .i64 j) := (kc_ hr.out 1).trans rfl
   have hs3 : W1.drew.cell? ⟨wr.heap.size, 2, none⟩ = some (.int .i64 p.f2) := (kc_ hr.out 2).trans rfl
   have hs4 : W1.drew.cell? ⟨w.heap.size, j, none⟩ = some v := by rw [kc_ HLL.out.2.2.2.1 j, List.getElem?_toArray]; exact hv
   have HPM : Aside0 (∀ (W : World) (base : Nat) (ok : Nat → Prop), k36.M W base ok p [.int .i64 p.f0, .int .i64 (j : Int), .int .i64 p.f2]) := ⟨fun W base ok => by rw [← hj]; exact k36_mkM W base ok p⟩
   have hj0 : decide ((0 : Int) ≤ (j : Int)) = true := dt_ (by omega)
   have hj1 : decide ((j : Int) < (m : Int)) = true := dt_ (by omega)
   clear hlg
   generalize wr.heap.size = gr at *
   refine start_ (n := 19) (S := fun w' => w'.cell? ⟨g, 1, none⟩ = some (.slice (some ⟨w.heap.size, 0, none⟩) m m) ∧ w'.cell? ⟨gr, 0, none⟩ = some (.int .i64 p.f0) ∧ w'.cell? ⟨gr, 1, none⟩ = some (.int .i64 j) ∧ w'.cell? ⟨gr, 2, none⟩ = some (.int .i64 p.f2) ∧ w'.cell? ⟨w.heap.size, j, none⟩ = some v) (ds := [18]) #[false, false, false, false, false, false, false, false, false, false, false, false, false, false, false, false, false, false, false] (by kernel_rfl) rfl rfl ⟨hs0, hs1, hs2, hs3, hs4⟩ (fun hHeld => ?_)
   generalize W1.drew = W2 at *
   refine pure_ (i := 0) (N := some 21) (v := ?_) (a' := ?_) #[true, false, false, false, false, false, false, false, false, false, false, false, false, false, false, false, false, false, false] rfl rfl (by kernel_rfl) (fun _ _ _ h => h) (Or.inl ⟨by rfl, ?_⟩) ?_ ?_
   rotate_left; (intro w'; go_simp; with_reducible rfl); rotate_left; (simp only [Act.put, ls_, lz_, lc_, i64_w, i32_w]; rfl)
   refine pure_ (i := 1) (N := some 22) (v := ?_) (a' := ?_) #[true, true, false, false, false, false, false, false, false, false, false, false, false, false, false, false, false, false, false] rfl rfl (by kernel_rfl) (fun _ _ _ h => h) (Or.inl ⟨by rfl, ?_⟩) ?_ ?_
   rotate_left; (intro w'; go_simp; with_reducible rfl); rotate_left; (simp only [Act.put, ls_, lz_, lc_, i64_w, i32_w]; rfl)
   refine pure_ (i := 2) (N := some 23) (v := ?_) (a' := ?_) #[true, true, true, false, false, false, false, false, false, false, false, false, false, false, false, false, false, false, false] rfl rfl (by kernel_rfl) (fun _ _ _ h => h) (Or.inl ⟨by rfl, ?_⟩) ?_ ?_
   rotate_left; (intro w'; go_simp; with_reducible rfl); rotate_left; (simp only [Act.put, ls_, lz_, lc_, i64_w, i32_w]; rfl)
   refine pure_ (i := 4) (N := some 25) (v := ?_) (a' := ?_) #[true, true, true, false, true, false, false, false, false, false, false, false, false, false, false, false, false, false, false] rfl rfl (by kernel_rfl) (fun _ _ _ h => h) (Or.inl ⟨by rfl, ?_⟩) ?_ ?_
   rotate_left; (intro w'; go_simp; with_reducible rfl); rotate_left; (simp only [Act.put, ls_, lz_, lc_, i64_w, i32_w]; rfl)
   refine pure_ (i := 6) (N := some 27) (v := ?_) (a' := ?_) #[true, true, true, false, true, false, true, false, false, false, false, false, false, false, false, false, false, false, false] rfl rfl (by kernel_rfl) (fun _ _ _ h => h) (Or.inl ⟨by rfl, ?_⟩) ?_ ?_
   rotate_left; (intro w'; go_simp; with_reducible rfl); rotate_left; (simp only [Act.put, ls_, lz_, lc_, i64_w, i32_w]; rfl)
   refine pure_ (i := 7) (N := some 28) (v := ?_) (a' := ?_) #[true, true, true, false, true, false, true, true, false, false, false, false, false, false, false, false, false, false, false] rfl rfl (by kernel_rfl) (fun _ _ _ h => h) (Or.inl ⟨by rfl, ?_⟩) ?_ ?_
   rotate_left; (intro w'; go_simp; with_reducible rfl); rotate_left; (simp only [Act.put, ls_, lz_, lc_, i64_w, i32_w]; rfl)
   refine pure_ (i := 8) (N := some 29) (v := ?_) (a' := ?_) #[true, true, true, false, true, false, true, true, true, false, false, false, false, false, false, false, false, false, false] rfl rfl (by kernel_rfl) (fun _ _ _ h => h) (Or.inl ⟨by rfl, ?_⟩) ?_ ?_
   rotate_left; (intro w'; go_simp; with_reducible rfl); rotate_left; (simp only [Act.put, ls_, lz_, lc_, i64_w, i32_w]; rfl)
   refine pure_ (i := 10) (N := some 31) (v := ?_) (a' := ?_) #[true, true, true, false, true, false, true, true, true, false, true, false, false, false, false, false, false, false, false] rfl rfl (by kernel_rfl) (fun _ _ _ h => h) (Or.inl ⟨by rfl, ?_⟩) ?_ ?_
   rotate_left; (intro w'; go_simp; with_reducible rfl); rotate_left; (simp only [Act.put, ls_, lz_, lc_, i64_w, i32_w]; rfl)
   refine take_ (i := 3) (N := some 24) (v := ?_) (a' := ?_) #[true, true, true, true, true, false, true, true, true, false, true, false, false, false, false, false, false, false, false] rfl rfl (by kernel_rfl) (fun _ _ _ h => h) (Or.inl ⟨by rfl, ?_⟩) hHeld ?_ ?_
   rotate_left
   ·rintro w' ⟨s0, s1, s2, s3, s4⟩
    go_simp
    with_reducible rfl
   rotate_left
   ·simp only [Act.put, ls_, lz_, lc_, i64_w, i32_w]
    rfl
   refine take_ (i := 5) (N := some 26) (v := ?_) (a' := ?_) #[true, true, true, true, true, true, true, true, true, false, true, false, false, false, false, false, false, false, false] rfl rfl (by kernel_rfl) (fun _ _ _ h => h) (Or.inl ⟨by rfl, ?_⟩) hHeld ?_ ?_
   rotate_left
   ·rintro w' ⟨s0, s1, s2, s3, s4⟩
    go_simp
    with_reducible rfl
   rotate_left
   ·simp only [Act.put, ls_, lz_, lc_, i64_w, i32_w]
    rfl
   refine take_ (i := 9) (N := some 30) (v := ?_) (a' := ?_) #[true, true, true, true, true, true, true, true, true, true, true, false, false, false, false, false, false, false, false] rfl rfl (by kernel_rfl) (fun _ _ _ h => h) (Or.inl ⟨by rfl, ?_⟩) hHeld ?_ ?_
   rotate_left
   ·rintro w' ⟨s0, s1, s2, s3, s4⟩
    go_simp
    with_reducible rfl
   rotate_left
   ·simp only [Act.put, ls_, lz_, lc_, i64_w, i32_w]
    rfl
   refine take_ (i := 11) (N := some 32) (v := ?_) (a' := ?_) #[true, true, true, true, true, true, true, true, true, true, true, true, false, false, false, false, false, false, false] rfl rfl (by kernel_rfl) (fun _ _ _ h => h) (Or.inl ⟨by rfl, ?_⟩) hHeld ?_ ?_
   rotate_left
   ·rintro w' ⟨s0, s1, s2, s3, s4⟩
    go_simp
    with_reducible rfl
   rotate_left
   ·simp only [Act.put, ls_, lz_, lc_, i64_w, i32_w]
    rfl
   refine pure_ (i := 12) (N := some 33) (v := ?_) (a' := ?_) #[true, true, true, true, true, true, true, true, true, true, true, true, true, false, false, false, false, false, false] rfl rfl (by kernel_rfl) (fun _ _ _ h => h) (Or.inl ⟨by rfl, ?_⟩) ?_ ?_
   rotate_left; (intro w'; go_simp; with_reducible rfl); rotate_left; (simp only [Act.put, ls_, lz_, lc_, i64_w, i32_w]; rfl)
   refine take_ (i := 13) (N := some 34) (v := ?_) (a' := ?_) #[true, true, true, true, true, true, true, true, true, true, true, true, true, true, false, false, false, false, false] rfl rfl (by kernel_rfl) (fun _ _ _ h => h) (Or.inl ⟨by rfl, ?_⟩) hHeld ?_ ?_
   rotate_left
   ·rintro w' ⟨s0, s1, s2, s3, s4⟩
    go_simp
    with_reducible rfl
   rotate_left
   ·simp only [Act.put, ls_, lz_, lc_, i64_w, i32_w]
    rfl
   refine take_ (i := 14) (N := some 35) (v := ?_) (a' := ?_) #[true, true, true, true, true, true, true, true, true, true, true, true, true, true, true, false, false, false, false] rfl rfl (by kernel_rfl) (fun _ _ _ h => h) (Or.inl ⟨by rfl, ?_⟩) hHeld ?_ ?_
   rotate_left
   ·rintro w' ⟨s0, s1, s2, s3, s4⟩
    go_simp
    with_reducible rfl
   rotate_left
   ·simp only [Act.put, ls_, lz_, lc_, i64_w, i32_w]
    rfl
   refine one_ (i := 15) (N := some 36) #[true, true, true, true, true, true, true, true, true, true, true, true, true, true, true, true, false, false, false] rfl rfl (by kernel_rfl) (by decide) (fun K hK => ?_)
   refine value_ (w1 := ?_) (v := ?_) (by rfl) rfl ?_ ?_
   rotate_left 2
   ·go_simp
    constructor
    ·rfl
    ·rfl
   refine hK.out _ _ ⟨pw_cell_below (ba_ (Below.refl _ _) _) hs0, pw_cell_below (ba_ (Below.refl _ _) _) hs1, pw_cell_below (ba_ (Below.refl _ _) _) hs2, pw_cell_below (ba_ (Below.refl _ _) _) hs3, pw_cell_below (ba_ (Below.refl _ _) _) hs4⟩ (fun hHeld => ?_)
   clear hK K
   refine norm_ (a' := ?_) ?_ ?_
   rotate_left
   ·show Act.put _ (some 36) _ = _
    simp only [Act.put, ls_, lz_, lc_, i64_w, i32_w]
    rfl
   refine one_ (i := 16) (N := some 37) #[true, true, true, true, true, true, true, true, true, true, true, true, true, true, true, true, true, false, false] rfl rfl (by kernel_rfl) (by decide) (fun K hK => ?_)
   refine Kd.R_append_step k36 (w0 := w) w.heap.size (by rfl) (.tmp 34) (.tmp 36) 23 36 (.agg #[.int .i64 0, .int .i64 0, .int .i64 0]) 24 rfl Try.underlying23 ln_info36 rfl (by decide) (by omega) v xs p [.int .i64 p.f0, .int .i64 j, .int .i64 p.f2] (fun _ => True) (fun _ => False) rfl rfl ?aP (fun _ hk => hk.elim) (fun _ _ => trivial) ?aO ?aB ?aS ?aL ?_
   (case aP => exact HPM.out _ _ _)
   (case aO => exact Kd.R_mono HRV.out (fun _ _ => trivial))
   (case aB => exact HB2.out)
   (case aS => exact HB2.out.size)
   (case aL => exact hxl.out)
   intro v1 w3 ho hb3 hg hat
   obtain ⟨Av, cv, hv1⟩ := Kd.R_slice ho
   have hT3 := (hg.block w.heap.size (blk_lt HLL.out.2.2.2.1) hne4).trans HLL.out.2.2.2.1
   have hc4 := grown_cell hg hs4 hne4
   have hf4 := kf_ hT3 j
   subst hv1
   refine hK.out _ _ ⟨grown_cell hg hs0 hne0, grown_cell hg hs1 hne1, grown_cell hg hs2 hne1, grown_cell hg hs3 hne1, grown_cell hg hs4 hne4⟩ (fun hHeld => ?_)
   clear hK K
   refine norm_ (a' := ?_) ?_ ?_
   rotate_left
   ·show Act.put _ (some 37) _ = _
    simp only [Act.put, ls_, lz_, lc_, i64_w, i32_w]
    rfl
   refine pure_ (i := 17) (N := some 38) (v := ?_) (a' := ?_) #[true, true, true, true, true, true, true, true, true, true, true, true, true, true, true, true, true, true, false] rfl rfl (by kernel_rfl) (fun _ _ _ h => h) (Or.inl ⟨by rfl, ?_⟩) ?_ ?_
   rotate_left; (intro w'; go_simp; with_reducible rfl); rotate_left; (simp only [Act.put, ls_, lz_, lc_, i64_w, i32_w]; rfl)
   refine last_ (i := 18) (N := none) #[true, true, true, true, true, true, true, true, true, true, true, true, true, true, true, true, true, true, true] rfl rfl (by kernel_rfl) (by decide) (fun K hK => ?_)
   refine skip_ (w1 := ?_) (by rfl) rfl ?_ ?_
   rotate_left
   ·go_simp
    rfl
   refine hK.out _ _ ?_
   clear hK K
   refine done_ (by kernel_rfl) ?_
   go_wp2
   go_roundg k
   case measure => omega
   case rel =>
    have hz := HLL.out.app hv hxs hg ho hat
    rw [← addTo_eq _ p j xs hj hxs, ← hS.out] at hz
    have hl2 : (xs ++ [p]).length = xs.length + 1 := by rw [List.length_append]; rfl
    rw [hl2] at hz
    exact ⟨i + 1, by go_num, ⟨by have := hA.out.1; omega, hb3.setCell (Nat.le_refl _) _, _, hz⟩⟩
  ·obtain rfl : i = l1.length := by omega
   have hfin := hA.out.2
   rw [List.take_length, HI.out, hgo.out] at hfin
   rw [hgo.out] at *
   go_wp2
   go_ret
   obtain ⟨hb, vs, hL⟩ := hfin
   exact ⟨g, rfl, ⟨w.heap.size, vs, hL⟩, hb⟩
theorem ln_nums_set (k : IntKind) (xs : List Int) (j : Nat) (v : Int) : (nums k xs).toArray.setIfInBounds j (.int k v) = (nums k (xs.set j v)).toArray := by
 simp [nums, List.map_set]
theorem ln_made (m : Nat) : madeCells #[Value.int .i64 0] m = (nums .i64 (List.replicate m 0)).toArray := by
 apply Array.ext
 ·simp [nums, madeCells]
 ·intro i h1 h2
  simp [nums, madeCells, Nat.mod_one]
theorem ln_R {w : World} {g base : Nat} {k : IntKind} {e : TypeId} {l : List Int} (h : w.heap[g]? = some (.cells (nums k l).toArray e (0, 0))) (hb : base ≤ g) (hl : l.length ≤ 9223372036854775807) : Kd.R (Kd.int k) e w base (fun _ => True) (.slice (some ⟨g, 0, none⟩) l.length l.length) l :=
 Kd.R_of_own ⟨by simp [encs], .inr ⟨g, l.length, (nums k l).toArray, rfl, hb, h, Nat.le_refl _, by simpa [maxLen] using hl, by simp [nums], by simp [nums, encs, List.take_of_length_le]⟩⟩ (fun _ _ => trivial)
theorem ln_cell {w : World} {g : Nat} {k : IntKind} {e : TypeId} {l : List Int} (h : w.heap[g]? = some (.cells (nums k l).toArray e (0, 0))) (j : Nat) (hj : j < l.length) : w.cell? ⟨g, j, none⟩ = some (.int k (rd l j)) := by
 rw [kc_ h j]
 unfold rd nums
 rw [List.getElem?_toArray, List.getElem?_map, Int.toNat_natCast, List.getD_eq_getElem?_getD, List.getElem?_eq_getElem hj]
 rfl
theorem ln_C (W : World) (z : Int) : Kd.C (Kd.int .i64) (W.alloc (.cells #[.int .i64 z] 3)) (some ⟨W.heap.size, 0, none⟩) 1 [z] := by
 have h : (W.alloc (.cells #[.int .i64 z] 3)).heap[W.heap.size]? = some (.cells (nums .i64 [z]).toArray 3 (0, 0)) := heap_alloc_new W _
 obtain ⟨A, c, e, _, hC⟩ := Kd.R_reads (ln_R (base := 0) h (Nat.zero_le _) (by simp))
 cases e
 exact hC
/-- A force's length of a spring. -/
def at_len (d f : Int) : Int := match spring_Length.f d f with
 | some (a, _) => a
 | none => 0
theorem at_len_some (d f : Int) : ∃ e, spring_Length.f d f = some (at_len d f, e) := by
 have h : ∃ a e, spring_Length.f d f = some (a, e) := by
  unfold spring_Length.f
  repeat' split
  all_goals exact ⟨_, _, rfl⟩
 obtain ⟨a, e, h⟩ := h
 exact ⟨e, by unfold at_len; rw [h]⟩
theorem greatest_one (a y : Int) : solve_greatest_int.f 2 a [y] = some (mx a y) := by
 have h1 : wrap64 1 = 1 := by decide +kernel
 simp [solve_greatest_int.f, solve_greatest_int.l0, rd, h1]
theorem greatest1 (a z : Int) (W : World) : Calls Try.prog 23 #[.int .i64 a, .slice (some ⟨W.heap.size, 0, none⟩) 1 1] (W.alloc (.cells #[.int .i64 z] 3)) fun e w' => e = .returned (.int .i64 (mx a z)) ∧ Below (W.alloc (.cells #[.int .i64 z] 3)).heap.size (W.alloc (.cells #[.int .i64 z] 3)) w' :=
 solve_greatest_int.calls 2 a (some ⟨W.heap.size, 0, none⟩) 1 [z] (mx a z) _ (ln_C W z) (Nat.le_refl _) (greatest_one a z)
/-- The rods to a column. -/
def at_in (xs : List Int) (rs : List S36) (x : Int) : Int := rs.foldl (fun x r => mx x (wrap64 (rd xs r.f0 + r.f2))) x
/-- Places, of which i + 1 are told. -/
def at_to (l0 : List Int) (xss : List (List S36)) (f : Int) : Nat → List Int
 | 0 => List.replicate (l0.length + 1) 0
 | i + 1 => (at_to l0 xss f i).set (i + 1) (at_in (at_to l0 xss f i) (xss.getD (i + 1) []) (wrap64 (rd (at_to l0 xss f i) i + mx 1 (at_len (rd l0 i) f))))
theorem at_to_length (l0 : List Int) (xss : List (List S36)) (f : Int) : ∀ i, (at_to l0 xss f i).length = l0.length + 1
 | 0 => by simp [at_to]
 | i + 1 => by rw [at_to, List.length_set]; exact at_to_length l0 xss f i
theorem at_in_succ (xs : List Int) (rs : List S36) (x : Int) (j : Nat) (hj : j < rs.length) : at_in xs (rs.take (j + 1)) x = mx (at_in xs (rs.take j) x) (wrap64 (rd xs (rd_T36 rs j).f0 + (rd_T36 rs j).f2)) := by
 unfold at_in
 rw [List.take_succ_eq_append_getElem hj, List.foldl_append]
 unfold rd_T36
 rw [Int.toNat_natCast, List.getD_eq_getElem?_getD, List.getElem?_eq_getElem hj]
 rfl
set_option maxHeartbeats 8000000 in
set_option maxRecDepth 100000 in
theorem solve_at.calls (base g T : Nat) (A0 : Option Addr) (c0 : Nat) (vs : List Value) (xss : List (List S36)) (l0 : List Int) (f : Int) (w : World) (hL : LLine w base g T A0 l0.length c0 (l0.length + 1) vs xss) (hr0 : Kd.C (Kd.int .i64) w A0 l0.length l0) (hn : l0.length < 4096)
  (hfrom : ∀ (k : Nat), k ≤ l0.length → ∀ (j : Nat), j < (xss.getD k []).length → 0 ≤ (rd_T36 (xss.getD k []) j).f0 ∧ (rd_T36 (xss.getD k []) j).f0 ≤ l0.length) :
  Calls Try.prog 17 #[.pointer (some ⟨g, 0, none⟩), .int .i64 f] w fun e w' => ∃ v0_ : Value, e = .returned v0_ ∧ Kd.R (Kd.int .i64) 3 w' w.heap.size (fun _ => True) v0_ (at_to l0 xss f l0.length) ∧ Below w.heap.size w w' := by
 have hmk : ∀ W : World, (Instr.makeSlice 22 (.int .i64 ((l0.length : Int) + 1)) (.int .i64 ((l0.length : Int) + 1))).run Try.prog W = .ok (.slice (some ⟨W.heap.size, 0, none⟩) (l0.length + 1) (l0.length + 1)) (W.alloc (.cells (madeCells #[.int .i64 0] (l0.length + 1)) 3)) := fun W => run_make_row' (P := Try.prog) 22 3 (.int .i64 0) 8 Try.underlying22 ln_info3 rfl .i64 .i64 (l0.length + 1) (by omega) (by omega) W
 have HL := sd_ hL
 clear hL
 have HR0 := sd_ hr0
 clear hr0
 have HF := sd_ hfrom
 clear hfrom
 have k0 : w.cell? ⟨g, 0, none⟩ = some (.slice A0 l0.length c0) := (kc_ HL.out.1 0).trans rfl
 have k1 : (w.alloc (.cells (madeCells #[.int .i64 0] (l0.length + 1)) 3)).cell? ⟨g, 0, none⟩ = some (.slice A0 l0.length c0) := pw_cell_below (ba_ (Below.refl _ _) _) k0
 go_enter Try.func17, Try.ntmps17
 go_wp2
 have hX : Aside0 ((w.alloc (.cells (madeCells #[.int .i64 0] (l0.length + 1)) 3)).heap[w.heap.size]? = some (.cells (nums .i64 (at_to l0 xss f 0)).toArray 3 (0, 0))) := ⟨by rw [at_to, ← ln_made]; exact heap_alloc_new w _⟩
 have hB : Aside0 (Below w.heap.size w (w.alloc (.cells (madeCells #[.int .i64 0] (l0.length + 1)) 3))) := ⟨ba_ (Below.refl _ _) _⟩
 generalize w.alloc (.cells (madeCells #[.int .i64 0] (l0.length + 1)) 3) = W at hX hB ⊢
 clear k0 k1 hmk
 obtain ⟨gx, hgx⟩ : ∃ gx, gx = w.heap.size := ⟨_, rfl⟩
 have HGX := sd_ hgx
 rw [← hgx] at hX ⊢
 obtain ⟨m, hm2⟩ : ∃ m, m = l0.length + 1 := ⟨_, rfl⟩
 have hgo := sd_ hm2
 have HLm : Aside0 (LLine w base g T A0 l0.length c0 m vs xss) := ⟨by rw [hm2]; exact HL.out⟩
 rw [← hm2]
 clear hgx hm2
 go_loopg [25] l0.length (fun k v25 wr => ∃ i : Nat, v25 = .int .i64 i ∧ Aside0 (k + i = l0.length ∧ Below w.heap.size w wr ∧ wr.heap[gx]? = some (.cells (nums .i64 (at_to l0 xss f i)).toArray 3 (0, 0))))
 case atStart => exact ⟨0, rfl, ⟨by omega, hB.out, hX.out⟩⟩
 case round =>
  clear hX hB
  obtain ⟨i, rfl, hA⟩ := hrel
  have hi : i ≤ l0.length := by have := hA.out.1; omega
  by_cases hlt : i < l0.length
  ·obtain ⟨k, rfl⟩ : ∃ k, gk = k + 1 := ⟨gk - 1, by have := hA.out.1; omega⟩
   obtain ⟨ad, e, hx0⟩ := Kd.at_int HR0.out (i : Int) (by omega) (by omega)
   cases e
   replace hx0 := pw_cell_below hA.out.2.1 hx0
   simp only [Int.toNat_natCast] at hx0
   have hS := sd_ (show at_to l0 xss f (i + 1) = (at_to l0 xss f i).set (i + 1) (at_in (at_to l0 xss f i) (xss.getD (i + 1) []) (wrap64 (rd (at_to l0 xss f i) i + mx 1 (at_len (rd l0 i) f)))) from rfl)
   obtain ⟨ee, hle⟩ := at_len_some (rd l0 (i : Int)) f
   generalize rd l0 (i : Int) = d at hx0 hS hle
   have hxl := sd_ (at_to_length l0 xss f i)
   have HX := sd_ hA.out.2.2
   have HB := sd_ hA.out.2.1
   generalize at_to l0 xss f i = X at HX hS hxl
   have c5 := sd_ (fun W => spring_Length.calls d f (at_len d f) ee W hle)
   generalize at_len d f = z at c5 hS
   clear hle
   have hK := hA.out.1
   clear hA
   go_wp2_with (go_at_call 22; refine (c5.out _).mono ?_; rintro e w3 ⟨rfl, hd⟩)
   have HX3 := sd_ (show w3.heap[gx]? = some (.cells (nums .i64 X).toArray 3 (0, 0)) by obtain ⟨q, rfl⟩ := hd.out; exact blk_drewN HX.out q)
   have HB3 := sd_ (show Below w.heap.size w w3 by obtain ⟨q, rfl⟩ := hd.out; exact pd_ HB.out q)
   clear hd hx0 HX HB c5
   generalize w3 = W1 at HX3 HB3 ⊢
   have hs0 : W1.drew.cell? ⟨gx, i, none⟩ = some (.int .i64 (rd X i)) := ln_cell HX3.out i (by have := hxl.out; omega)
   have HX4 : Aside0 (W1.drew.heap[gx]? = some (.cells (nums .i64 X).toArray 3 (0, 0))) := ⟨HX3.out⟩
   have HB4 : Aside0 (Below w.heap.size w W1.drew) := ⟨below_drew HB3.out⟩
   clear HX3 HB3
   have hi0 : decide ((0 : Int) ≤ (i : Int)) = true := dt_ (by omega)
   have hi1 : decide ((i : Int) < (m : Int)) = true := dt_ (by have := hgo.out; omega)
   generalize rd X (i : Int) = y at hs0 hS
   have hi2 : i < m := by have := hgo.out; omega
   refine start_ (n := 9) (S := fun w' => w'.cell? ⟨gx, i, none⟩ = some (.int .i64 y)) (ds := []) #[false, false, false, false, false, false, false, false, false] (by kernel_rfl) rfl rfl (hs0) (fun hHeld => ?_)
   generalize W1.drew = W2 at *
   refine pure_ (i := 0) (N := some 36) (v := ?_) (a' := ?_) #[true, false, false, false, false, false, false, false, false] rfl rfl (by kernel_rfl) (fun _ _ _ h => h) (Or.inl ⟨by rfl, ?_⟩) ?_ ?_
   rotate_left; (intro w'; go_simp; with_reducible rfl); rotate_left; (simp only [Act.put, ls_, lz_, lc_, i64_w, i32_w]; rfl)
   refine pure_ (i := 1) (N := some 37) (v := ?_) (a' := ?_) #[true, true, false, false, false, false, false, false, false] rfl rfl (by kernel_rfl) (fun _ _ _ h => h) (Or.inl ⟨by rfl, ?_⟩) ?_ ?_
   rotate_left; (intro w'; go_simp; with_reducible rfl); rotate_left; (simp only [Act.put, ls_, lz_, lc_, i64_w, i32_w]; rfl)
   refine pure_ (i := 2) (N := some 38) (v := ?_) (a' := ?_) #[true, true, true, false, false, false, false, false, false] rfl rfl (by kernel_rfl) (fun _ _ _ h => h) (Or.inl ⟨by rfl, ?_⟩) ?_ ?_
   rotate_left; (intro w'; go_simp; with_reducible rfl); rotate_left; (simp only [Act.put, ls_, lz_, lc_, i64_w, i32_w]; rfl)
   refine pure_ (i := 4) (N := some 40) (v := ?_) (a' := ?_) #[true, true, true, false, true, false, false, false, false] rfl rfl (by kernel_rfl) (fun _ _ _ h => h) (Or.inl ⟨by rfl, ?_⟩) ?_ ?_
   rotate_left; (intro w'; go_simp; with_reducible rfl); rotate_left; (simp only [Act.put, ls_, lz_, lc_, i64_w, i32_w]; rfl)
   refine take_ (i := 3) (N := some 39) (v := ?_) (a' := ?_) #[true, true, true, true, true, false, false, false, false] rfl rfl (by kernel_rfl) (fun _ _ _ h => h) (Or.inl ⟨by rfl, ?_⟩) hHeld ?_ ?_
   rotate_left
   ·intro w' s0
    go_simp
    with_reducible rfl
   rotate_left
   ·simp only [Act.put, ls_, lz_, lc_, i64_w, i32_w]
    rfl
   refine one_ (i := 5) (N := some 41) #[true, true, true, true, true, true, false, false, false] rfl rfl (by kernel_rfl) (by decide) (fun K hK => ?_)
   refine value_ (w1 := ?_) (v := ?_) (by rfl) rfl ?_ ?_
   rotate_left 2
   ·go_simp
    constructor
    ·rfl
    ·rfl
   refine hK.out _ _ (pw_cell_below (ba_ (Below.refl _ _) _) hs0) (fun hHeld => ?_)
   clear hK K
   refine norm_ (a' := ?_) ?_ ?_
   rotate_left
   ·show Act.put _ (some 41) _ = _
    simp only [Act.put, ls_, lz_, lc_, i64_w, i32_w]
    rfl
   refine one_ (i := 6) (N := some 42) #[true, true, true, true, true, true, true, false, false] rfl rfl (by kernel_rfl) (by decide) (fun K hK => ?_)
   refine goes_ Try.func23 (by kernel_rfl) rfl #[.int .i64 1, .slice (some ⟨W2.heap.size, 0, none⟩) 1 1] (by rfl) rfl rfl (by simp only [lm_, lq_, lx_]; rfl) ?_
   with_reducible refine (greatest1 1 z W2).mono ?_
   rintro e w4 ⟨rfl, hb4⟩
   refine ⟨_, rfl, ?_⟩
   refine hK.out _ _ (pw_cell_below hb4 (pw_cell_below (ba_ (Below.refl _ _) _) hs0)) (fun hHeld => ?_)
   clear hK K
   refine norm_ (a' := ?_) ?_ ?_
   rotate_left
   ·show Act.put _ (some 42) _ = _
    simp only [Act.put, ls_, lz_, lc_, i64_w, i32_w]
    rfl
   refine pure_ (i := 7) (N := some 43) (v := ?_) (a' := ?_) #[true, true, true, true, true, true, true, true, false] rfl rfl (by kernel_rfl) (fun _ _ _ h => h) (Or.inl ⟨by rfl, ?_⟩) ?_ ?_
   rotate_left; (intro w'; go_simp; with_reducible rfl); rotate_left; (simp only [Act.put, ls_, lz_, lc_, i64_w, i32_w]; rfl)
   refine pure_ (i := 8) (N := some 10) (v := ?_) (a' := ?_) #[true, true, true, true, true, true, true, true, true] rfl rfl (by kernel_rfl) (fun _ _ _ h => h) (Or.inl ⟨by rfl, ?_⟩) ?_ ?_
   rotate_left; (intro w'; go_simp; with_reducible rfl); rotate_left; (simp only [Act.put, ls_, lz_, lc_, i64_w, i32_w]; rfl)
   refine done_ (by kernel_rfl) ?_
   have HB5 := sd_ (show Below w.heap.size w w4 from below_then (below_then HB4.out HB4.out.size (ba_ (Below.refl _ _) _)) (Nat.le_trans HB4.out.size (ba_ (Below.refl W2.heap.size W2) _).size) hb4)
   have HX5 := sd_ (show w4.heap[gx]? = some (.cells (nums .i64 X).toArray 3 (0, 0)) from (hb4.block gx (Nat.lt_of_lt_of_le (blk_lt HX4.out) (ba_ (Below.refl W2.heap.size W2) _).size)).trans (((ba_ (Below.refl W2.heap.size W2) _).block gx (blk_lt HX4.out)).trans HX4.out))
   clear hb4 HB4 HX4 hHeld hs0 hi0 hi1 hi2
   have HL4 := sd_ (HLm.out.below HB5.out)
   obtain ⟨v, hv⟩ : ∃ v, vs[i + 1]? = some v := ⟨vs[i + 1]'(by have := HL4.out.2.2.1; have := hgo.out; omega), List.getElem?_eq_getElem _⟩
   have hrs : xss[i + 1]? = some (xss.getD (i + 1) []) := by
    rw [List.getD_eq_getElem?_getD, List.getElem?_eq_getElem (by have := HL4.out.2.2.1; have := HL4.out.2.2.2.2.2.1; have := hgo.out; omega)]
    rfl
   have hfr := sd_ (HF.out (i + 1) (by omega))
   generalize xss.getD (i + 1) [] = rs at hrs hfr hS
   obtain ⟨Ar, cr, hvr, hcr, hC⟩ := Kd.R_reads (HL4.out.2.2.2.2.2.2.1 (i + 1) v rs hv hrs)
   have k1 : w4.cell? ⟨g, 1, none⟩ = some (.slice (some ⟨T, 0, none⟩) m m) := (kc_ HL4.out.1 1).trans rfl
   have k2 : w4.cell? ⟨T, i + 1, none⟩ = some (.slice Ar rs.length cr) := by rw [kc_ HL4.out.2.2.2.1 (i + 1), List.getElem?_toArray, hv, hvr]
   have HCR := sd_ hC
   clear hC hvr hv hrs
   have hrl : rs.length ≤ 9223372036854775807 := HCR.out.2.1
   have hi3 : i + 1 < m := by have := hgo.out; omega
   generalize wrap64 (y + mx 1 z) = x0 at hS ⊢
   go_wp2
   clear k1 k2
   have HRC := sd_ (Kd.C_below HCR.out (Below.refl w4.heap.size w4))
   go_loopg [10, 53] rs.length (fun kk v10 v53 wr => ∃ j : Nat, v53 = .int .i64 j ∧ v10 = .int .i64 (at_in X (rs.take j) x0) ∧ Aside0 (kk + j = rs.length ∧ Below w4.heap.size w4 wr))
   case atStart => exact ⟨0, rfl, rfl, ⟨by omega, Below.refl _ _⟩⟩
   case round =>
    obtain ⟨j, rfl, rfl, hA⟩ := hrel
    have hj : j ≤ rs.length := by have := hA.out.1; omega
    by_cases hlt2 : j < rs.length
    ·obtain ⟨kk, rfl⟩ : ∃ kk, gk = kk + 1 := ⟨gk - 1, by have := hA.out.1; omega⟩
     obtain ⟨ad2, e, hx0, hx1, hx2⟩ := at_T36 HCR.out (j : Int) (by omega) (by omega)
     cases e
     replace hx0 := pw_cell_below hA.out.2 hx0
     replace hx1 := pw_cell_below hA.out.2 hx1
     replace hx2 := pw_cell_below hA.out.2 hx2
     simp only [Int.toNat_natCast] at hx0 hx1 hx2
     have hS2 := sd_ (at_in_succ X rs x0 j hlt2)
     have hfj := hfr.out j hlt2
     generalize rd_T36 rs (j : Int) = p at hx0 hx1 hx2 hS2 hfj
     obtain ⟨q, hq⟩ : ∃ q : Nat, p.f0 = (q : Int) := ⟨p.f0.toNat, by omega⟩
     rw [hq] at hx0 hS2 hfj
     have hqm : q < m := by have := hgo.out; omega
     generalize at_in X (rs.take j) x0 = x at hS2 ⊢
     have hK2 := hA.out.1
     have HBr := sd_ hA.out.2
     clear hA
     go_wp2
     clear hx0 hx1 hx2
     have HBn : Aside0 (Below w4.heap.size w4 (wr.alloc (Obj.cells #[Value.int IntKind.i64 (q : Int), Value.int IntKind.i64 p.f1, Value.int IntKind.i64 p.f2] 36)).drew) := ⟨below_drew (ba_ HBr.out _)⟩
     have hr : Aside0 ((wr.alloc (Obj.cells #[Value.int IntKind.i64 (q : Int), Value.int IntKind.i64 p.f1, Value.int IntKind.i64 p.f2] 36)).drew.heap[wr.heap.size]? = some (.cells #[Value.int IntKind.i64 (q : Int), Value.int IntKind.i64 p.f1, Value.int IntKind.i64 p.f2] 36 (0, 0))) := ⟨heap_alloc_new wr _⟩
     generalize wr.alloc (Obj.cells #[Value.int IntKind.i64 (q : Int), Value.int IntKind.i64 p.f1, Value.int IntKind.i64 p.f2] 36) = W1 at HBn hr ⊢
     have HXr := sd_ ((HBn.out.block gx (blk_lt HX5.out)).trans HX5.out)
     have hs0 : W1.drew.cell? ⟨wr.heap.size, 0, none⟩ = some (.int .i64 q) := (kc_ hr.out 0).trans rfl
     have hs1 : W1.drew.cell? ⟨wr.heap.size, 2, none⟩ = some (.int .i64 p.f2) := (kc_ hr.out 2).trans rfl
     have hs2 : W1.drew.cell? ⟨gx, q, none⟩ = some (.int .i64 (rd X q)) := ln_cell HXr.out q (by have := hxl.out; have := hgo.out; omega)
     generalize wr.heap.size = gr at *
     generalize rd X (q : Int) = y2 at hs2 hS2
     have hi0 : decide ((0 : Int) ≤ (q : Int)) = true := dt_ (by omega)
     refine start_ (n := 12) (S := fun w' => w'.cell? ⟨gr, 0, none⟩ = some (.int .i64 q) ∧ w'.cell? ⟨gr, 2, none⟩ = some (.int .i64 p.f2) ∧ w'.cell? ⟨gx, q, none⟩ = some (.int .i64 y2)) (ds := []) #[false, false, false, false, false, false, false, false, false, false, false, false] (by kernel_rfl) rfl rfl ⟨hs0, hs1, hs2⟩ (fun hHeld => ?_)
     generalize W1.drew = W2 at *
     refine pure_ (i := 0) (N := some 57) (v := ?_) (a' := ?_) #[true, false, false, false, false, false, false, false, false, false, false, false] rfl rfl (by kernel_rfl) (fun _ _ _ h => h) (Or.inl ⟨by rfl, ?_⟩) ?_ ?_
     rotate_left; (intro w'; go_simp; with_reducible rfl); rotate_left; (simp only [Act.put, ls_, lz_, lc_, i64_w, i32_w]; rfl)
     refine pure_ (i := 1) (N := some 58) (v := ?_) (a' := ?_) #[true, true, false, false, false, false, false, false, false, false, false, false] rfl rfl (by kernel_rfl) (fun _ _ _ h => h) (Or.inl ⟨by rfl, ?_⟩) ?_ ?_
     rotate_left; (intro w'; go_simp; with_reducible rfl); rotate_left; (simp only [Act.put, ls_, lz_, lc_, i64_w, i32_w]; rfl)
     refine pure_ (i := 2) (N := some 59) (v := ?_) (a' := ?_) #[true, true, true, false, false, false, false, false, false, false, false, false] rfl rfl (by kernel_rfl) (fun _ _ _ h => h) (Or.inl ⟨by rfl, ?_⟩) ?_ ?_
     rotate_left; (intro w'; go_simp; with_reducible rfl); rotate_left; (simp only [Act.put, ls_, lz_, lc_, i64_w, i32_w]; rfl)
     refine pure_ (i := 6) (N := some 63) (v := ?_) (a' := ?_) #[true, true, true, false, false, false, true, false, false, false, false, false] rfl rfl (by kernel_rfl) (fun _ _ _ h => h) (Or.inl ⟨by rfl, ?_⟩) ?_ ?_
     rotate_left; (intro w'; go_simp; with_reducible rfl); rotate_left; (simp only [Act.put, ls_, lz_, lc_, i64_w, i32_w]; rfl)
     refine take_ (i := 3) (N := some 60) (v := ?_) (a' := ?_) #[true, true, true, true, false, false, true, false, false, false, false, false] rfl rfl (by kernel_rfl) (fun _ _ _ h => h) (Or.inl ⟨by rfl, ?_⟩) hHeld ?_ ?_
     rotate_left
     ·rintro w' ⟨s0, s1, s2⟩
      go_simp
      with_reducible rfl
     rotate_left
     ·simp only [Act.put, ls_, lz_, lc_, i64_w, i32_w]
      rfl
     refine pure_ (i := 4) (N := some 61) (v := ?_) (a' := ?_) #[true, true, true, true, true, false, true, false, false, false, false, false] rfl rfl (by kernel_rfl) (fun _ _ _ h => h) (Or.inl ⟨by rfl, ?_⟩) ?_ ?_
     rotate_left; (intro w'; go_simp; with_reducible rfl); rotate_left; (simp only [Act.put, ls_, lz_, lc_, i64_w, i32_w]; rfl)
     refine take_ (i := 5) (N := some 62) (v := ?_) (a' := ?_) #[true, true, true, true, true, true, true, false, false, false, false, false] rfl rfl (by kernel_rfl) (fun _ _ _ h => h) (Or.inl ⟨by rfl, ?_⟩) hHeld ?_ ?_
     rotate_left
     ·rintro w' ⟨s0, s1, s2⟩
      go_simp
      with_reducible rfl
     rotate_left
     ·simp only [Act.put, ls_, lz_, lc_, i64_w, i32_w]
      rfl
     refine take_ (i := 7) (N := some 64) (v := ?_) (a' := ?_) #[true, true, true, true, true, true, true, true, false, false, false, false] rfl rfl (by kernel_rfl) (fun _ _ _ h => h) (Or.inl ⟨by rfl, ?_⟩) hHeld ?_ ?_
     rotate_left
     ·rintro w' ⟨s0, s1, s2⟩
      go_simp
      with_reducible rfl
     rotate_left
     ·simp only [Act.put, ls_, lz_, lc_, i64_w, i32_w]
      rfl
     refine pure_ (i := 8) (N := some 65) (v := ?_) (a' := ?_) #[true, true, true, true, true, true, true, true, true, false, false, false] rfl rfl (by kernel_rfl) (fun _ _ _ h => h) (Or.inl ⟨by rfl, ?_⟩) ?_ ?_
     rotate_left; (intro w'; go_simp; with_reducible rfl); rotate_left; (simp only [Act.put, ls_, lz_, lc_, i64_w, i32_w]; rfl)
     refine one_ (i := 9) (N := some 66) #[true, true, true, true, true, true, true, true, true, true, false, false] rfl rfl (by kernel_rfl) (by decide) (fun K hK => ?_)
     refine value_ (w1 := ?_) (v := ?_) (by rfl) rfl ?_ ?_
     rotate_left 2
     ·go_simp
      constructor
      ·rfl
      ·rfl
     refine hK.out _ _ ⟨pw_cell_below (ba_ (Below.refl _ _) _) hs0, pw_cell_below (ba_ (Below.refl _ _) _) hs1, pw_cell_below (ba_ (Below.refl _ _) _) hs2⟩ (fun hHeld => ?_)
     clear hK K
     refine norm_ (a' := ?_) ?_ ?_
     rotate_left
     ·show Act.put _ (some 66) _ = _
      simp only [Act.put, ls_, lz_, lc_, i64_w, i32_w]
      rfl
     refine one_ (i := 10) (N := some 67) #[true, true, true, true, true, true, true, true, true, true, true, false] rfl rfl (by kernel_rfl) (by decide) (fun K hK => ?_)
     refine goes_ Try.func23 (by kernel_rfl) rfl #[.int .i64 x, .slice (some ⟨W2.heap.size, 0, none⟩) 1 1] (by rfl) rfl rfl (by simp only [lm_, lq_, lx_]; rfl) ?_
     with_reducible refine (greatest1 x (wrap64 (y2 + p.f2)) W2).mono ?_
     rintro e w5 ⟨rfl, hb4⟩
     refine ⟨_, rfl, ?_⟩
     refine hK.out _ _ ⟨pw_cell_below hb4 (pw_cell_below (ba_ (Below.refl _ _) _) hs0), pw_cell_below hb4 (pw_cell_below (ba_ (Below.refl _ _) _) hs1), pw_cell_below hb4 (pw_cell_below (ba_ (Below.refl _ _) _) hs2)⟩ (fun hHeld => ?_)
     clear hK K
     refine norm_ (a' := ?_) ?_ ?_
     rotate_left
     ·show Act.put _ (some 67) _ = _
      simp only [Act.put, ls_, lz_, lc_, i64_w, i32_w]
      rfl
     refine pure_ (i := 11) (N := some 10) (v := ?_) (a' := ?_) #[true, true, true, true, true, true, true, true, true, true, true, true] rfl rfl (by kernel_rfl) (fun _ _ _ h => h) (Or.inl ⟨by rfl, ?_⟩) ?_ ?_
     rotate_left; (intro w'; go_simp; with_reducible rfl); rotate_left; (simp only [Act.put, ls_, lz_, lc_, i64_w, i32_w]; rfl)
     refine done_ (by kernel_rfl) ?_
     have hb5 := sd_ (show Below w4.heap.size w4 w5 from below_then (below_then HBn.out HBn.out.size (ba_ (Below.refl _ _) _)) (Nat.le_trans HBn.out.size (ba_ (Below.refl W2.heap.size W2) _).size) hb4)
     go_wp2
     go_roundg kk
     case measure => omega
     case rel => exact ⟨j + 1, by go_num, by rw [hS2.out], ⟨by omega, hb5.out⟩⟩
    ·obtain rfl : j = rs.length := by omega
     rw [List.take_length]
     have HXe := sd_ ((hA.out.2.block gx (blk_lt HX5.out)).trans HX5.out)
     have HBe := sd_ (below_then HB5.out HB5.out.size hA.out.2)
     generalize at_in X rs x0 = xv at hS ⊢
     obtain ⟨u0, hu0⟩ : ∃ u, wr.cell? ⟨gx, i + 1, none⟩ = some u := ⟨_, ln_cell HXe.out (i + 1) (by have := hxl.out; omega)⟩
     have hf0 := kf_ HXe.out (i + 1)
     clear hA
     go_wp2
     go_roundg k
     case measure => omega
     case rel =>
      refine ⟨i + 1, by go_num, ⟨by omega, bs_ HBe.out (by have := HGX.out; omega), ?_⟩⟩
      rw [hS.out, ← ln_nums_set]
      exact blk_set HXe.out (i + 1) _
  ·obtain rfl : i = l0.length := by omega
   have hfin := hA.out.2
   clear hA
   go_wp2
   go_ret
   refine ⟨_, rfl, ?_, hfin.1⟩
   have hz := ln_R (base := w.heap.size) hfin.2 (by have := HGX.out; omega) (by rw [at_to_length]; omega)
   rw [at_to_length, ← hgo.out] at hz
   exact hz
/-- A line that may be, in memory. -/
def LineAt (w : World) (base g : Nat) (l0 : List Int) (xss : List (List S36)) : Prop :=
 ∃ T A0 c0 vs, LLine w base g T A0 l0.length c0 (l0.length + 1) vs xss ∧ Kd.C (Kd.int .i64) w A0 l0.length l0 ∧ l0.length < 4096 ∧
  ∀ (k : Nat), k ≤ l0.length → ∀ (j : Nat), j < (xss.getD k []).length → 0 ≤ (rd_T36 (xss.getD k []) j).f0 ∧ (rd_T36 (xss.getD k []) j).f0 ≤ l0.length
theorem LineAt.below {w w1 : World} {base g : Nat} {l0 : List Int} {xss : List (List S36)} (h : LineAt w base g l0 xss) (hb : Below w.heap.size w w1) : LineAt w1 base g l0 xss := by
 obtain ⟨T, A0, c0, vs, h1, h2, h3, h4⟩ := h
 exact ⟨T, A0, c0, vs, h1.below hb, Kd.C_below h2 hb, h3, h4⟩
theorem LineAt.at_ {w : World} {base g : Nat} {l0 : List Int} {xss : List (List S36)} (h : LineAt w base g l0 xss) (f : Int) :
  Calls Try.prog 17 #[.pointer (some ⟨g, 0, none⟩), .int .i64 f] w fun e w' => ∃ v0_ : Value, e = .returned v0_ ∧ Kd.R (Kd.int .i64) 3 w' w.heap.size (fun _ => True) v0_ (at_to l0 xss f l0.length) ∧ Below w.heap.size w w' := by
 obtain ⟨T, A0, c0, vs, h1, h2, h3, h4⟩ := h
 exact solve_at.calls base g T A0 c0 vs xss l0 f w h1 h2 h3 h4
/-- The last place by a force. -/
def at_end (l0 : List Int) (xss : List (List S36)) (f : Int) : Int := rd (at_to l0 xss f l0.length) l0.length
set_option maxHeartbeats 2000000 in
set_option maxRecDepth 100000 in
theorem LineAt.end_ {w : World} {base g : Nat} {l0 : List Int} {xss : List (List S36)} (h : LineAt w base g l0 xss) (f : Int) :
  Calls Try.prog 15 #[.pointer (some ⟨g, 0, none⟩), .int .i64 f] w fun e w' => e = .returned (.int .i64 (at_end l0 xss f)) ∧ Below w.heap.size w w' := by
 have hc := sd_ (h.at_ f)
 have hn : l0.length < 4096 := by obtain ⟨_, _, _, _, _, _, h3, _⟩ := h; exact h3
 clear h
 have HE := sd_ (show rd (at_to l0 xss f l0.length) l0.length = at_end l0 xss f from rfl)
 have hl := at_to_length l0 xss f l0.length
 generalize at_to l0 xss f l0.length = X at hc HE hl
 have hc2 := sd_ (hc.out.mono (R' := fun e w3 => ∃ ad c, e = .returned (.slice (some ad) (l0.length + 1) c) ∧ w3.cell? (ad.add l0.length) = some (.int .i64 (at_end l0 xss f)) ∧ Below w.heap.size w w3) (by
  rintro e w3 ⟨v, rfl, hR, hb⟩
  obtain ⟨A, c, rfl, hcc, hC⟩ := Kd.R_reads hR
  obtain ⟨ad, e, hx0⟩ := Kd.at_int hC (l0.length : Int) (by omega) (by omega)
  cases e
  simp only [Int.toNat_natCast] at hx0
  rw [HE.out] at hx0
  rw [hl]
  exact ⟨ad, c, rfl, hx0, hb⟩))
 clear hc HE hl
 go_enter Try.func15, Try.ntmps15
 go_wp2_with (go_at_call 17; refine hc2.out.mono ?_; rintro e w3 ⟨ad, c, rfl, hx0, hb⟩; have HB := sd_ hb; clear hb)
 go_wp2
 go_ret
 exact ⟨rfl, HB.out⟩
/-- The search for the greatest force that fits. -/
def fits_go (E : Int → Int) (wd : Int) : Nat → Int → Int → Int
 | 0, low, _ => low
 | k + 1, low, high => if low < high then (if E (low + (high - low + 1) / 2) ≤ wd then fits_go E wd k (low + (high - low + 1) / 2) high else fits_go E wd k low (low + (high - low + 1) / 2 - 1)) else low
set_option maxHeartbeats 4000000 in
set_option maxRecDepth 1000000 in
theorem LineAt.fits_ {w : World} {base g : Nat} {l0 : List Int} {xss : List (List S36)} (h : LineAt w base g l0 xss) (wd high : Int) (h1 : -1024 ≤ high) (h2 : high ≤ 8192) :
  Calls Try.prog 16 #[.pointer (some ⟨g, 0, none⟩), .int .i64 wd, .int .i64 high] w fun e w' => e = .returned (.int .i64 (fits_go (at_end l0 xss) wd 9217 (-1024) high)) ∧ Below w.heap.size w w' := by
 have HC := sd_ (fun (W : World) (hb : Below w.heap.size w W) (f : Int) => (h.below hb).end_ f)
 clear h
 obtain ⟨R, hR⟩ : ∃ R, fits_go (at_end l0 xss) wd 9217 (-1024) high = R := ⟨_, rfl⟩
 rw [hR]
 go_enter Try.func16, Try.ntmps16
 go_wp2
 refine wp_scope_jumps 0 (fun a' w' => Below w.heap.size w w' ∧ ∃ (k : Nat) (low hi : Int) (u8 u9 u10 u11 u12 u13 u14 u15 u16 u17 u18 u19 u20 u21 u22 u23 u24 u25 u26 : Value), a' = { tmps := #[.pointer (some ⟨g, 0, none⟩), .int .i64 wd, .int .i64 hi, undef, undef, undef, .int .i64 0, .int .i64 low, u8, u9, u10, u11, u12, u13, u14, u15, u16, u17, u18, u19, u20, u21, u22, u23, u24, u25, u26, undef], defers := [] } ∧ hi - low ≤ k ∧ -1024 ≤ low ∧ low ≤ hi ∧ hi ≤ 8192 ∧ fits_go (at_end l0 xss) wd k low hi = R) (fun a' _ => (intOf (a'.tmps.getD 2 undef) - intOf (a'.tmps.getD 7 undef)).toNat) rfl ?_ ?_
 ·go_wp2
  go_step3
  have hspec : Aside0 (fits_go (at_end l0 xss) wd 9217 (-1024) high = R) := ⟨hR⟩
  clear hR
  have hbw := sd_ (Below.refl w.heap.size w)
  obtain ⟨low, hlow⟩ : ∃ low : Int, low = -1024 := ⟨_, rfl⟩
  rw [← hlow] at hspec ⊢
  obtain ⟨k, hk⟩ : ∃ k : Nat, k = 9217 := ⟨_, rfl⟩
  rw [← hk] at hspec
  have g1 : high - low ≤ k := by omega
  have g2 : -1024 ≤ low := by omega
  have g3 : low ≤ high := by omega
  clear hlow hk
  generalize high = hi at *
  by_cases c : low < hi
  ·obtain ⟨k', rfl⟩ : ∃ k', k = k' + 1 := ⟨k - 1, by omega⟩
   have hspec' := sd_ (show (if at_end l0 xss (low + (hi - low + 1) / 2) ≤ wd then fits_go (at_end l0 xss) wd k' (low + (hi - low + 1) / 2) hi else fits_go (at_end l0 xss) wd k' low (low + (hi - low + 1) / 2 - 1)) = R by rw [← hspec.out, fits_go, if_pos c])
   clear hspec
   go_wp2_with (go_at_call 15; refine (HC.out _ hbw.out _).mono ?_; rintro e w3 ⟨rfl, hb⟩)
   ·rename_i hc
    go_step3
    have hz := hspec'.out
    rw [if_pos hc] at hz
    exact ⟨rfl, below_then hbw.out hbw.out.size hb, k', _, _, _, _, _, _, _, _, _, _, _, _, _, _, _, _, _, _, _, _, _, rfl, by omega, by omega, by omega, by omega, hz⟩
   ·rename_i hc
    go_step3
    have hz := hspec'.out
    rw [if_neg (by omega)] at hz
    exact ⟨rfl, below_then hbw.out hbw.out.size hb, k', _, _, _, _, _, _, _, _, _, _, _, _, _, _, _, _, _, _, _, _, _, rfl, by omega, by omega, by omega, by omega, hz⟩
  ·obtain rfl : low = hi := by omega
   have hR2 : low = R := by rw [← hspec.out]; cases k with
    | zero => rfl
    | succ k => rw [fits_go, if_neg c]
   clear hspec
   go_wp2
   simp only [Exit.jump]
   go_ret
   exact ⟨rfl, hbw.out⟩
 ·rintro a' w' ⟨hbw0, k, low, hi, u8, u9, u10, u11, u12, u13, u14, u15, u16, u17, u18, u19, u20, u21, u22, u23, u24, u25, u26, rfl, g1, g2, g3, h3, hspec0⟩
  have hspec := sd_ hspec0
  clear hspec0 hR h1 h2
  have hbw := sd_ hbw0
  clear hbw0
  by_cases c : low < hi
  ·obtain ⟨k', rfl⟩ : ∃ k', k = k' + 1 := ⟨k - 1, by omega⟩
   have hspec' := sd_ (show (if at_end l0 xss (low + (hi - low + 1) / 2) ≤ wd then fits_go (at_end l0 xss) wd k' (low + (hi - low + 1) / 2) hi else fits_go (at_end l0 xss) wd k' low (low + (hi - low + 1) / 2 - 1)) = R by rw [← hspec.out, fits_go, if_pos c])
   clear hspec
   go_wp2_with (go_at_call 15; refine (HC.out _ hbw.out _).mono ?_; rintro e w3 ⟨rfl, hb⟩)
   ·rename_i hc
    go_step3
    have hz := hspec'.out
    rw [if_pos hc] at hz
    exact ⟨rfl, ⟨below_then hbw.out hbw.out.size hb, k', _, _, _, _, _, _, _, _, _, _, _, _, _, _, _, _, _, _, _, _, _, rfl, by omega, by omega, by omega, by omega, hz⟩, by simp [intOf]; omega⟩
   ·rename_i hc
    go_step3
    have hz := hspec'.out
    rw [if_neg (by omega)] at hz
    exact ⟨rfl, ⟨below_then hbw.out hbw.out.size hb, k', _, _, _, _, _, _, _, _, _, _, _, _, _, _, _, _, _, _, _, _, _, rfl, by omega, by omega, by omega, by omega, hz⟩, by simp [intOf]; omega⟩
  ·obtain rfl : low = hi := by omega
   have hR2 : low = R := by rw [← hspec.out]; cases k with
    | zero => rfl
    | succ k => rw [fits_go, if_neg c]
   clear hspec
   go_wp2
   simp only [Exit.jump]
   go_ret
   exact ⟨rfl, hbw.out⟩
def RodOk (r : S36) (c : Int) : Prop := 0 ≤ r.f0 ∧ r.f0 < r.f1 ∧ r.f1 < c ∧ 1 ≤ r.f2 ∧ r.f2 ≤ 1073741824
theorem rod_loop (l : List S36) (hl : l.length ≤ 400000) (c : Int) : ∀ (k : Nat) (i : Int), 0 ≤ i → rod_Check.l0 k c l l.length i = some true → ∀ j : Nat, i ≤ j → j < l.length → RodOk (rd_T36 l j) c
 | 0, _, _, h => by simp [rod_Check.l0] at h
 | k + 1, i, hi, h => by
  intro j hij hj
  have h1 : i < (l.length : Int) := by omega
  rw [rod_Check.l0, if_pos h1, if_pos hi, if_pos h1] at h
  by_cases c1 : (rd_T36 l i).f0 < 0
  ·rw [if_pos c1] at h; simp at h
  rw [if_neg c1] at h
  by_cases c2 : (rd_T36 l i).f1 ≤ (rd_T36 l i).f0
  ·rw [if_pos c2] at h; simp at h
  rw [if_neg c2] at h
  by_cases c3 : (rd_T36 l i).f1 ≥ c
  ·rw [if_pos c3] at h; simp at h
  rw [if_neg c3] at h
  unfold rod_within.f at h
  by_cases c4 : 1 ≤ (rd_T36 l i).f2
  ·rw [if_pos c4] at h
   by_cases c5 : (rd_T36 l i).f2 ≤ 1073741824
   ·rw [dt_ c5, Option.bind_some, if_pos rfl] at h
    by_cases e : i = j
    ·rw [e] at c1 c2 c3 c4 c5
     exact ⟨by omega, by omega, by omega, c4, c5⟩
    ·have hw : wrap64 (i + 1) = i + 1 := by unfold wrap64; omega
     rw [hw] at h
     exact rod_loop l hl c k (i + 1) (by omega) h j (by omega) hj
   ·rw [df_ c5, Option.bind_some] at h; simp at h
  ·rw [if_neg c4, Option.bind_some] at h; simp at h
theorem rod_Check_true {k : Nat} {l : List S36} {c : Int} (h : rod_Check.f k l c = some true) : l.length ≤ 400000 ∧ ∀ j : Nat, j < l.length → RodOk (rd_T36 l j) c := by
 unfold rod_Check.f rod_within.f at h
 have key : ∀ b : Bool, rod_Check.j0 k l c b = some true → b = false ∧ ∃ k', rod_Check.l0 k' c l l.length 0 = some true := by
  intro b hb
  cases k with
  | zero => simp [rod_Check.j0] at hb
  | succ k =>
   rw [rod_Check.j0] at hb
   cases b
   ·exact ⟨rfl, k, by simpa using hb⟩
   ·simp at hb
 have h2 : ∃ b : Bool, (b = true ∨ b = decide ((l.length : Int) > 400000)) ∧ rod_Check.j0 k l c b = some true := by
  split at h
  ·rw [Option.bind_some] at h
   split at h
   ·exact ⟨_, .inr rfl, h⟩
   ·exact ⟨_, .inl rfl, h⟩
  ·rw [Option.bind_some] at h
   split at h
   ·exact ⟨_, .inr rfl, h⟩
   ·exact ⟨_, .inl rfl, h⟩
 obtain ⟨b, hb, hj⟩ := h2
 obtain ⟨hbf, k', hk⟩ := key b hj
 rw [hbf] at hb
 rcases hb with hb | hb
 ·cases hb
 ·have hl : l.length ≤ 400000 := by have := of_decide_eq_false hb.symm; omega
  exact ⟨hl, fun j hj => rod_loop l hl c k' 0 (Int.le_refl _) hk j (by omega) hj⟩
theorem solve_Check_true {k : Nat} {l0 : List Int} {l1 : List S36} (h : solve_Check.f k l0 l1 = some true) : l0.length < 4096 ∧ l0.any solve_Check.bad = false ∧ l1.length ≤ 400000 ∧ ∀ j : Nat, j < l1.length → RodOk (rd_T36 l1 j) ((l0.length : Int) + 1) := by
 unfold solve_Check.f at h
 by_cases c1 : (l0.length : Int) ≥ 4096
 ·rw [if_pos c1] at h; simp at h
 rw [if_neg c1] at h
 by_cases c2 : l0.any solve_Check.bad = true
 ·rw [if_pos c2] at h; simp at h
 rw [if_neg c2] at h
 obtain ⟨h1, h2⟩ := rod_Check_true h
 exact ⟨by omega, by simpa using c2, h1, h2⟩
/-- The rods by the column that they go to. -/
def rodsTo (n : Nat) (l1 : List S36) : List (List S36) := l1.foldl addTo (List.replicate (n + 1) [])
theorem addTo_mem (l : List S36) : ∀ (xss : List (List S36)) (k : Nat) (r : S36), r ∈ (l.foldl addTo xss).getD k [] → r ∈ xss.getD k [] ∨ r ∈ l := by
 induction l with
 | nil => intro xss k r h; exact .inl h
 | cons p t ih =>
  intro xss k r h
  rw [List.foldl_cons] at h
  rcases ih _ _ _ h with h1 | h1
  ·unfold addTo at h1
   rw [List.getD_eq_getElem?_getD, List.getElem?_set] at h1
   by_cases e : p.f1.toNat = k
   ·rw [if_pos e] at h1
    split at h1
    ·rw [Option.getD_some, List.mem_append] at h1
     rcases h1 with h1 | h1
     ·left; rw [← e]; exact h1
     ·right
      rw [List.mem_singleton] at h1
      rw [h1]; exact List.mem_cons_self
    ·simp at h1
   ·rw [if_neg e] at h1
    left; rw [List.getD_eq_getElem?_getD]; exact h1
  ·exact .inr (List.mem_cons_of_mem _ h1)
theorem rd_mem (l : List S36) (j : Nat) (h : j < l.length) : rd_T36 l j ∈ l := by
 unfold rd_T36
 rw [Int.toNat_natCast, List.getD_eq_getElem?_getD, List.getElem?_eq_getElem h]
 exact List.getElem_mem h
theorem mem_rd (l : List S36) (r : S36) (h : r ∈ l) : ∃ j : Nat, j < l.length ∧ rd_T36 l j = r := by
 obtain ⟨j, hj, e⟩ := List.getElem_of_mem h
 refine ⟨j, hj, ?_⟩
 unfold rd_T36
 rw [Int.toNat_natCast, List.getD_eq_getElem?_getD, List.getElem?_eq_getElem hj]
 exact e
theorem solve_begin_line (A0 A1 : Option Addr) (c0 c1 k : Nat) (l0 : List Int) (l1 : List S36) (w : World) (hr0 : Kd.C (Kd.int .i64) w A0 l0.length l0) (hr1 : Kd.C k36 w A1 l1.length l1) (hc : solve_Check.f k l0 l1 = some true) :
  Calls Try.prog 14 #[.slice A0 l0.length c0, .slice A1 l1.length c1] w fun e w' => ∃ g, e = .returned (.pointer (some ⟨g, 0, none⟩)) ∧ LineAt w' w.heap.size g l0 (rodsTo l0.length l1) ∧ Below w.heap.size w w' := by
 obtain ⟨h1, _, h3, h4⟩ := solve_Check_true hc
 refine (solve_begin.calls A0 A1 c0 c1 l0 l1 w h1 hr1 h3 (fun i hi => by have := h4 i hi; unfold RodOk at this; omega)).mono ?_
 rintro e w' ⟨g, T, vs, rfl, hL, hb⟩
 refine ⟨g, rfl, ⟨T, A0, c0, vs, hL, Kd.C_below hr0 hb, h1, fun k hk j hj => ?_⟩, hb⟩
 unfold rodsTo at hj ⊢
 rcases addTo_mem _ _ _ _ (rd_mem _ j hj) with h5 | h5
 ·rw [List.getD_eq_getElem?_getD, List.getElem?_replicate, if_pos (by omega)] at h5
  simp at h5
 ·obtain ⟨i, hi, e⟩ := mem_rd _ _ h5
  have := h4 i hi
  rw [e] at this
  unfold RodOk at this
  omega
def solve_At.f (k : Nat) (l0 : List Int) (l1 : List S36) (a2 : Int) : Option (List Int × Int) := (solve_Check.f k l0 l1).bind fun c => if c = true then (if a2 < -1024 then some ([], 2) else if a2 > 8192 then some ([], 2) else some (at_to l0 (rodsTo l0.length l1) a2 l0.length, 0)) else some ([], 2)
theorem solve_At.mono : ∀ a0 a1 a2 k, LeO (solve_At.f k a0 a1 a2) (solve_At.f (k + 1) a0 a1 a2) := by
 intro a0 a1 a2 k
 unfold solve_At.f
 exact LeO.bind (solve_Check.mono _ _ _) (fun _ => LeO.refl _)
set_option maxHeartbeats 2000000 in
set_option maxRecDepth 100000 in
theorem solve_At.calls (k : Nat) (A0 : Option Addr) (c0 : Nat) (l0 : List Int) (A1 : Option Addr) (c1 : Nat) (l1 : List S36) (a2 : Int) (r1 : List Int) (r2 : Int) (w : World) (hr0 : Kd.C (Kd.int .i64) w A0 l0.length l0) (hc0 : l0.length ≤ c0) (hr1 : Kd.C k36 w A1 l1.length l1) (hc1 : l1.length ≤ c1) (h : solve_At.f k l0 l1 a2 = some (r1, r2)) :
  Calls Try.prog 10 #[.slice A0 l0.length c0, .slice A1 l1.length c1, .int .i64 a2] w fun e w' => ∃ v0_ : Value, e = .returned (.tuple #[v0_, .int .i64 r2]) ∧ Kd.R (Kd.int .i64) 3 w' w.heap.size (fun _ => True) v0_ r1 ∧ Below w.heap.size w w' := by
 obtain ⟨b, hk⟩ : ∃ b, solve_Check.f k l0 l1 = some b := by
  cases e : solve_Check.f k l0 l1 with
  | none => rw [solve_At.f, e] at h; simp at h
  | some b => exact ⟨b, rfl⟩
 rw [solve_At.f, hk, Option.bind_some] at h
 have HC := sd_ (solve_Check.calls k A0 c0 l0 A1 c1 l1 b w hr0 hc0 hr1 hc1 hk)
 have HG := sd_ (fun (W : World) (hb : Below w.heap.size w W) (hbt : b = true) => solve_begin_line A0 A1 c0 c1 k l0 l1 W (Kd.C_below hr0 hb) (Kd.C_below hr1 hb) (by rw [hk, hbt]))
 have hH := sd_ h
 clear h hk hr0 hc0 hr1 hc1
 cases b with
 | false =>
  obtain ⟨rfl, rfl⟩ : r1 = [] ∧ r2 = 2 := by have := hH.out; simp at this; exact ⟨this.1, this.2.symm⟩
  go_enter Try.func10, Try.ntmps10
  go_wp2_with (go_at_call 13; refine HC.out.mono ?_; rintro e wc ⟨rfl, hbc⟩)
  go_ret2
  exact ⟨_, rfl, Kd.R_nil _ _ _ _ _, hbc⟩
 | true =>
  have hh := hH.out
  rw [if_pos rfl] at hh
  clear hH
  by_cases q1 : a2 < -1024
  ·rw [if_pos q1] at hh
   obtain ⟨rfl, rfl⟩ : r1 = [] ∧ r2 = 2 := by simp at hh; exact ⟨hh.1, hh.2.symm⟩
   clear hh
   go_enter Try.func10, Try.ntmps10
   go_wp2_with (go_at_call 13; refine HC.out.mono ?_; rintro e wc ⟨rfl, hbc⟩)
   go_ret2
   exact ⟨_, rfl, Kd.R_nil _ _ _ _ _, hbc⟩
  rw [if_neg q1] at hh
  by_cases q2 : a2 > 8192
  ·rw [if_pos q2] at hh
   obtain ⟨rfl, rfl⟩ : r1 = [] ∧ r2 = 2 := by simp at hh; exact ⟨hh.1, hh.2.symm⟩
   clear hh
   go_enter Try.func10, Try.ntmps10
   go_wp2_with (go_at_call 13; refine HC.out.mono ?_; rintro e wc ⟨rfl, hbc⟩)
   go_ret2
   exact ⟨_, rfl, Kd.R_nil _ _ _ _ _, hbc⟩
  rw [if_neg q2] at hh
  simp only [Option.some.injEq, Prod.mk.injEq] at hh
  obtain ⟨hh1, rfl⟩ := hh
  have HR := sd_ hh1
  clear hh1
  go_enter Try.func10, Try.ntmps10
  go_wp2_with (first | (go_at_call 13; refine HC.out.mono ?_; rintro e wc ⟨rfl, hbc⟩) | (go_at_call 14; refine (HG.out _ hbc (by simp)).mono ?_; rintro e wb ⟨g, rfl, hL, hbb⟩; have HL := sd_ hL; have HB := sd_ (below_then hbc hbc.size hbb); clear hL hbb) | (go_at_call 17; refine (HL.out.at_ _).mono ?_; rintro e wa ⟨v, rfl, hRa, hba⟩; have HA := sd_ hRa; have HBa := sd_ (below_then HB.out HB.out.size hba); clear hRa hba))
  go_ret2
  rw [HR.out] at HA
  exact ⟨_, rfl, Kd.R_lower HA.out HB.out.size, HBa.out⟩
def solve_Natural.f (k : Nat) (l0 : List Int) (l1 : List S36)  : Option (Int) := (solve_Check.f k l0 l1).bind fun c => if c = true then some (at_end l0 (rodsTo l0.length l1) 0) else some 0
theorem solve_Natural.mono : ∀ a0 a1 k, LeO (solve_Natural.f k a0 a1 ) (solve_Natural.f (k + 1) a0 a1 ) := by
 intro a0 a1  k
 unfold solve_Natural.f
 exact LeO.bind (solve_Check.mono _ _ _) (fun _ => LeO.refl _)
set_option maxHeartbeats 2000000 in
set_option maxRecDepth 100000 in
theorem solve_Natural.calls (k : Nat) (A0 : Option Addr) (c0 : Nat) (l0 : List Int) (A1 : Option Addr) (c1 : Nat) (l1 : List S36)  (r : Int) (w : World) (hr0 : Kd.C (Kd.int .i64) w A0 l0.length l0) (hc0 : l0.length ≤ c0) (hr1 : Kd.C k36 w A1 l1.length l1) (hc1 : l1.length ≤ c1) (h : solve_Natural.f k l0 l1  = some r) :
  Calls Try.prog 12 #[.slice A0 l0.length c0, .slice A1 l1.length c1] w fun e w' => e = .returned (.int .i64 r) ∧ Below w.heap.size w w' := by
 obtain ⟨b, hk⟩ : ∃ b, solve_Check.f k l0 l1 = some b := by
  cases e : solve_Check.f k l0 l1 with
  | none => rw [solve_Natural.f, e] at h; simp at h
  | some b => exact ⟨b, rfl⟩
 rw [solve_Natural.f, hk, Option.bind_some] at h
 have HC := sd_ (solve_Check.calls k A0 c0 l0 A1 c1 l1 b w hr0 hc0 hr1 hc1 hk)
 have HG := sd_ (fun (W : World) (hb : Below w.heap.size w W) (hbt : b = true) => solve_begin_line A0 A1 c0 c1 k l0 l1 W (Kd.C_below hr0 hb) (Kd.C_below hr1 hb) (by rw [hk, hbt]))
 have hH := sd_ h
 clear h hk hr0 hc0 hr1 hc1
 cases b with
 | false =>
  obtain rfl : r = 0 := by have := hH.out; simp at this; exact this.symm
  go_enter Try.func12, Try.ntmps12
  go_wp2_with (go_at_call 13; refine HC.out.mono ?_; rintro e wc ⟨rfl, hbc⟩)
  go_ret
  exact ⟨rfl, hbc⟩
 | true =>
  obtain rfl : at_end l0 (rodsTo l0.length l1) 0 = r := by have := hH.out; simp at this; exact this
  clear hH
  go_enter Try.func12, Try.ntmps12
  go_wp2_with (first | (go_at_call 13; refine HC.out.mono ?_; rintro e wc ⟨rfl, hbc⟩) | (go_at_call 14; refine (HG.out _ hbc (by simp)).mono ?_; rintro e wb ⟨g, rfl, hL, hbb⟩; have HL := sd_ hL; have HB := sd_ (below_then hbc hbc.size hbb); clear hL hbb) | (go_at_call 15; refine (HL.out.end_ _).mono ?_; rintro e we ⟨rfl, hbe⟩; have HBe := sd_ (below_then HB.out HB.out.size hbe); have HLe := sd_ (HL.out.below hbe); clear hbe))
  go_ret
  exact ⟨rfl, HBe.out⟩
def solve_Slack.f (k : Nat) (l0 : List Int) (l1 : List S36) (a2 : Int) : Option (Int) := (solve_Check.f k l0 l1).bind fun c => if c = true then (if a2 < 0 then some 0 else if a2 > 1099511627776 then some 0 else some (wrap64 (a2 - at_end l0 (rodsTo l0.length l1) (-1024)))) else some 0
theorem solve_Slack.mono : ∀ a0 a1 a2 k, LeO (solve_Slack.f k a0 a1 a2) (solve_Slack.f (k + 1) a0 a1 a2) := by
 intro a0 a1 a2 k
 unfold solve_Slack.f
 exact LeO.bind (solve_Check.mono _ _ _) (fun _ => LeO.refl _)
set_option maxHeartbeats 2000000 in
set_option maxRecDepth 100000 in
theorem solve_Slack.calls (k : Nat) (A0 : Option Addr) (c0 : Nat) (l0 : List Int) (A1 : Option Addr) (c1 : Nat) (l1 : List S36) (a2 : Int) (r : Int) (w : World) (hr0 : Kd.C (Kd.int .i64) w A0 l0.length l0) (hc0 : l0.length ≤ c0) (hr1 : Kd.C k36 w A1 l1.length l1) (hc1 : l1.length ≤ c1) (h : solve_Slack.f k l0 l1 a2 = some r) :
  Calls Try.prog 8 #[.slice A0 l0.length c0, .slice A1 l1.length c1, .int .i64 a2] w fun e w' => e = .returned (.int .i64 r) ∧ Below w.heap.size w w' := by
 obtain ⟨b, hk⟩ : ∃ b, solve_Check.f k l0 l1 = some b := by
  cases e : solve_Check.f k l0 l1 with
  | none => rw [solve_Slack.f, e] at h; simp at h
  | some b => exact ⟨b, rfl⟩
 rw [solve_Slack.f, hk, Option.bind_some] at h
 have HC := sd_ (solve_Check.calls k A0 c0 l0 A1 c1 l1 b w hr0 hc0 hr1 hc1 hk)
 have HG := sd_ (fun (W : World) (hb : Below w.heap.size w W) (hbt : b = true) => solve_begin_line A0 A1 c0 c1 k l0 l1 W (Kd.C_below hr0 hb) (Kd.C_below hr1 hb) (by rw [hk, hbt]))
 have hH := sd_ h
 clear h hk hr0 hc0 hr1 hc1
 cases b with
 | false =>
  obtain rfl : r = 0 := by have := hH.out; simp at this; exact this.symm
  go_enter Try.func8, Try.ntmps8
  go_wp2_with (go_at_call 13; refine HC.out.mono ?_; rintro e wc ⟨rfl, hbc⟩)
  go_ret
  exact ⟨rfl, hbc⟩
 | true =>
  have hh := hH.out
  rw [if_pos rfl] at hh
  clear hH
  by_cases q1 : a2 < 0
  ·rw [if_pos q1] at hh
   obtain rfl : r = 0 := by simp at hh; exact hh.symm
   clear hh
   go_enter Try.func8, Try.ntmps8
   go_wp2_with (go_at_call 13; refine HC.out.mono ?_; rintro e wc ⟨rfl, hbc⟩)
   go_ret
   exact ⟨rfl, hbc⟩
  rw [if_neg q1] at hh
  by_cases q2 : a2 > 1099511627776
  ·rw [if_pos q2] at hh
   obtain rfl : r = 0 := by simp at hh; exact hh.symm
   clear hh
   go_enter Try.func8, Try.ntmps8
   go_wp2_with (go_at_call 13; refine HC.out.mono ?_; rintro e wc ⟨rfl, hbc⟩)
   go_ret
   exact ⟨rfl, hbc⟩
  rw [if_neg q2] at hh
  simp only [Option.some.injEq] at hh
  have HR := sd_ hh
  clear hh
  go_enter Try.func8, Try.ntmps8
  go_wp2_with (first | (go_at_call 13; refine HC.out.mono ?_; rintro e wc ⟨rfl, hbc⟩) | (go_at_call 14; refine (HG.out _ hbc (by simp)).mono ?_; rintro e wb ⟨g, rfl, hL, hbb⟩; have HL := sd_ hL; have HB := sd_ (below_then hbc hbc.size hbb); clear hL hbb) | (go_at_call 15; refine (HL.out.end_ _).mono ?_; rintro e we ⟨rfl, hbe⟩; have HBe := sd_ (below_then HB.out HB.out.size hbe); have HLe := sd_ (HL.out.below hbe); clear hbe))
  go_ret
  exact ⟨xret_int HR.out, HBe.out⟩
def solve_Solve.f (k : Nat) (l0 : List Int) (l1 : List S36) (a2 : Int) (a3 : Bool) : Option (List Int × Int × Int) := (solve_Check.f k l0 l1).bind fun c => if c = true then (if a2 < 0 then some ([], 0, 2) else if a2 > 1099511627776 then some ([], 0, 2) else if at_end l0 (rodsTo l0.length l1) (-1024) > a2 then some ([], 0, 30) else some (at_to l0 (rodsTo l0.length l1) (fits_go (at_end l0 (rodsTo l0.length l1)) a2 9217 (-1024) (if a3 = true then 0 else 8192)) l0.length, fits_go (at_end l0 (rodsTo l0.length l1)) a2 9217 (-1024) (if a3 = true then 0 else 8192), 0)) else some ([], 0, 2)
theorem solve_Solve.mono : ∀ a0 a1 a2 a3 k, LeO (solve_Solve.f k a0 a1 a2 a3) (solve_Solve.f (k + 1) a0 a1 a2 a3) := by
 intro a0 a1 a2 a3 k
 unfold solve_Solve.f
 exact LeO.bind (solve_Check.mono _ _ _) (fun _ => LeO.refl _)
set_option maxHeartbeats 2000000 in
set_option maxRecDepth 100000 in
theorem solve_Solve.calls (k : Nat) (A0 : Option Addr) (c0 : Nat) (l0 : List Int) (A1 : Option Addr) (c1 : Nat) (l1 : List S36) (a2 : Int) (a3 : Bool) (r1 : List Int) (r2 r3 : Int) (w : World) (hr0 : Kd.C (Kd.int .i64) w A0 l0.length l0) (hc0 : l0.length ≤ c0) (hr1 : Kd.C k36 w A1 l1.length l1) (hc1 : l1.length ≤ c1) (h : solve_Solve.f k l0 l1 a2 a3 = some (r1, r2, r3)) :
  Calls Try.prog 7 #[.slice A0 l0.length c0, .slice A1 l1.length c1, .int .i64 a2, .bool a3] w fun e w' => ∃ v0_ : Value, e = .returned (.tuple #[v0_, .int .i64 r2, .int .i64 r3]) ∧ Kd.R (Kd.int .i64) 3 w' w.heap.size (fun _ => True) v0_ r1 ∧ Below w.heap.size w w' := by
 obtain ⟨b, hk⟩ : ∃ b, solve_Check.f k l0 l1 = some b := by
  cases e : solve_Check.f k l0 l1 with
  | none => rw [solve_Solve.f, e] at h; simp at h
  | some b => exact ⟨b, rfl⟩
 rw [solve_Solve.f, hk, Option.bind_some] at h
 have HC := sd_ (solve_Check.calls k A0 c0 l0 A1 c1 l1 b w hr0 hc0 hr1 hc1 hk)
 have HG := sd_ (fun (W : World) (hb : Below w.heap.size w W) (hbt : b = true) => solve_begin_line A0 A1 c0 c1 k l0 l1 W (Kd.C_below hr0 hb) (Kd.C_below hr1 hb) (by rw [hk, hbt]))
 have hH := sd_ h
 clear h hk hr0 hc0 hr1 hc1
 cases b with
 | false =>
  have hh := hH.out
  obtain ⟨rfl, rfl, rfl⟩ : r1 = [] ∧ r2 = 0 ∧ r3 = 2 := by simp at hh; exact ⟨hh.1, hh.2.1.symm, hh.2.2.symm⟩
  go_enter Try.func7, Try.ntmps7
  go_wp2_with (go_at_call 13; refine HC.out.mono ?_; rintro e wc ⟨rfl, hbc⟩)
  go_ret3
  exact ⟨_, rfl, Kd.R_nil _ _ _ _ _, hbc⟩
 | true =>
  have hh := hH.out
  rw [if_pos rfl] at hh
  clear hH
  by_cases q1 : a2 < 0
  ·rw [if_pos q1] at hh
   obtain ⟨rfl, rfl, rfl⟩ : r1 = [] ∧ r2 = 0 ∧ r3 = 2 := by simp at hh; exact ⟨hh.1, hh.2.1.symm, hh.2.2.symm⟩
   clear hh
   go_enter Try.func7, Try.ntmps7
   go_wp2_with (go_at_call 13; refine HC.out.mono ?_; rintro e wc ⟨rfl, hbc⟩)
   go_ret3
   exact ⟨_, rfl, Kd.R_nil _ _ _ _ _, hbc⟩
  rw [if_neg q1] at hh
  by_cases q2 : a2 > 1099511627776
  ·rw [if_pos q2] at hh
   obtain ⟨rfl, rfl, rfl⟩ : r1 = [] ∧ r2 = 0 ∧ r3 = 2 := by simp at hh; exact ⟨hh.1, hh.2.1.symm, hh.2.2.symm⟩
   clear hh
   go_enter Try.func7, Try.ntmps7
   go_wp2_with (go_at_call 13; refine HC.out.mono ?_; rintro e wc ⟨rfl, hbc⟩)
   go_ret3
   exact ⟨_, rfl, Kd.R_nil _ _ _ _ _, hbc⟩
  rw [if_neg q2] at hh
  generalize rodsTo l0.length l1 = T at HG hh
  by_cases q3 : at_end l0 T (-1024) > a2
  ·rw [if_pos q3] at hh
   obtain ⟨rfl, rfl, rfl⟩ : r1 = [] ∧ r2 = 0 ∧ r3 = 30 := by simp at hh; exact ⟨hh.1, hh.2.1.symm, hh.2.2.symm⟩
   clear hh
   go_enter Try.func7, Try.ntmps7
   go_wp2_with (first | (go_at_call 13; refine HC.out.mono ?_; rintro e wc ⟨rfl, hbc⟩) | (go_at_call 14; refine (HG.out _ hbc (by simp)).mono ?_; rintro e wb ⟨g, rfl, hL, hbb⟩; have HL := sd_ hL; have HB := sd_ (below_then hbc hbc.size hbb); clear hL hbb) | (go_at_call 15; refine (HL.out.end_ _).mono ?_; rintro e we ⟨rfl, hbe⟩; have HBe := sd_ (below_then HB.out HB.out.size hbe); have HLe := sd_ (HL.out.below hbe); clear hbe))
   go_ret3
   exact ⟨_, rfl, Kd.R_nil _ _ _ _ _, HBe.out⟩
  rw [if_neg q3] at hh
  simp only [Option.some.injEq, Prod.mk.injEq] at hh
  obtain ⟨hh1, hh2, rfl⟩ := hh
  rw [hh2] at hh1
  have HR := sd_ hh1
  clear hh1
  cases a3
  rotate_left
  ·have HR2 := sd_ (show fits_go (at_end l0 T) a2 9217 (-1024) 0 = r2 from hh2)
   clear hh2
   go_enter Try.func7, Try.ntmps7
   go_wp2_with (first | (go_at_call 13; refine HC.out.mono ?_; rintro e wc ⟨rfl, hbc⟩) | (go_at_call 14; refine (HG.out _ hbc (by simp)).mono ?_; rintro e wb ⟨g, rfl, hL, hbb⟩; have HL := sd_ hL; have HB := sd_ (below_then hbc hbc.size hbb); clear hL hbb) | (go_at_call 15; refine (HL.out.end_ _).mono ?_; rintro e we ⟨rfl, hbe⟩; have HBe := sd_ (below_then HB.out HB.out.size hbe); have HLe := sd_ (HL.out.below hbe); clear hbe) | (go_at_call 16; refine (HLe.out.fits_ a2 0 (by omega) (by omega)).mono ?_; rintro e wf ⟨rfl, hbf⟩; have HBf := sd_ (below_then HBe.out HBe.out.size hbf); have HLf := sd_ (HLe.out.below hbf); rw [HR2.out]; clear hbf) | (go_at_call 17; refine (HLf.out.at_ _).mono ?_; rintro e wa ⟨v, rfl, hRa, hba⟩; have HA := sd_ hRa; have HBa := sd_ (below_then HBf.out HBf.out.size hba); clear hRa hba))
   go_ret3
   rw [HR.out] at HA
   exact ⟨_, rfl, Kd.R_lower HA.out HBf.out.size, HBa.out⟩
  ·have HR2 := sd_ (show fits_go (at_end l0 T) a2 9217 (-1024) 8192 = r2 from hh2)
   clear hh2
   go_enter Try.func7, Try.ntmps7
   go_wp2_with (first | (go_at_call 13; refine HC.out.mono ?_; rintro e wc ⟨rfl, hbc⟩) | (go_at_call 14; refine (HG.out _ hbc (by simp)).mono ?_; rintro e wb ⟨g, rfl, hL, hbb⟩; have HL := sd_ hL; have HB := sd_ (below_then hbc hbc.size hbb); clear hL hbb) | (go_at_call 15; refine (HL.out.end_ _).mono ?_; rintro e we ⟨rfl, hbe⟩; have HBe := sd_ (below_then HB.out HB.out.size hbe); have HLe := sd_ (HL.out.below hbe); clear hbe) | (go_at_call 16; refine (HLe.out.fits_ a2 8192 (by omega) (by omega)).mono ?_; rintro e wf ⟨rfl, hbf⟩; have HBf := sd_ (below_then HBe.out HBe.out.size hbf); have HLf := sd_ (HLe.out.below hbf); rw [HR2.out]; clear hbf) | (go_at_call 17; refine (HLf.out.at_ _).mono ?_; rintro e wa ⟨v, rfl, hRa, hba⟩; have HA := sd_ hRa; have HBa := sd_ (below_then HBf.out HBf.out.size hba); clear hRa hba))
   go_ret3
   rw [HR.out] at HA
   exact ⟨_, rfl, Kd.R_lower HA.out HBf.out.size, HBa.out⟩

end Go.Proofs.Ytipfgmflofdedaa.P
