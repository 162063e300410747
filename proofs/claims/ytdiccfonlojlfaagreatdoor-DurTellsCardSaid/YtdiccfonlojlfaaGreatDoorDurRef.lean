/- Durations: the document's functions beside the program's; which texts are names. -/
import Derived.Test.YtdiccfonlojlfaaGreatDoorPx14
import Derived.Test.YtdiccfonlojlfaaGreatDoorPx16
import Derived.Test.YtdiccfonlojlfaaGreatDoorPx4
import Derived.Test.YtdiccfonlojlfaaGreatDoorPx6
import Derived.Test.YtdiccfonlojlfaaGreatDoorDurSplit
import Derived.Test.YtdiccfonlojlfaaGreatDoorRatARef
import Derived.Test.YtdiccfonlojlfaaGreatDoorRatBRef
namespace Go.Proofs.YtdiccfonlojlfaaGreatDoor.Rp
open Go.RowKit Go.Proofs.YtdiccfonlojlfaaGreatDoor.P Go.Proofs.YtdiccfonlojlfaaGreatDoorW.PrintWords Go.Proofs.YtdiccfonlojlfaaGreatDoorW.PrintLast Go.Proofs.YtdiccfonlojlfaaGreatDoorW.PrintMore
set_option linter.unusedVariables false
set_option linter.unusedSimpArgs false

theorem rdcheck_eq (l d : Int) : neumeref07_Check.f l d = some (decide (okD l d)) := by
  unfold neumeref07_Check.f
  by_cases h1 : l ≥ -1
  · rw [if_pos h1]
    by_cases h2 : l ≤ 6
    · rw [if_pos h2]
      by_cases h3 : d ≥ 0
      · rw [if_pos h3]; congr 1; apply decide_eq_decide.2; unfold okD; omega
      · rw [if_neg h3, decide_eq_false (by unfold okD; omega)]
    · rw [if_neg h2, decide_eq_false (by unfold okD; omega)]
  · rw [if_neg h1, decide_eq_false (by unfold okD; omega)]
theorem rval_tab {l d : Int} (h : okD l d) : neumeref07_Value.f 60 l d = some ((valT l d).1, (valT l d).2, 0) :=
  of_decide_eq_true (all32 (p := fun l d => decide (neumeref07_Value.f 60 l d = some ((valT l d).1, (valT l d).2, 0))) (by decide +kernel) h)
theorem rvalue_ev (l d : Int) : Ev (fun k => neumeref07_Value.f k l d) (valV l d) := by
  unfold valV
  by_cases h : okD l d
  · rw [if_pos h]
    exact Ev.of (neumeref07_Value.mono l d) (rval_tab h)
  · rw [if_neg h]
    unfold neumeref07_Value.f
    refine Ev.bindc (rdcheck_eq l d) ?_
    rw [decide_eq_false h]
    exact Ev.neg (by decide) (Ev.now _)
theorem name_no {l d : Int} (h : ¬ okD l d) : dur_Name.f l d = some ⟨#[]⟩ := by
  unfold dur_Name.f
  rw [dcheck_eq, Option.bind_some, if_neg (by rw [decide_eq_true_eq]; exact h)]
theorem rname_tab {l d : Int} (h : okD l d) : (neumeref07_Name.f 20 l d).map (fun t => t.data.toList) = (dur_Name.f l d).map (fun t => t.data.toList) :=
  of_decide_eq_true (all32 (p := fun l d => decide ((neumeref07_Name.f 20 l d).map (fun t => t.data.toList) = (dur_Name.f l d).map (fun t => t.data.toList))) (by decide +kernel) h)
theorem rname (l d : Int) : ∃ t, dur_Name.f l d = some t ∧ Ev (fun k => neumeref07_Name.f k l d) t := by
  by_cases h : okD l d
  · obtain ⟨t, ht, _⟩ := name_ok h
    have q := rname_tab h
    rw [ht] at q
    cases hr : neumeref07_Name.f 20 l d with
    | none => rw [hr] at q; cases q
    | some u =>
      rw [hr] at q
      simp only [Option.map_some, Option.some.injEq] at q
      have e : u = t := by cases u; cases t; simp only at q; congr 1; exact Array.toList_inj.1 q
      subst e
      exact ⟨u, ht, Ev.of (neumeref07_Name.mono l d) hr⟩
  · refine ⟨_, name_no h, ?_⟩
    unfold neumeref07_Name.f
    refine Ev.bindc (rdcheck_eq l d) ?_
    rw [decide_eq_false h]
    exact Ev.neg (by decide) (Ev.now _)
/-- All durations, in order. -/
def allL : List S23 := (List.range 32).map fun (i : Nat) => (⟨((i / 4 : Nat) : Int) - 1, ((i % 4 : Nat) : Int)⟩ : S23)
theorem dur_ext {p q : S23} (h : p.f0 = q.f0 ∧ p.f1 = q.f1) : p = q := by cases p; cases q; simp only at h; rw [h.1, h.2]
instance : DecidableEq S23 := fun p q => decidable_of_iff (p.f0 = q.f0 ∧ p.f1 = q.f1) ⟨dur_ext, fun h => by rw [h]; exact ⟨rfl, rfl⟩⟩
theorem all_tab : neumeref07_all.f 60 = some allL := of_decide_eq_true (by decide +kernel)
theorem all_ev : Ev (fun k => neumeref07_all.f k) allL := Ev.of neumeref07_all.mono all_tab
theorem all_len : allL.length = 32 := by unfold allL; rw [List.length_map, List.length_range]
theorem all_rd (i : Nat) (h : i < 32) : rd_T23 allL (i : Int) = ⟨((i / 4 : Nat) : Int) - 1, ((i % 4 : Nat) : Int)⟩ := by
  unfold rd_T23 allL
  rw [Int.toNat_natCast, List.getD_eq_getElem?_getD, List.getElem?_map, List.getElem?_range h]
  rfl
theorem all_ok (i : Nat) (h : i < 32) : okD (((i / 4 : Nat) : Int) - 1) ((i % 4 : Nat) : Int) := by unfold okD; omega
theorem all_ix {l d : Int} (h : okD l d) : ∃ i : Nat, i < 32 ∧ l = ((i / 4 : Nat) : Int) - 1 ∧ d = ((i % 4 : Nat) : Int) := by
  unfold okD at h
  exact ⟨(4 * (l + 1) + d).toNat, by omega, by omega, by omega⟩
theorem rof_loop {x y : Int} {r : Int × Int × Bool} (hf : dfound x y r) : ∀ (n i : Nat), i + n = 32 → (∀ j, j < i → valT (((j / 4 : Nat) : Int) - 1) ((j % 4 : Nat) : Int) ≠ (x, y)) → Ev (fun k => neumeref07_Of.l0 k allL (i : Int) x y) r := by
  intro n
  induction n with
  | zero =>
    intro i hi hb
    refine Ev.succ ?_
    simp only [neumeref07_Of.l0, all_len]
    refine Ev.neg (by omega) ?_
    rw [hf.2 (fun l d h e => by obtain ⟨j, hj, rfl, rfl⟩ := all_ix h; exact hb j (by omega) e)]
    exact Ev.now _
  | succ n ih =>
    intro i hi hb
    have ho := all_ok i (by omega)
    refine Ev.succ ?_
    simp only [neumeref07_Of.l0, all_len, all_rd i (by omega)]
    refine Ev.pos (by omega) (Ev.pos (by omega) (Ev.bind (rvalue_ev _ _) ?_))
    unfold valV
    rw [if_pos ho]
    by_cases hq : valT (((i / 4 : Nat) : Int) - 1) ((i % 4 : Nat) : Int) = (x, y)
    · rw [hf.1 _ _ ho hq]
      exact Ev.pos ((val_beq ho).2 hq) (Ev.now _)
    · refine Ev.neg (fun e => hq ((val_beq ho).1 e)) ?_
      rw [wrap_id (x := (i : Int) + 1) (by omega) (by omega)]
      refine ih (i + 1) (by omega) (fun j hj => ?_)
      by_cases e : j = i
      · rw [e]; exact hq
      · exact hb j (by omega)
theorem rdof_ev {x y : Int} {r : Int × Int × Bool} (hf : dfound x y r) : Ev (fun k => neumeref07_Of.f k x y) r := by
  unfold neumeref07_Of.f
  exact Ev.bind all_ev (rof_loop hf 32 0 rfl (fun j h => absurd h (Nat.not_lt_zero j)))
theorem toList_inj {s t : ByteArray} (h : s.toList = t.toList) : s = t := by
  rw [Go.Lib.toList_data, Go.Lib.toList_data] at h
  cases s; cases t
  simp only at h
  congr 1
  exact Array.toList_inj.1 h
/-- Is a text that duration's name? -/
def isN (x : ByteArray) (l d : Int) : Prop := (dur_Name.f l d).map (fun t => t.toList) = some x.toList
def pfound (x : ByteArray) (r : Int × Int × Bool) : Prop := (∀ l d, okD l d → isN x l d → r = (l, d, true)) ∧ ((∀ l d, okD l d → ¬ isN x l d) → r = (0, 0, false))
theorem isN_parse {x : ByteArray} {l d : Int} (h : okD l d) (hn : isN x l d) : dur_Parse.f 30 x = some (l, d, true) := by
  obtain ⟨t, ht, hr⟩ := name_ok h
  unfold isN at hn
  rw [ht, Option.map_some, Option.some.injEq] at hn
  rw [← toList_inj hn]
  exact hr
theorem rparse_loop {x : ByteArray} {r : Int × Int × Bool} (hf : pfound x r) : ∀ (n i : Nat), i + n = 32 → (∀ j, j < i → ¬ isN x (((j / 4 : Nat) : Int) - 1) ((j % 4 : Nat) : Int)) → Ev (fun k => neumeref07_Parse.l0 k x allL (i : Int)) r := by
  intro n
  induction n with
  | zero =>
    intro i hi hb
    refine Ev.succ ?_
    simp only [neumeref07_Parse.l0, all_len]
    refine Ev.neg (by omega) ?_
    rw [hf.2 (fun l d h e => by obtain ⟨j, hj, rfl, rfl⟩ := all_ix h; exact hb j (by omega) e)]
    exact Ev.now _
  | succ n ih =>
    intro i hi hb
    have ho := all_ok i (by omega)
    obtain ⟨t, ht, hr⟩ := rname (((i / 4 : Nat) : Int) - 1) ((i % 4 : Nat) : Int)
    refine Ev.succ ?_
    simp only [neumeref07_Parse.l0, all_len, all_rd i (by omega)]
    refine Ev.pos (by omega) (Ev.pos (by omega) (Ev.bind hr ?_))
    by_cases hq : t.toList = x.toList
    · rw [hf.1 _ _ ho (by unfold isN; rw [ht, Option.map_some, hq])]
      exact Ev.pos hq (Ev.now _)
    · refine Ev.neg hq ?_
      rw [wrap_id (x := (i : Int) + 1) (by omega) (by omega)]
      refine ih (i + 1) (by omega) (fun j hj => ?_)
      by_cases e : j = i
      · subst e
        intro hn
        unfold isN at hn
        rw [ht, Option.map_some, Option.some.injEq] at hn
        exact hq hn
      · exact hb j (by omega)
theorem rparse_ev {x : ByteArray} {r : Int × Int × Bool} (hf : pfound x r) : Ev (fun k => neumeref07_Parse.f k x) r := by
  unfold neumeref07_Parse.f
  exact Ev.bind all_ev (rparse_loop hf 32 0 rfl (fun j h => absurd h (Nat.not_lt_zero j)))
/-- Where a word stands in a row. -/
theorem index_ev (L : List ByteArray) (w : ByteArray) (hL : L.length ≤ 1000) : ∀ (n i : Nat), i + n = L.length → ∃ r : Int, Ev (fun k => slices_Index_string_string.l0 k L w (L.length : Int) (i : Int)) r ∧ (r = -1 ∨ ∃ j : Nat, j < L.length ∧ r = (j : Int) ∧ w.toList = (rdOf ByteArray.empty L (j : Int)).toList) := by
  intro n
  induction n with
  | zero =>
    intro i hi
    refine ⟨-1, Ev.succ ?_, .inl rfl⟩
    simp only [slices_Index_string_string.l0]
    exact Ev.neg (by omega) (Ev.now _)
  | succ n ih =>
    intro i hi
    by_cases hq : w.toList = (rdOf ByteArray.empty L (i : Int)).toList
    · refine ⟨(i : Int), Ev.succ ?_, .inr ⟨i, by omega, rfl, hq⟩⟩
      simp only [slices_Index_string_string.l0]
      exact Ev.pos (by omega) (Ev.pos (by omega) (Ev.pos (by omega) (Ev.pos hq (Ev.now _))))
    · obtain ⟨r, hr, hs⟩ := ih (i + 1) (by omega)
      refine ⟨r, Ev.succ ?_, hs⟩
      simp only [slices_Index_string_string.l0]
      refine Ev.pos (by omega) (Ev.pos (by omega) (Ev.pos (by omega) (Ev.neg hq ?_)))
      rw [wrap_id (x := (i : Int) + 1) (by omega) (by omega)]
      exact hr
theorem trim_dots (l : List UInt8) : l = Lib.trimRightS l [46] ++ List.replicate (l.length - (Lib.trimRightS l [46]).length) 46 := by
  unfold Lib.trimRightS
  have h := List.takeWhile_append_dropWhile (p := fun x => ([46] : List UInt8).contains x) (l := l.reverse)
  have hl : l = (l.reverse.dropWhile fun x => ([46] : List UInt8).contains x).reverse ++ (l.reverse.takeWhile fun x => ([46] : List UInt8).contains x).reverse := by
    rw [← List.reverse_append, h, List.reverse_reverse]
  have ht : (l.reverse.takeWhile fun x => ([46] : List UInt8).contains x).reverse = List.replicate (l.length - (l.reverse.dropWhile fun x => ([46] : List UInt8).contains x).reverse.length) 46 := by
    refine List.eq_replicate_iff.2 ⟨?_, fun b hb => ?_⟩
    · have := congrArg List.length hl
      rw [List.length_append] at this
      omega
    · have hb' := List.all_eq_true.1 (List.all_takeWhile (p := fun x => ([46] : List UInt8).contains x) (l := l.reverse)) b (List.mem_reverse.1 hb)
      simpa using hb'
  rw [← ht]
  exact hl
theorem rep_dots (n : Nat) : Lib.repeatL ([46] : List UInt8) n = List.replicate n 46 := by
  induction n with
  | zero => rfl
  | succ n ih => rw [List.replicate_succ, ← ih]; rfl
theorem name_form {l d : Int} (h : okD l d) : ∃ w : ByteArray, dur_names.f.map (fun L => rdOf ByteArray.empty L (l + 1)) = some w ∧ dur_Name.f l d = some (w ++ ⟨(Lib.repeatL ([46] : List UInt8) d.toNat).toArray⟩) := by
  have h' := h
  unfold okD at h'
  refine ⟨_, rfl, ?_⟩
  unfold dur_Name.f
  rw [dcheck_eq, Option.bind_some, if_pos (decide_eq_true h)]
  have hr : strings_Repeat.f (⟨#[46]⟩ : ByteArray) d = some ⟨(Lib.repeatL ([46] : List UInt8) d.toNat).toArray⟩ := by
    unfold strings_Repeat.f
    rw [if_pos h'.2.1, if_pos (by omega), if_pos]
    show 1 * d.toNat ≤ _
    omega
  rw [show dur_names.f = some _ from rfl, Option.bind_some, hr, Option.bind_some, if_pos]
  refine ⟨by omega, ?_, by omega, ?_⟩
  · show l + 1 < 8
    omega
  · have hw : ∀ i : Nat, i < 8 → (rdOf ByteArray.empty ([(⟨#[98, 114, 101, 118, 101]⟩ : ByteArray), (⟨#[49]⟩ : ByteArray), (⟨#[50]⟩ : ByteArray), (⟨#[52]⟩ : ByteArray), (⟨#[56]⟩ : ByteArray), (⟨#[49, 54]⟩ : ByteArray), (⟨#[51, 50]⟩ : ByteArray), (⟨#[54, 52]⟩ : ByteArray)] : List ByteArray) (i : Int)).size ≤ 5 := by decide +kernel
    have := hw (l + 1).toNat (by omega)
    rw [show (((l + 1).toNat : Nat) : Int) = l + 1 by omega] at this
    have hs : (⟨(Lib.repeatL ([46] : List UInt8) d.toNat).toArray⟩ : ByteArray).size ≤ 10 := by
      show (Lib.repeatL ([46] : List UInt8) d.toNat).toArray.size ≤ 10
      rw [rep_dots, List.size_toArray, List.length_replicate]
      omega
    omega
theorem append_toList (s t : ByteArray) : (s ++ t).toList = s.toList ++ t.toList := by
  rw [Go.Lib.toList_data, Go.Lib.toList_data, Go.Lib.toList_data, ByteArray.data_append, Array.toList_append]
theorem parse_tells (x : ByteArray) (hx : x.size ≤ 100) : ∃ v, Ev (fun k => dur_Parse.f k x) v ∧ (v = (0, 0, false) ∨ ∃ l d, okD l d ∧ v = (l, d, true) ∧ isN x l d) := by
  have hT : ∃ t : ByteArray, strings_TrimRight.f x (⟨#[46]⟩ : ByteArray) = some t ∧ t.toList = Lib.trimRightS x.toList [46] := by
    refine ⟨⟨(Lib.trimRightS x.data.toList [46]).toArray⟩, ?_, ?_⟩
    · unfold strings_TrimRight.f
      rw [if_pos (by omega), if_pos (by decide), if_pos (by decide)]
    · rw [Go.Lib.toList_data, Go.Lib.toList_data]
  obtain ⟨t, ht, htl⟩ := hT
  obtain ⟨L, hL, hLl⟩ : ∃ L, dur_names.f = some L ∧ L.length = 8 := ⟨_, rfl, rfl⟩
  obtain ⟨r, hr, hc⟩ := index_ev L t (by omega) L.length 0 (by omega)
  have tsz : ∀ s : ByteArray, s.toList.length = s.size := fun s => by rw [Go.Lib.toList_data]; exact (Go.Lib.size_eq s).symm
  have ts : t.size ≤ x.size := by
    have e := congrArg List.length (trim_dots x.toList)
    rw [← htl, List.length_append, tsz, tsz] at e
    omega
  unfold dur_Parse.f
  rcases hc with rfl | ⟨j, hj, rfl, hw⟩
  · exact ⟨(0, 0, false), Ev.bindc ht (Ev.bindc hL (Ev.bind hr (Ev.pos (by decide) (Ev.now _)))), .inl rfl⟩
  · have e1 : wrap64 ((j : Int) + (-1)) = (j : Int) - 1 := by rw [wrap_id (by omega) (by omega)]; omega
    have e2 : wrap64 ((x.size : Int) - (t.size : Int)) = ((x.size - t.size : Nat) : Int) := by rw [wrap_id (by omega) (by omega)]; omega
    by_cases ho : okD ((j : Int) - 1) ((x.size - t.size : Nat) : Int)
    · refine ⟨((j : Int) - 1, ((x.size - t.size : Nat) : Int), true), ?_, .inr ⟨_, _, ho, rfl, ?_⟩⟩
      · refine Ev.bindc ht (Ev.bindc hL (Ev.bind hr (Ev.neg (by omega) ?_)))
        rw [e1, e2]
        exact Ev.bindc (dcheck_eq _ _) (Ev.pos (decide_eq_true ho) (Ev.now _))
      · obtain ⟨w, h1, h2⟩ := name_form ho
        rw [hL, Option.map_some, Option.some.injEq] at h1
        unfold isN
        rw [h2, Option.map_some, Option.some.injEq, append_toList, ← h1, show (j : Int) - 1 + 1 = (j : Int) by omega, ← hw, htl]
        rw [show (⟨(Lib.repeatL ([46] : List UInt8) ((x.size - t.size : Nat) : Int).toNat).toArray⟩ : ByteArray).toList = List.replicate (x.size - t.size) 46 by rw [Go.Lib.toList_data, Int.toNat_natCast, rep_dots]]
        have e := trim_dots x.toList
        rw [← htl, tsz, tsz] at e
        rw [← htl]
        exact e.symm
    · refine ⟨(0, 0, false), ?_, .inl rfl⟩
      refine Ev.bindc ht (Ev.bindc hL (Ev.bind hr (Ev.neg (by omega) ?_)))
      rw [e1, e2]
      exact Ev.bindc (dcheck_eq _ _) (Ev.neg (by rw [decide_eq_true_eq]; exact ho) (Ev.now _))
theorem parse_both (x : ByteArray) (hx : x.size ≤ 100) : ∃ v, Ev (fun k => dur_Parse.f k x) v ∧ Ev (fun k => neumeref07_Parse.f k x) v := by
  obtain ⟨v, hv, hc⟩ := parse_tells x hx
  refine ⟨v, hv, rparse_ev ⟨fun l d ho hn => Ev.one hv (Ev.of (dur_Parse.mono x) (isN_parse ho hn)), fun hno => ?_⟩⟩
  rcases hc with rfl | ⟨l, d, ho, _, hn⟩
  · rfl
  · exact absurd hn (hno l d ho)
/-! ### Split -/
theorem spl_len : ∀ (n : Nat) (L : List S23) (x y : Int), L.length + n = 64 → (spl n L x y).1.length ≤ 64
  | 0, L, x, y, h => by unfold spl; split <;> simp <;> omega
  | n + 1, L, x, y, h => by
    unfold spl
    split
    · split
      · split
        · exact spl_len n _ _ _ (by rw [List.length_append, List.length_singleton]; omega)
        · exact Nat.zero_le _
      · exact Nat.zero_le _
    · simp only; omega
theorem rstop (L : List S23) (l x y u v : Int) : Ev (fun k => neumeref07_Split.j4 k L l true x y u v) ([], false) := by
  refine Ev.succ ?_
  simp only [neumeref07_Split.j4]
  exact Ev.pos trivial (Ev.now _)
theorem rlong (L : List S23) (x y : Int) (hx : Ok x y) (r : List S23 × Bool) : ∀ (n : Nat) (l u v : Int), l + n = 7 → -1 ≤ l →
    (lgN n l x y ≤ 6 → Ev (fun k => neumeref07_Split.j3 k L (lgN n l x y) x y (valT (lgN n l x y) 0).1 (valT (lgN n l x y) 0).2) r) → (¬ lgN n l x y ≤ 6 → r = ([], false)) → Ev (fun k => neumeref07_Split.l1 k L l x y u v) r
  | 0, l, u, v, h, h', h1, h2 => by
    obtain rfl : l = 7 := by omega
    refine Ev.succ ?_
    simp only [neumeref07_Split.l1]
    refine Ev.neg (by decide) (Ev.succ ?_)
    simp only [neumeref07_Split.j3]
    rw [h2 (by unfold lgN; decide)]
    exact Ev.pos (by decide) (rstop ..)
  | n + 1, l, u, v, h, h', h1, h2 => by
    have ho : okD l 0 := ⟨⟨h', by omega⟩, by decide, by decide⟩
    unfold lgN at h1 h2
    refine Ev.succ ?_
    simp only [neumeref07_Split.l1]
    refine Ev.pos (by omega) (Ev.bind (rvalue_ev l 0) ?_)
    unfold valV
    rw [if_pos ho]
    refine Ev.bind (cmp2_ev _ _ x y (ok_rng (val_ok ho).1) (ok_rng hx)) ?_
    by_cases c : rcmp (valT l 0).1 (valT l 0).2 x y ≤ 0
    · rw [if_pos c] at h1
      exact Ev.pos c (h1 (by omega))
    · rw [if_neg c] at h1 h2
      refine Ev.neg c ?_
      rw [wrap_id (x := l + 1) (by omega) (by omega)]
      exact rlong L x y hx r n (l + 1) _ _ (by omega) (by omega) h1 h2
theorem rsplit_loop : ∀ (n : Nat) (L : List S23) (x y : Int), L.length + n = 64 → Ok x y → Ev (fun k => neumeref07_Split.l0 k L x y) (spl n L x y) := by
  have stop : ∀ (L : List S23) (x y : Int), ¬ x > 0 → Ev (fun k => neumeref07_Split.l0 k L x y) (L, true) := by
    intro L x y h
    refine Ev.succ ?_
    simp only [neumeref07_Split.l0]
    exact Ev.neg h (Ev.now _)
  intro n
  induction n with
  | zero =>
    intro L x y hL hx
    unfold spl
    by_cases c : x > 0
    · rw [if_pos c]
      refine Ev.succ ?_
      simp only [neumeref07_Split.l0]
      refine Ev.pos c (rlong L x y hx _ 8 (-1) 0 0 (by decide) (by decide) (fun g => ?_) (fun _ => rfl))
      refine Ev.succ ?_
      simp only [neumeref07_Split.j3]
      refine Ev.neg (by omega) ?_
      rw [show ((L.length : Int) == 64) = true by rw [beq_iff_eq]; omega]
      exact rstop ..
    · rw [if_neg c]
      exact stop L x y c
  | succ n ih =>
    intro L x y hL hx
    unfold spl
    by_cases c : x > 0
    · rw [if_pos c]
      refine Ev.succ ?_
      simp only [neumeref07_Split.l0]
      refine Ev.pos c (rlong L x y hx _ 8 (-1) 0 0 (by decide) (by decide) (fun g => ?_) (fun g => ?_))
      · have g : lg x y ≤ 6 := g
        rw [if_pos g]
        show Ev (fun k => neumeref07_Split.j3 k L (lg x y) x y (valT (lg x y) 0).1 (valT (lg x y) 0).2) _
        refine Ev.succ ?_
        simp only [neumeref07_Split.j3]
        refine Ev.neg (by omega) ?_
        rw [show ((L.length : Int) == 64) = false by rw [beq_eq_false_iff_ne]; omega]
        refine Ev.succ ?_
        simp only [neumeref07_Split.j4]
        refine Ev.neg (by decide) (Ev.pos (by omega) (Ev.bind (sub2_ev _ _ _ _ (ok_rng hx) (ok_rng (val_ok (okl x y g)).1)) ?_))
        by_cases z : (rsub x y (valT (lg x y) 0).1 (valT (lg x y) 0).2).2.2 = 0
        · rw [if_pos z]
          exact Ev.pos z (ih _ _ _ (by rw [List.length_append, List.length_singleton]; omega) (rsub_ok hx (val_ok (okl x y g)).1 z))
        · rw [if_neg z]
          exact Ev.neg z (Ev.now _)
      · exact if_neg g
    · rw [if_neg c]
      exact stop L x y c
theorem rsplit_ev (x y : Int) (hx : -9223372036854775808 ≤ x ∧ x ≤ 9223372036854775807) : Ev (fun k => neumeref07_Split.f k x y) (splV x y) := by
  have no : Ev (fun k => neumeref07_Split.j0 k true x y) ([], false) := by
    refine Ev.succ ?_
    simp only [neumeref07_Split.j0]
    exact Ev.pos trivial (Ev.now _)
  unfold neumeref07_Split.f splV
  refine Ev.bind (check2_ev x y hx) ?_
  by_cases h : Ok x y
  · rw [decide_eq_true h]
    refine Ev.pos rfl ?_
    by_cases c : 0 < x
    · rw [if_pos ⟨h, c⟩, decide_eq_false (by omega)]
      refine Ev.succ ?_
      simp only [neumeref07_Split.j0]
      exact Ev.neg (by decide) (rsplit_loop 64 [] x y rfl h)
    · rw [if_neg (fun q => c q.2), decide_eq_true (by omega)]
      exact no
  · rw [decide_eq_false h, if_neg (fun q => h q.1)]
    exact Ev.neg (by decide) no
theorem splV_len (x y : Int) : (splV x y).1.length ≤ 64 := by
  unfold splV
  split
  · exact spl_len 64 [] x y rfl
  · exact Nat.zero_le _
theorem durs_same (L : List S23) (hL : L.length ≤ 1000) : Ev (fun k => neumeref07_Same.f k L L) true := by
  have loop : ∀ (n i : Nat), i + n = L.length → Ev (fun k => neumeref07_Same.l0 k L L (i : Int)) true := by
    intro n
    induction n with
    | zero =>
      intro i hi
      refine Ev.succ ?_
      simp only [neumeref07_Same.l0]
      exact Ev.neg (by omega) (Ev.now _)
    | succ n ih =>
      intro i hi
      refine Ev.succ ?_
      simp only [neumeref07_Same.l0]
      refine Ev.pos (by omega) (Ev.pos (by omega) (Ev.pos (by omega) (Ev.neg (by simp) ?_)))
      rw [wrap_id (x := (i : Int) + 1) (by omega) (by omega)]
      exact ih (i + 1) (by omega)
  unfold neumeref07_Same.f
  exact Ev.pos rfl (loop L.length 0 (by omega))
end Go.Proofs.YtdiccfonlojlfaaGreatDoor.Rp