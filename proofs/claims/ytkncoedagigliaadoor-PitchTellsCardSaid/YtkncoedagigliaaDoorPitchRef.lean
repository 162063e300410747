/- What the document's functions on pitches tell, beside the program's. -/
import Derived.Test.YtkncoedagigliaaDoorPitchTab
import Derived.Test.YtkncoedagigliaaDoorPx7
import Derived.Test.YtkncoedagigliaaDoorPx7
import Derived.Test.YtkncoedagigliaaDoorPx6
import Derived.Test.YtkncoedagigliaaDoorPx6
import Derived.Test.YtkncoedagigliaaDoorPx6
import Derived.Test.YtkncoedagigliaaDoorPx3
namespace Go.Proofs.YtkncoedagigliaaDoor.Rp
open Go.RowKit Go.Proofs.YtkncoedagigliaaDoor.P Go.Proofs.YtkncoedagigliaaDoorW.PrintWords Go.Proofs.YtkncoedagigliaaDoorW.PrintLast Go.Proofs.YtkncoedagigliaaDoorW.PrintMore
set_option linter.unusedVariables false
set_option linter.unusedSimpArgs false
theorem rcheck_eq (s a o : Int) : neumeref06_Check.f s a o = some (decide (okP s a o)) := by
  unfold neumeref06_Check.f
  by_cases h1 : s ≥ 0
  · rw [if_pos h1]
    by_cases h2 : s ≤ 6
    · rw [if_pos h2]
      by_cases h3 : a ≥ -2
      · rw [if_pos h3]
        by_cases h4 : a ≤ 2
        · rw [if_pos h4]
          by_cases h5 : o ≥ 0
          · rw [if_pos h5]; congr 1; apply decide_eq_decide.2; unfold okP; omega
          · rw [if_neg h5, decide_eq_false (by unfold okP; omega)]
        · rw [if_neg h4, decide_eq_false (by unfold okP; omega)]
      · rw [if_neg h3, decide_eq_false (by unfold okP; omega)]
    · rw [if_neg h2, decide_eq_false (by unfold okP; omega)]
  · rw [if_neg h1, decide_eq_false (by unfold okP; omega)]
theorem rcount_eq (s a o : Int) : neumeref06_Count.f s a o = some (if okP s a o then 7 * o + s else -1) := by
  unfold neumeref06_Count.f
  rw [rcheck_eq, Option.bind_some]
  by_cases h : okP s a o
  · have h' := h
    unfold okP at h'
    rw [if_pos (decide_eq_true h), if_pos h, wid (x := 7 * o) (by omega) (by omega), wid (by omega) (by omega)]
  · rw [if_neg (by rw [decide_eq_true_eq]; exact h), if_neg h]
theorem tab_tone : ((List.range 7).all fun (s : Nat) => (List.range 5).all fun (a : Nat) => (List.range 10).all fun (o : Nat) => decide (neumeref06_Tone.f (s : Int) ((a : Int) - 2) (o : Int) = pitch_Tone.f (s : Int) ((a : Int) - 2) (o : Int)) && (pitch_Tone.f (s : Int) ((a : Int) - 2) (o : Int)).isSome) = true := by decide +kernel
theorem tone_both (s a o : Int) : ∃ v, pitch_Tone.f s a o = some v ∧ neumeref06_Tone.f s a o = some v := by
  by_cases h : okP s a o
  · obtain ⟨h1, h2, h3, h4, h5, h6⟩ := h
    have t := List.all_eq_true.1 tab_tone s.toNat (List.mem_range.2 (by omega))
    have t := List.all_eq_true.1 t (a + 2).toNat (List.mem_range.2 (by omega))
    have t := List.all_eq_true.1 t o.toNat (List.mem_range.2 (by omega))
    rw [show ((s.toNat : Nat) : Int) = s by omega, show (((a + 2).toNat : Nat) : Int) - 2 = a by omega, show ((o.toNat : Nat) : Int) = o by omega, Bool.and_eq_true] at t
    obtain ⟨v, hv⟩ := Option.isSome_iff_exists.1 t.2
    exact ⟨v, hv, (of_decide_eq_true t.1).trans hv⟩
  · refine ⟨-1, ?_, ?_⟩
    · unfold pitch_Tone.f
      rw [check_eq, Option.bind_some, if_neg (by rw [decide_eq_true_eq]; exact h)]
    · unfold neumeref06_Tone.f
      rw [rcheck_eq, Option.bind_some, if_neg (by rw [decide_eq_true_eq]; exact h)]
theorem tab_name : ((List.range 7).all fun (s : Nat) => (List.range 5).all fun (a : Nat) => (List.range 10).all fun (o : Nat) => decide ((neumeref06_Name.f 20 (s : Int) ((a : Int) - 2) (o : Int)).map (fun t => t.data.toList) = (pitch_Name.f (s : Int) ((a : Int) - 2) (o : Int)).map (fun t => t.data.toList))) = true := by decide +kernel
theorem rname (s a o : Int) : ∃ t, pitch_Name.f s a o = some t ∧ Ev (fun k => neumeref06_Name.f k s a o) t := by
  by_cases h : okP s a o
  · obtain ⟨t, ht, _⟩ := name_ok h
    obtain ⟨h1, h2, h3, h4, h5, h6⟩ := h
    have q := List.all_eq_true.1 tab_name s.toNat (List.mem_range.2 (by omega))
    have q := List.all_eq_true.1 q (a + 2).toNat (List.mem_range.2 (by omega))
    have q := of_decide_eq_true (List.all_eq_true.1 q o.toNat (List.mem_range.2 (by omega)))
    rw [show ((s.toNat : Nat) : Int) = s by omega, show (((a + 2).toNat : Nat) : Int) - 2 = a by omega, show ((o.toNat : Nat) : Int) = o by omega, ht] at q
    cases hr : neumeref06_Name.f 20 s a o with
    | none => rw [hr] at q; cases q
    | some u =>
      rw [hr] at q
      simp only [Option.map_some, Option.some.injEq] at q
      have e : u = t := by cases u; cases t; simp only at q; congr 1; exact Array.toList_inj.1 q
      subst e
      exact ⟨u, ht, Ev.of (neumeref06_Name.mono s a o) hr⟩
  · refine ⟨_, name_no h, ?_⟩
    unfold neumeref06_Name.f
    refine Ev.bindc (rcheck_eq s a o) ?_
    rw [decide_eq_false h]
    exact Ev.neg (by decide) (Ev.now _)
theorem rmiddle_eq (c : Int) : neumeref06_middle.f c = some (if clefP c then midV c else -1) := by
  unfold neumeref06_middle.f midV
  by_cases h1 : c = 26
  · subst h1; rfl
  rw [if_neg h1, if_neg h1]
  by_cases h2 : c = 27
  · subst h2; rfl
  rw [if_neg h2, if_neg h2]
  by_cases h3 : c = 28
  · subst h3; rfl
  rw [if_neg h3, if_neg h3]
  by_cases h4 : c = 29
  · subst h4; rfl
  rw [if_neg h4, if_neg (show ¬ clefP c by unfold clefP; omega)]
theorem rplace_ev (s a o c : Int) : Ev (fun k => neumeref06_Place.f k s a o c) (if clefP c ∧ okP s a o then (7 * o + s - midV c, 0) else (0, 2)) := by
  have hm := mid_bd c
  have no : ∀ p : Prop, ∀ _ : Decidable p, ¬ p → Ev (fun k => neumeref06_Place.j0 k c true s a o) (if p then (7 * o + s - midV c, 0) else (0, 2)) := by
    intro p _ hp
    rw [if_neg hp]
    refine Ev.succ ?_
    simp only [neumeref06_Place.j0]
    exact Ev.pos trivial (Ev.now _)
  unfold neumeref06_Place.f
  refine Ev.bindc (rcheck_eq s a o) ?_
  by_cases h : okP s a o
  · refine Ev.pos (decide_eq_true h) (Ev.bindc (rmiddle_eq c) ?_)
    by_cases hc : clefP c
    · rw [if_pos hc, decide_eq_false (show ¬ midV c < 0 by omega), if_pos ⟨hc, h⟩]
      refine Ev.succ ?_
      simp only [neumeref06_Place.j0]
      have h' := h
      unfold okP at h'
      refine Ev.neg (by simp) (Ev.bindc (rcount_eq s a o) (Ev.bindc (rmiddle_eq c) ?_))
      rw [if_pos h, if_pos hc, wid (by omega) (by omega)]
      exact Ev.now _
    · rw [if_neg hc]
      exact no _ _ (fun q => hc q.1)
  · exact Ev.neg (by rw [decide_eq_true_eq]; exact h) (no _ _ (fun q => h q.2))
theorem rof_eq (n : Int) : neumeref06_of.f n = some (if 0 ≤ n ∧ n ≤ 69 then (n % 7, 0, n / 7, true) else (0, 0, 0, false)) := by
  unfold neumeref06_of.f
  by_cases h : n < 0
  · rw [if_pos h, if_neg (by omega)]
  rw [if_neg h]
  by_cases h' : n > 69
  · rw [if_pos h', if_neg (by omega)]
  rw [if_neg h', if_pos (by omega), Int.tmod_eq_emod_of_nonneg (by omega), Int.tdiv_eq_ediv_of_nonneg (by omega), wid (by omega) (by omega)]
theorem rat_ev (p c : Int) : Ev (fun k => neumeref06_At.f k p c) (if clefP c then (if -1000 ≤ p ∧ p ≤ 1000 then (if 0 ≤ midV c + p ∧ midV c + p ≤ 69 then ((midV c + p) % 7, 0, (midV c + p) / 7, 0) else (0, 0, 0, 20)) else (0, 0, 0, 20)) else (0, 0, 0, 2)) := by
  have hm := mid_bd c
  unfold neumeref06_At.f
  refine Ev.bindc (rmiddle_eq c) ?_
  by_cases hc : clefP c
  · rw [if_pos hc, if_pos hc]
    refine Ev.neg (show ¬ midV c < 0 by omega) ?_
    by_cases h : -1000 ≤ p ∧ p ≤ 1000
    · rw [if_pos h]
      refine Ev.neg (by omega) ?_
      rw [decide_eq_false (show ¬ p > 1000 by omega)]
      refine Ev.succ ?_
      simp only [neumeref06_At.j0]
      refine Ev.neg (by simp) ?_
      rw [wid (x := midV c + p) (by omega) (by omega)]
      refine Ev.bindc (rof_eq _) ?_
      by_cases h3 : 0 ≤ midV c + p ∧ midV c + p ≤ 69
      · rw [if_pos h3, if_pos h3]
        exact Ev.pos rfl (Ev.now _)
      · rw [if_neg h3, if_neg h3]
        exact Ev.neg (by simp) (Ev.now _)
    · rw [if_neg h]
      have core : Ev (fun k => neumeref06_At.j0 k p (midV c) true) (0, 0, 0, 20) := by
        refine Ev.succ ?_
        simp only [neumeref06_At.j0]
        exact Ev.pos trivial (Ev.now _)
      by_cases hq : p < -1000
      · exact Ev.pos hq core
      · refine Ev.neg hq ?_
        rw [decide_eq_true (show p > 1000 by omega)]
        exact core
  · rw [if_neg hc, if_neg hc]
    exact Ev.pos (by decide) (Ev.now _)
/-- The document looks for the first pitch of that name. -/
def isN (x : ByteArray) (s a o : Int) : Prop := (pitch_Name.f s a o).map (fun t => t.toList) = some x.toList
theorem isN_ok {x : ByteArray} {s a o : Int} (h : okP s a o) (hn : isN x s a o) : pitch_Parse.f x = some (s, a, o, true) := by
  obtain ⟨t, ht, hr⟩ := name_ok h
  unfold isN at hn
  rw [ht, Option.map_some, Option.some.injEq] at hn
  rw [← toList_inj hn]
  exact hr
section
variable (x : ByteArray) (r : Int × Int × Int × Bool)
/-- What there is to find. -/
def found (x : ByteArray) (r : Int × Int × Int × Bool) : Prop := ∀ s a o, okP s a o → isN x s a o → r = (s, a, o, true)
theorem l2_ev (hf : found x r) (s a : Int) (hs : 0 ≤ s ∧ s ≤ 6) (ha : -2 ≤ a ∧ a ≤ 2) (hno : (∀ o, 0 ≤ o → o ≤ 9 → ¬ isN x s a o) → Ev (fun k => neumeref06_Parse.l1 k x s (a + 1)) r) :
    ∀ (n : Nat) (o : Int), 0 ≤ o → o ≤ 10 → (10 - o).toNat = n → (∀ q, 0 ≤ q → q < o → ¬ isN x s a q) → Ev (fun k => neumeref06_Parse.l2 k x s a o) r := by
  intro n
  induction n with
  | zero =>
    intro o h0 h1 hn hb
    obtain rfl : o = 10 := by omega
    refine Ev.succ ?_
    simp only [neumeref06_Parse.l2]
    refine Ev.neg (by decide) ?_
    rw [wid (x := a + 1) (by omega) (by omega)]
    exact hno (fun q h h' => hb q h (by omega))
  | succ n ih =>
    intro o h0 h1 hn hb
    refine Ev.succ ?_
    simp only [neumeref06_Parse.l2]
    refine Ev.pos (by omega) ?_
    obtain ⟨t, ht, hr⟩ := rname s a o
    refine Ev.bind hr ?_
    by_cases hq : t.toList = x.toList
    · have hi : isN x s a o := by unfold isN; rw [ht, Option.map_some, hq]
      rw [hf s a o ⟨hs.1, hs.2, ha.1, ha.2, h0, by omega⟩ hi]
      exact Ev.pos hq (Ev.now _)
    · refine Ev.neg hq ?_
      rw [wid (x := o + 1) (by omega) (by omega)]
      refine ih (o + 1) (by omega) (by omega) (by omega) (fun q h h' => ?_)
      by_cases e : q = o
      · subst e
        intro hi
        unfold isN at hi
        rw [ht, Option.map_some, Option.some.injEq] at hi
        exact hq hi
      · exact hb q h (by omega)
theorem l1_ev (hf : found x r) (s : Int) (hs : 0 ≤ s ∧ s ≤ 6) (hno : (∀ a o, -2 ≤ a → a ≤ 2 → 0 ≤ o → o ≤ 9 → ¬ isN x s a o) → Ev (fun k => neumeref06_Parse.l0 k x (s + 1)) r) :
    ∀ (n : Nat) (a : Int), -2 ≤ a → a ≤ 3 → (3 - a).toNat = n → (∀ q o, -2 ≤ q → q < a → 0 ≤ o → o ≤ 9 → ¬ isN x s q o) → Ev (fun k => neumeref06_Parse.l1 k x s a) r := by
  intro n
  induction n with
  | zero =>
    intro a h0 h1 hn hb
    obtain rfl : a = 3 := by omega
    refine Ev.succ ?_
    simp only [neumeref06_Parse.l1]
    refine Ev.neg (by decide) ?_
    rw [wid (x := s + 1) (by omega) (by omega)]
    exact hno (fun q o h h' => hb q o h (by omega))
  | succ n ih =>
    intro a h0 h1 hn hb
    refine Ev.succ ?_
    simp only [neumeref06_Parse.l1]
    refine Ev.pos (by omega) ?_
    refine l2_ev x r hf s a hs ⟨h0, by omega⟩ (fun hall => ih (a + 1) (by omega) (by omega) (by omega) (fun q o h h' => ?_)) _ 0 (by omega) (by omega) rfl (fun q h h' => by omega)
    by_cases e : q = a
    · subst e; exact hall o
    · exact hb q o h (by omega)
theorem l0_ev (hf : found x r) (hno : (∀ s a o, okP s a o → ¬ isN x s a o) → r = (0, 0, 0, false)) :
    ∀ (n : Nat) (s : Int), 0 ≤ s → s ≤ 7 → (7 - s).toNat = n → (∀ q a o, 0 ≤ q → q < s → -2 ≤ a → a ≤ 2 → 0 ≤ o → o ≤ 9 → ¬ isN x q a o) → Ev (fun k => neumeref06_Parse.l0 k x s) r := by
  intro n
  induction n with
  | zero =>
    intro s h0 h1 hn hb
    obtain rfl : s = 7 := by omega
    refine Ev.succ ?_
    simp only [neumeref06_Parse.l0]
    refine Ev.neg (by decide) ?_
    rw [hno (fun s a o q => hb s a o q.1 (by have := q.2.1; omega) q.2.2.1 q.2.2.2.1 q.2.2.2.2.1 q.2.2.2.2.2)]
    exact Ev.now _
  | succ n ih =>
    intro s h0 h1 hn hb
    refine Ev.succ ?_
    simp only [neumeref06_Parse.l0]
    refine Ev.pos (by omega) ?_
    refine l1_ev x r hf s ⟨h0, by omega⟩ (fun hall => ih (s + 1) (by omega) (by omega) (by omega) (fun q a o h h' => ?_)) _ (-2) (by omega) (by omega) rfl (fun q o h h' => by omega)
    by_cases e : q = s
    · subst e; exact hall a o
    · exact hb q a o h (by omega)
end
theorem count_some (s : ByteArray) (l : List UInt8) (hs : s.size ≤ 200) (hl : l ≠ []) : ∃ v, strings_Count.f s ⟨l.toArray⟩ = some v := by
  unfold strings_Count.f
  rw [if_pos (by omega), if_pos]
  · exact ⟨_, rfl⟩
  · cases l with
    | nil => exact absurd rfl hl
    | cons a l => simp [ByteArray.size]
theorem trim_some (x : ByteArray) (hx : x.size ≤ 100) : ∃ t, strings_TrimRight.f x (⟨#[39, 44]⟩ : ByteArray) = some t ∧ t.size ≤ x.size := by
  unfold strings_TrimRight.f
  rw [if_pos (by omega), if_pos (by decide), if_pos (by decide)]
  refine ⟨_, rfl, ?_⟩
  show (Lib.trimRightS _ _).length ≤ _
  unfold Lib.trimRightS
  rw [List.length_reverse]
  refine Nat.le_trans ((List.dropWhile_sublist _).length_le) ?_
  rw [List.length_reverse]
  exact Nat.le_of_eq (by cases x; rfl)
theorem parse_tells (x : ByteArray) (hx : x.size ≤ 100) : ∃ v, pitch_Parse.f x = some v ∧ (v = (0, 0, 0, false) ∨ ∃ s a o, v = (s, a, o, true) ∧ isN x s a o ∧ x.toList ≠ []) := by
  unfold pitch_Parse.f
  obtain ⟨t, ht, hts⟩ := trim_some x hx
  rw [ht, Option.bind_some, if_pos (by omega), if_pos (by omega)]
  have fin : ∀ s a o : Int, ∃ v, (if x.toList = ([] : List UInt8) then (some (0, 0, 0, false)) else ((pitch_Name.f s a o).bind fun t135 => (if t135.toList = x.toList then (some (s, a, o, true)) else (some (0, 0, 0, false))))) = some v ∧ (v = (0, 0, 0, false) ∨ ∃ s a o, v = (s, a, o, true) ∧ isN x s a o ∧ x.toList ≠ []) := by
    intro s a o
    by_cases e : x.toList = []
    · rw [if_pos e]; exact ⟨_, rfl, Or.inl rfl⟩
    · rw [if_neg e]
      obtain ⟨u, hu⟩ := name_any s a o
      rw [hu, Option.bind_some]
      by_cases q : u.toList = x.toList
      · rw [if_pos q]; exact ⟨_, rfl, Or.inr ⟨s, a, o, rfl, by unfold isN; rw [hu, Option.map_some, q], e⟩⟩
      · rw [if_neg q]; exact ⟨_, rfl, Or.inl rfl⟩
  have hz : ∀ (y : ByteArray) (i j : Nat), y.size ≤ 100 → (y.extract i j).size ≤ 200 := fun y i j h => by rw [ByteArray.size_extract]; omega
  obtain ⟨m1, h1⟩ := count_some (x.extract ((t.size : Int) : Int).toNat x.size) [39] (hz x _ _ hx) (by simp)
  obtain ⟨m2, h2⟩ := count_some (x.extract ((t.size : Int) : Int).toNat x.size) [44] (hz x _ _ hx) (by simp)
  rw [h1, Option.bind_some, h2, Option.bind_some]
  by_cases e : t.toList = []
  · rw [if_pos e]
    exact fin _ _ _
  · rw [if_neg e]
    have hp : 0 < t.size := by
      rcases Nat.eq_zero_or_pos t.size with h | h
      · exfalso
        apply e
        rw [Go.Lib.toList_data]
        exact List.length_eq_zero_iff.1 h
      · exact h
    rw [if_pos (by omega)]
    show ∃ v, ((some (Lib.indexByte _ _)).bind _ = some v ∧ _)
    rw [Option.bind_some, if_pos (by omega)]
    obtain ⟨m3, h3⟩ := count_some (t.extract 1 t.size) [105, 115] (hz t _ _ (by omega)) (by simp)
    obtain ⟨m4, h4⟩ := count_some (t.extract 1 t.size) [101, 115] (hz t _ _ (by omega)) (by simp)
    rw [h3, Option.bind_some, h4, Option.bind_some]
    exact fin _ _ _
theorem isN_pos {x : ByteArray} {s a o : Int} (h : isN x s a o) (hx : x.toList ≠ []) : okP s a o := by
  refine (Decidable.em (okP s a o)).elim id (fun q => ?_)
  unfold isN at h
  rw [name_no q, Option.map_some, Option.some.injEq] at h
  exact absurd (h.symm.trans (by decide +kernel)) hx
theorem parse_ref (x : ByteArray) (hx : x.size ≤ 100) : ∃ v, pitch_Parse.f x = some v ∧ Ev (fun k => neumeref06_Parse.f k x) v := by
  obtain ⟨v, hv, hw⟩ := parse_tells x hx
  refine ⟨v, hv, ?_⟩
  unfold neumeref06_Parse.f
  have hf : found x v := fun s a o hp hi => by
    have := isN_ok hp hi
    rw [hv] at this
    exact Option.some.inj this
  refine l0_ev x v hf (fun hall => ?_) _ 0 (by omega) (by omega) rfl (fun q a o h h' => by omega)
  rcases hw with hw | ⟨s, a, o, hw, hi, he⟩
  · exact hw
  · exact absurd hi (hall s a o (isN_pos hi he))
end Go.Proofs.YtkncoedagigliaaDoor.Rp
