/- The law ChordApart of layer 23: heads of rising places do not meet. -/
import Derived.Test.YtcokemaiploejaaDoorStatChordApart
import Derived.Test.YtcokemaiploejaaDoorChordSpots
namespace Go.Proofs.YtcokemaiploejaaDoor.Pure
open Go.RowKit Go.Proofs.YtcokemaiploejaaDoor.P Go.Proofs.YtcokemaiploejaaDoor.Rp Go.Proofs.YtcokemaiploejaaDoorW.PrintWords Go.Proofs.YtcokemaiploejaaDoorW.PrintLast
set_option linter.unusedVariables false
set_option linter.unusedSimpArgs false
theorem bl_ok (g : Int) (s : Bool) (l xs : List Int) (hx : ∀ i, i < l.length → ¬ (xs.getD i 0 < -1073741824 ∨ 1073741824 < xs.getD i 0)) : ∀ (d i : Nat) (acc : List S46), i + d = l.length → acc.length = i → (∀ j, j < i → acc.getD j z46 = bx g s (l.getD j 0) (xs.getD j 0)) → ∃ r, bl g s l xs d i acc = (r, 0) ∧ r.length = l.length ∧ ∀ j, j < l.length → r.getD j z46 = bx g s (l.getD j 0) (xs.getD j 0) := by
  intro d
  induction d with
  | zero =>
    intro i acc hd ha hb
    refine ⟨acc, rfl, by omega, fun j hj => hb j (by omega)⟩
  | succ d ih =>
    intro i acc hd ha hb
    simp only [bl]
    rw [if_neg (hx i (by omega))]
    refine ih (i + 1) _ (by omega) (by rw [List.length_append, ha]; rfl) (fun j hj => ?_)
    by_cases c : j < i
    · rw [← hb j c, List.getD_eq_getElem?_getD, List.getElem?_append_left (by omega), ← List.getD_eq_getElem?_getD]
    · have e : j = i := by omega
      subst e
      rw [List.getD_eq_getElem?_getD, List.getElem?_append_right (by omega), ha, Nat.sub_self]; rfl
/-- Of two neighbours one is on the other side. -/
theorem sd_one {l : List Int} (hf : Ft l) (up : Bool) {i : Nat} (h : 0 < i) (hi : i < l.length) : ¬ ((sd l up)[i]'(by rw [sd_length]; exact hi) = 1 ∧ (sd l up)[i - 1]'(by rw [sd_length]; omega) = 1) := by
  rw [sd_at hf up hi, sd_at hf up (i := i - 1) (by omega)]
  cases up
  · simp only [Bool.false_eq_true, if_false]
    have hs := bit_succ l.reverse (l.length - 1 - i) (rev_bd hf) (by rw [List.length_reverse]; omega)
    rw [show l.length - 1 - i + 1 = l.length - 1 - (i - 1) by omega] at hs
    rw [hs]
    cases bit l.reverse (l.length - 1 - i) <;> simp
  · simp only [if_true]
    have hs := bit_succ l (i - 1) (l_bd hf) (by omega)
    rw [show i - 1 + 1 = i by omega] at hs
    rw [hs]
    cases bit l (i - 1) <;> simp
theorem chk_some (a b c d : Int) : ∃ t, neumeref03_Check.f a b c d = some t := by
  unfold neumeref03_Check.f neumeref01_Ok.f
  by_cases h1 : a ≥ -1099511627776 <;> by_cases h2 : b ≥ -1099511627776 <;> by_cases h3 : c ≥ -1099511627776 <;> by_cases h4 : d ≥ -1099511627776 <;> simp only [h1, h2, h3, h4, if_true, if_false, Option.bind_some] <;> (repeat' split) <;> exact ⟨_, rfl⟩
theorem meet_no {a0 a1 a2 a3 b0 b1 b2 b3 : Int} (h : ¬ (mx a0 b0 < mn a2 b2 ∧ mx a1 b1 < mn a3 b3)) : neumeref03_Meet.f a0 a1 a2 a3 b0 b1 b2 b3 = some false := by
  obtain ⟨t, ht⟩ := chk_some a0 a1 a2 a3
  obtain ⟨u, hu⟩ := chk_some b0 b1 b2 b3
  unfold neumeref03_Meet.f
  rw [ht, hu, Option.bind_some, Option.bind_some]
  by_cases c1 : t = true
  · rw [if_pos c1]
    by_cases c2 : u = true
    · rw [if_pos c2]
      by_cases c3 : mx a0 b0 < mn a2 b2
      · rw [if_pos c3, decide_eq_false (fun q => h ⟨c3, q⟩)]
      · rw [if_neg c3]
    · rw [if_neg c2]
  · rw [if_neg c1]
theorem rising {l : List Int} (hr : ∀ i, 0 < i → i < l.length → l.getD (i - 1) 0 < l.getD i 0) : ∀ (d i : Nat), i + d < l.length → l.getD i 0 + d ≤ l.getD (i + d) 0 := by
  intro d
  induction d with
  | zero => intro i _; simp
  | succ d ih =>
    intro i hi
    have h1 := ih i (by omega)
    have h2 := hr (i + d + 1) (by omega) (by omega)
    rw [show i + d + 1 - 1 = i + d by omega] at h2
    rw [show i + (d + 1) = i + d + 1 by omega]
    omega
theorem sp_at (l : List Int) (g : Int) (up s : Bool) {i : Nat} (hi : i < l.length) : (sp l g up s).getD i 0 = sw1 g up s ((sd l up)[i]'(by rw [sd_length]; exact hi)) := by
  rw [getD_at (by rw [sp_length]; exact hi)]
  unfold sp
  rw [List.getElem_map]
theorem apart {l : List Int} {g : Int} {up s : Bool} (hf : Ft l) (hr : ∀ i, 0 < i → i < l.length → l.getD (i - 1) 0 < l.getD i 0) {i j : Nat} (hj : j < i) (hi : i < l.length) (A B : S46) (hA : A = bx g s (l.getD i 0) ((sp l g up s).getD i 0)) (hB : B = bx g s (l.getD j 0) ((sp l g up s).getD j 0)) : neumeref03_Meet.f A.f0 A.f1 A.f2 A.f3 B.f0 B.f1 B.f2 B.f3 = some false := by
  have hw := wd_bd g s
  have h2 := hh_bd s
  have hd := rising hr (i - j) j (by omega)
  rw [show j + (i - j) = i by omega] at hd
  subst hA hB
  refine meet_no ?_
  simp only [bx]
  by_cases c : j + 1 = i
  · have ej : j = i - 1 := by omega
    subst ej
    rw [sp_at l g up s hi, sp_at l g up s (i := i - 1) (by omega)]
    obtain ⟨q1, q2, -⟩ := sd_like hf up hi
    obtain ⟨q3, -, -⟩ := sd_like hf up (i := i - 1) (by omega)
    have q4 := sd_one hf up (by omega) hi
    replace q2 := q2 (by omega)
    obtain ⟨x, ex⟩ : ∃ x, (sd l up)[i]'(by rw [sd_length]; exact hi) = x := ⟨_, rfl⟩
    obtain ⟨y, ey⟩ : ∃ y, (sd l up)[i - 1]'(by rw [sd_length]; omega) = y := ⟨_, rfl⟩
    rw [ex] at q1 q2 q4
    rw [ey] at q2 q3 q4
    rw [ex, ey]
    by_cases c2 : l.getD i 0 - l.getD (i - 1) 0 ≤ 1
    · have q2 := q2 c2
      intro m; replace m := m.1
      revert m
      unfold sw1 mx mn
      (repeat' split) <;> omega
    · intro m; replace m := m.2
      revert m
      unfold mx mn
      (repeat' split) <;> omega
  · intro m; replace m := m.2
    revert m
    unfold mx mn
    (repeat' split) <;> omega
theorem apart_l2 {l : List Int} {g : Int} {up s : Bool} (hf : Ft l) (hr : ∀ i, 0 < i → i < l.length → l.getD (i - 1) 0 < l.getD i 0) (r : List S46) (hl : r.length = l.length) (hb : ∀ j, j < l.length → r.getD j z46 = bx g s (l.getD j 0) ((sp l g up s).getD j 0)) {i : Nat} (hi : i < l.length) (next : Ev (fun k => neumelaw23_ChordApart.l1 k r ((i + 1 : Nat) : Int)) true) : ∀ (d j : Nat), j + d = i → Ev (fun k => neumelaw23_ChordApart.l2 k r i j) true := by
  intro d
  have hn := hf.1
  induction d with
  | zero =>
    intro j hd
    refine Ev.succ ?_
    simp only [neumelaw23_ChordApart.l2]
    rw [wrap_id (x := (i : Int) + 1) (by omega) (by omega), show ((i : Nat) : Int) + 1 = ((i + 1 : Nat) : Int) by omega]
    exact Ev.neg (by omega) next
  | succ d ih =>
    intro j hd
    refine Ev.succ ?_
    simp only [neumelaw23_ChordApart.l2]
    rw [wrap_id (x := (j : Int) + 1) (by omega) (by omega), show ((j : Nat) : Int) + 1 = ((j + 1 : Nat) : Int) by omega]
    refine Ev.pos (by omega) (Ev.pos (by omega) (Ev.pos (by omega) (Ev.pos (by omega) (Ev.pos (by omega) (Ev.bindc (apart (g := g) (up := up) (s := s) hf hr (j := j) (i := i) (by omega) hi _ _ ?_ ?_) (Ev.neg (by decide) (ih (j + 1) (by omega))))))))
    · unfold rd_T46; rw [Int.toNat_natCast]; exact hb i hi
    · unfold rd_T46; rw [Int.toNat_natCast]; exact hb j (by omega)
theorem apart_l1 {l : List Int} {g : Int} {up s : Bool} (hf : Ft l) (hr : ∀ i, 0 < i → i < l.length → l.getD (i - 1) 0 < l.getD i 0) (r : List S46) (hl : r.length = l.length) (hb : ∀ j, j < l.length → r.getD j z46 = bx g s (l.getD j 0) ((sp l g up s).getD j 0)) : ∀ (d i : Nat), i + d = l.length → Ev (fun k => neumelaw23_ChordApart.l1 k r i) true := by
  intro d
  induction d with
  | zero =>
    intro i hd
    refine Ev.succ ?_
    simp only [neumelaw23_ChordApart.l1]
    exact Ev.neg (by omega) heads_bind
  | succ d ih =>
    intro i hd
    refine Ev.succ ?_
    simp only [neumelaw23_ChordApart.l1]
    exact Ev.pos (by omega) (apart_l2 hf hr r hl hb (by omega) (ih (i + 1) (by omega)) i 0 (by omega))
theorem apart_end (l : List Int) (g : Int) (up s : Bool) (hr : ∀ i, 0 < i → i < l.length → l.getD (i - 1) 0 < l.getD i 0) :
    Ev (fun k => (chord_Spots.f k l g up s).bind fun bt511 => if bt511.2 = 0 then (chord_Boxes.f k l bt511.1 g s).bind fun bt516 => if bt516.2 = 0 then neumelaw23_ChordApart.j1 k bt516.1 ((bt516.1.length : Int) != (l.length : Int)) else neumelaw23_ChordApart.j1 k bt516.1 true else if (bt511.1.length : Int) = 0 then (neumelaw23_heads.f k).bind fun t515 => some t515 else some false) true := by
  refine Ev.bind (spots_ev l g up s) ?_
  by_cases c : Ft l ∧ Hd g
  · rw [if_pos c]
    refine Ev.pos rfl (Ev.bind (boxes_ev l (sp l g up s) g s) ?_)
    rw [if_pos ⟨c.1, c.2, sp_length l g up s⟩]
    have hw := wd_bd g s
    obtain ⟨r, h1, h2, h3⟩ := bl_ok g s l (sp l g up s) (fun i hi => by rw [sp_at l g up s hi]; unfold sw1; (repeat' split) <;> omega) l.length 0 [] (by omega) rfl (fun j hj => absurd hj (Nat.not_lt_zero _))
    rw [h1]
    refine Ev.pos rfl (Ev.succ ?_)
    simp only [neumelaw23_ChordApart.j1]
    exact Ev.neg (by simp [h2]) (apart_l1 c.1 hr r h2 h3 l.length 0 (by omega))
  · rw [if_neg c]
    exact Ev.neg (by decide) (Ev.pos (by simp) heads_bind)
theorem apart_l0 (l : List Int) (g : Int) (up s : Bool) (hl : l.length ≤ 100) : ∀ (d i : Nat), 1 ≤ i → l.length - i = d → (∀ j, 0 < j → j < i → j < l.length → l.getD (j - 1) 0 < l.getD j 0) → Ev (fun k => neumelaw23_ChordApart.l0 k l g up s i) true := by
  intro d
  induction d with
  | zero =>
    intro i h1 hd hr
    refine Ev.succ ?_
    simp only [neumelaw23_ChordApart.l0]
    exact Ev.neg (by omega) (apart_end l g up s (fun j h2 h3 => hr j h2 (by omega) h3))
  | succ d ih =>
    intro i h1 hd hr
    refine Ev.succ ?_
    simp only [neumelaw23_ChordApart.l0]
    rw [wrap_id (x := (i : Int) - 1) (by omega) (by omega), wrap_id (x := (i : Int) + 1) (by omega) (by omega), show ((i : Nat) : Int) + 1 = ((i + 1 : Nat) : Int) by omega, show ((i : Nat) : Int) - 1 = ((i - 1 : Nat) : Int) by omega, rd_eq l (i := i) (by omega), rd_eq l (i := i - 1) (by omega)]
    refine Ev.pos (by omega) (Ev.pos (by omega) (Ev.pos (by omega) (Ev.pos (by omega) ?_)))
    by_cases c : l[i]'(by omega) ≤ l[i - 1]'(by omega)
    · exact Ev.pos c heads_bind
    · refine Ev.neg c (ih (i + 1) (by omega) (by omega) (fun j h2 h3 h4 => ?_))
      by_cases e : j = i
      · subst e
        rw [getD_at (by omega), getD_at h4]
        omega
      · exact hr j h2 (by omega) h4
theorem ChordApart : ChordApart_Pure := by
  intro l g up s _ _
  suffices h : Ev (fun k => neumelaw23_ChordApart.f k l g up s) true by
    obtain ⟨k, hk⟩ := h
    exact ⟨k, hk k (Nat.le_refl _)⟩
  unfold neumelaw23_ChordApart.f
  by_cases c : (l.length : Int) > 100
  · exact Ev.pos c heads_bind
  · exact Ev.neg c (apart_l0 l g up s (by omega) _ 1 (by omega) rfl (fun j h1 h2 => by omega))
end Go.Proofs.YtcokemaiploejaaDoor.Pure
