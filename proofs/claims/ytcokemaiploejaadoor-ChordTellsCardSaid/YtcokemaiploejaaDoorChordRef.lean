/- Heads of a chord: the second reckoning says the same. -/
import Derived.Test.YtcokemaiploejaaDoorPx6
import Derived.Test.YtcokemaiploejaaDoorPx10
import Derived.Test.YtcokemaiploejaaDoorPx11
import Derived.Test.YtcokemaiploejaaDoorPx11
import Derived.Test.YtcokemaiploejaaDoorPx5
import Derived.Test.YtcokemaiploejaaDoorPx5
import Derived.Test.YtcokemaiploejaaDoorPx15
import Derived.Test.YtcokemaiploejaaDoorChordSpots
namespace Go.Proofs.YtcokemaiploejaaDoor.Rp
open Go.RowKit Go.Proofs.YtcokemaiploejaaDoor.P Go.Proofs.YtcokemaiploejaaDoorW.PrintWords Go.Proofs.YtcokemaiploejaaDoorW.PrintLast
set_option linter.unusedVariables false
set_option linter.unusedSimpArgs false
theorem rd_nat (l : List Int) (i : Nat) : rd l (i : Int) = l.getD i 0 := rfl
theorem fits17_l0 (l : List Int) (hl : l.length ≤ 1000) : ∀ (d i : Nat), i + d = l.length → ∃ r, Ev (fun k => neumeref17_Fits.l0 k l i) r ∧ (r = true ↔ (1 ≤ l.length ∧ l.length ≤ 16) ∧ ∀ j, i ≤ j → j < l.length → -200 ≤ l.getD j 0 ∧ l.getD j 0 ≤ 200) := by
  intro d
  induction d with
  | zero =>
    intro i hd
    by_cases c : (l.length : Int) ≥ 1
    · refine ⟨decide ((l.length : Int) ≤ 16), Ev.succ ?_, ?_⟩
      · simp only [neumeref17_Fits.l0]
        exact Ev.neg (by omega) (Ev.pos c (Ev.now _))
      · rw [decide_eq_true_iff]
        exact ⟨fun q => ⟨by omega, fun j h1 h2 => by omega⟩, fun q => by have := q.1; omega⟩
    · refine ⟨false, Ev.succ ?_, ?_⟩
      · simp only [neumeref17_Fits.l0]
        exact Ev.neg (by omega) (Ev.neg c (Ev.now _))
      · exact ⟨fun q => Bool.noConfusion q, fun q => by have := q.1; omega⟩
  | succ d ih =>
    intro i hd
    by_cases c : l.getD i 0 < -200 ∨ l.getD i 0 > 200
    · refine ⟨false, Ev.succ ?_, ⟨fun q => Bool.noConfusion q, fun q => by have := q.2 i (Nat.le_refl _) (by omega); omega⟩⟩
      simp only [neumeref17_Fits.l0]
      rw [rd_nat]
      refine Ev.pos (by omega) (Ev.pos (by omega) ?_)
      by_cases c1 : l.getD i 0 < -200
      · exact Ev.pos c1 (Ev.now _)
      · exact Ev.neg c1 (Ev.pos (by omega) (Ev.now _))
    · obtain ⟨r, h1, h2⟩ := ih (i + 1) (by omega)
      refine ⟨r, Ev.succ ?_, ⟨fun q => ?_, fun q => h2.2 ⟨q.1, fun j h3 h4 => q.2 j (by omega) h4⟩⟩⟩
      · simp only [neumeref17_Fits.l0]
        rw [rd_nat, wrap_id (x := (i : Int) + 1) (by omega) (by omega), show ((i : Nat) : Int) + 1 = ((i + 1 : Nat) : Int) by omega]
        exact Ev.pos (by omega) (Ev.pos (by omega) (Ev.neg (by omega) (Ev.neg (by omega) h1)))
      · have h3 := h2.1 q
        refine ⟨h3.1, fun j h4 h5 => ?_⟩
        by_cases e : j = i
        · subst e; omega
        · exact h3.2 j (by omega) h5
theorem fits23_l0 (l : List Int) (hl : l.length ≤ 1000) : ∀ (d i : Nat), 1 ≤ i → l.length - i = d → ∃ r, Ev (fun k => neumeref23_fits.l0 k l i) r ∧ (r = true ↔ ∀ j, i ≤ j → j < l.length → l.getD (j - 1) 0 ≤ l.getD j 0) := by
  intro d
  induction d with
  | zero =>
    intro i h0 hd
    refine ⟨true, Ev.succ ?_, ⟨fun _ j h1 h2 => by omega, fun _ => rfl⟩⟩
    simp only [neumeref23_fits.l0]
    exact Ev.neg (by omega) (Ev.now _)
  | succ d ih =>
    intro i h0 hd
    have e1 : wrap64 ((i : Int) - 1) = ((i - 1 : Nat) : Int) := by rw [wrap_id (by omega) (by omega)]; omega
    by_cases c : l.getD i 0 < l.getD (i - 1) 0
    · refine ⟨false, Ev.succ ?_, ⟨fun q => Bool.noConfusion q, fun q => by have := q i (Nat.le_refl _) (by omega); omega⟩⟩
      simp only [neumeref23_fits.l0]
      rw [e1, rd_nat, rd_nat]
      exact Ev.pos (by omega) (Ev.pos (by omega) (Ev.pos (by omega) (Ev.pos (by omega) (Ev.pos c (Ev.now _)))))
    · obtain ⟨r, h1, h2⟩ := ih (i + 1) (by omega) (by omega)
      refine ⟨r, Ev.succ ?_, ⟨fun q j h3 h4 => ?_, fun q => h2.2 (fun j h3 h4 => q j (by omega) h4)⟩⟩
      · simp only [neumeref23_fits.l0]
        rw [e1, rd_nat, rd_nat, wrap_id (x := (i : Int) + 1) (by omega) (by omega), show ((i : Nat) : Int) + 1 = ((i + 1 : Nat) : Int) by omega]
        exact Ev.pos (by omega) (Ev.pos (by omega) (Ev.pos (by omega) (Ev.pos (by omega) (Ev.neg c h1))))
      · by_cases e : j = i
        · subst e; omega
        · exact h2.1 q j (by omega) h4
theorem rfits_ev (l : List Int) (hl : l.length ≤ 1000) : Ev (fun k => neumeref23_fits.f k l) (decide (Ft l)) := by
  unfold neumeref23_fits.f neumeref17_Fits.f
  obtain ⟨r, h1, h2⟩ := fits17_l0 l hl l.length 0 (by omega)
  obtain ⟨t, h3, h4⟩ := fits23_l0 l hl _ 1 (Nat.le_refl _) rfl
  refine Ev.bind h1 ?_
  by_cases c : r = true
  · refine Ev.pos c (Ev.to h3 ?_)
    have hr := h2.1 c
    have : t = true ↔ Ft l := by
      constructor
      · intro q
        refine ⟨hr.1, fun i hi => ?_, (hr.2 0 (by omega) (by omega)).1, (hr.2 (l.length - 1) (by omega) (by omega)).2⟩
        exact h4.1 q (i + 1) (by omega) hi
      · intro q
        refine h4.2 (fun j h5 h6 => ?_)
        have := q.2.1 (j - 1) (by omega)
        rwa [show j - 1 + 1 = j by omega] at this
    by_cases f : Ft l
    · rw [decide_eq_true f]; exact this.2 f
    · rw [decide_eq_false f]; exact Bool.eq_false_iff.2 (fun q => f (this.1 q))
  · refine Ev.to (Ev.neg c (Ev.now _)) (decide_eq_false (fun q => c (h2.2 ⟨q.1, fun j _ h5 => q.bd h5⟩))).symm
theorem sdD (l : List Int) (up : Bool) {i : Nat} (hi : i < l.length) : (sd l up).getD i 0 = (sd l up)[i]'(by rw [sd_length]; exact hi) := getD_at _
theorem sd_up {l : List Int} (hf : Ft l) {i : Nat} (h0 : 0 < i) (hi : i < l.length) : (sd l true).getD i 0 = if (l.getD i 0 - l.getD (i - 1) 0 ≤ 1 ∧ l.getD i 0 - l.getD (i - 1) 0 ≥ -1) ∧ (sd l true).getD (i - 1) 0 = 0 then 1 else 0 := by
  rw [sdD l true hi, sdD l true (i := i - 1) (by omega), sd_at hf true hi, sd_at hf true (i := i - 1) (by omega)]
  simp only [if_true]
  have hs := bit_succ l (i - 1) (l_bd hf) (by omega)
  rw [show i - 1 + 1 = i by omega] at hs
  rw [hs]
  by_cases c : l.getD i 0 - l.getD (i - 1) 0 ≤ 1 ∧ l.getD i 0 - l.getD (i - 1) 0 ≥ -1
  · rw [decide_eq_true (by omega)]
    cases bit l (i - 1)
    · exact (if_pos (⟨c, rfl⟩ : _ ∧ (if false = true then (1 : Int) else 0) = 0)).symm
    · exact (if_neg (fun q => absurd q.2 (by decide))).symm
  · rw [decide_eq_false (by omega), if_neg (by simp), if_neg (fun q => c q.1)]
theorem sd_dn {l : List Int} (hf : Ft l) {i : Nat} (hi : i + 1 < l.length) : (sd l false).getD i 0 = if (l.getD i 0 - l.getD (i + 1) 0 ≤ 1 ∧ l.getD i 0 - l.getD (i + 1) 0 ≥ -1) ∧ (sd l false).getD (i + 1) 0 = 0 then 1 else 0 := by
  rw [sdD l false (i := i) (by omega), sdD l false (i := i + 1) (by omega), sd_at hf false (i := i) (by omega), sd_at hf false (i := i + 1) (by omega)]
  simp only [Bool.false_eq_true, if_false]
  have hs := bit_succ l.reverse (l.length - 1 - (i + 1)) (rev_bd hf) (by rw [List.length_reverse]; omega)
  rw [show l.length - 1 - (i + 1) + 1 = l.length - 1 - i by omega, getD_rev (i := l.length - 1 - i) (by omega), getD_rev (i := l.length - 1 - (i + 1)) (by omega), show l.length - 1 - (l.length - 1 - i) = i by omega, show l.length - 1 - (l.length - 1 - (i + 1)) = i + 1 by omega] at hs
  rw [hs]
  by_cases c : l.getD i 0 - l.getD (i + 1) 0 ≤ 1 ∧ l.getD i 0 - l.getD (i + 1) 0 ≥ -1
  · rw [decide_eq_true (by omega)]
    cases bit l.reverse (l.length - 1 - (i + 1))
    · exact (if_pos (⟨c, rfl⟩ : _ ∧ (if false = true then (1 : Int) else 0) = 0)).symm
    · exact (if_neg (fun q => absurd q.2 (by decide))).symm
  · rw [decide_eq_false (by omega), if_neg (by simp), if_neg (fun q => c q.1)]
theorem set_at {x : List Int} {m j : Nat} {v : Int} (hm : m < x.length) : (x.set m v).getD j 0 = if j = m then v else x.getD j 0 := by
  rw [List.getD_eq_getElem?_getD, List.getElem?_set]
  by_cases c : m = j
  · rw [if_pos c, if_pos hm, if_pos c.symm]; rfl
  · rw [if_neg c, if_neg (fun q => c q.symm), List.getD_eq_getElem?_getD]
theorem same_list {a b : List Int} (h : a.length = b.length) (e : ∀ j, j < b.length → a.getD j 0 = b.getD j 0) : a = b := by
  refine List.ext_getElem h (fun i h1 h2 => ?_)
  rw [← getD_at h1, ← getD_at h2]
  exact e i h2
theorem rup_l0 (l : List Int) (hf : Ft l) : ∀ (d i : Nat) (x : List Int), 1 ≤ i → i + d = l.length → x.length = l.length → (∀ j, j < i → x.getD j 0 = (sd l true).getD j 0) → (∀ j, i ≤ j → j < l.length → x.getD j 0 = 0) → Ev (fun k => neumeref23_Sides.l0 k l true (l.length : Int) x i) (sd l true, 0) := by
  intro d
  have hl := hf.1
  induction d with
  | zero =>
    intro i x h0 hd hx h1 h2
    refine Ev.succ ?_
    simp only [neumeref23_Sides.l0]
    refine Ev.neg (by omega) (Ev.const ?_)
    rw [same_list (a := x) (b := sd l true) (by rw [sd_length, hx]) (fun j hj => h1 j (by rw [sd_length] at hj; omega))]
  | succ d ih =>
    intro i x h0 hd hx h1 h2
    have b1 := hf.bd (i := i) (by omega)
    have b2 := hf.bd (i := i - 1) (by omega)
    have hu := sd_up hf (i := i) h0 (by omega)
    have hk : ¬ ((l.getD i 0 - l.getD (i - 1) 0 ≤ 1 ∧ l.getD i 0 - l.getD (i - 1) 0 ≥ -1) ∧ (sd l true).getD (i - 1) 0 = 0) → Ev (fun k => neumeref23_Sides.l0 k l true (l.length : Int) x ((i + 1 : Nat) : Int)) (sd l true, 0) := by
      intro c
      rw [if_neg c] at hu
      refine ih (i + 1) x (by omega) (by omega) hx (fun j hj => ?_) (fun j h3 h4 => h2 j (by omega) h4)
      by_cases e : j = i
      · subst e; rw [hu]; exact h2 j (Nat.le_refl _) (by omega)
      · exact h1 j (by omega)
    refine Ev.succ ?_
    simp only [neumeref23_Sides.l0]
    rw [show wrap64 ((i : Int) - 1) = ((i - 1 : Nat) : Int) by rw [wrap_id (by omega) (by omega)]; omega, rd_nat, rd_nat, rd_nat, wrap_id (x := l.getD i 0 - l.getD (i - 1) 0) (by omega) (by omega), wrap_id (x := (i : Int) + 1) (by omega) (by omega), show ((i : Nat) : Int) + 1 = ((i + 1 : Nat) : Int) by omega]
    simp only [Int.toNat_natCast]
    refine Ev.pos (by omega) (Ev.pos (by simp) (Ev.pos (by omega) (Ev.pos (by omega) (Ev.pos (by omega) (Ev.pos (by omega) ?_)))))
    by_cases c1 : l.getD i 0 - l.getD (i - 1) 0 ≤ 1
    · refine Ev.pos c1 ?_
      by_cases c2 : l.getD i 0 - l.getD (i - 1) 0 ≥ -1
      · refine Ev.pos c2 (Ev.pos (by omega) ?_)
        have h3 := h1 (i - 1) (by omega)
        by_cases c3 : x.getD (i - 1) 0 = 0
        · refine Ev.pos c3 (Ev.pos (by omega) ?_)
          rw [if_pos ⟨⟨c1, c2⟩, by rw [← h3]; exact c3⟩] at hu
          refine ih (i + 1) _ (by omega) (by omega) (by rw [List.length_set]; exact hx) (fun j hj => ?_) (fun j h4 h5 => ?_)
          · rw [set_at (by omega)]
            by_cases e : j = i
            · rw [if_pos e, e, hu]
            · rw [if_neg e]; exact h1 j (by omega)
          · rw [set_at (by omega), if_neg (by omega)]; exact h2 j (by omega) h5
        · exact Ev.neg c3 (hk (fun q => c3 (by rw [h3]; exact q.2)))
      · exact Ev.neg c2 (hk (fun q => c2 q.1.2))
    · exact Ev.neg c1 (hk (fun q => c1 q.1.1))
theorem rdn_l0 (l : List Int) (hf : Ft l) : ∀ (d i : Nat) (x : List Int), 1 ≤ i → i + d = l.length → x.length = l.length → (∀ j, d ≤ j → j < l.length → x.getD j 0 = (sd l false).getD j 0) → (∀ j, j < d → x.getD j 0 = 0) → Ev (fun k => neumeref23_Sides.l0 k l false (l.length : Int) x i) (sd l false, 0) := by
  intro d
  have hl := hf.1
  induction d with
  | zero =>
    intro i x h0 hd hx h1 h2
    refine Ev.succ ?_
    simp only [neumeref23_Sides.l0]
    refine Ev.neg (by omega) (Ev.const ?_)
    rw [same_list (a := x) (b := sd l false) (by rw [sd_length, hx]) (fun j hj => h1 j (Nat.zero_le _) (by rw [sd_length] at hj; omega))]
  | succ d ih =>
    intro i x h0 hd hx h1 h2
    have b1 := hf.bd (i := d) (by omega)
    have b2 := hf.bd (i := d + 1) (by omega)
    have hu := sd_dn hf (i := d) (by omega)
    have hk : ¬ ((l.getD d 0 - l.getD (d + 1) 0 ≤ 1 ∧ l.getD d 0 - l.getD (d + 1) 0 ≥ -1) ∧ (sd l false).getD (d + 1) 0 = 0) → Ev (fun k => neumeref23_Sides.l0 k l false (l.length : Int) x ((i + 1 : Nat) : Int)) (sd l false, 0) := by
      intro c
      rw [if_neg c] at hu
      refine ih (i + 1) x (by omega) (by omega) hx (fun j h3 h4 => ?_) (fun j hj => h2 j (by omega))
      by_cases e : j = d
      · subst e; rw [hu]; exact h2 j (by omega)
      · exact h1 j (by omega) h4
    refine Ev.succ ?_
    simp only [neumeref23_Sides.l0]
    rw [wrap_id (x := (l.length : Int) - 1) (by omega) (by omega), show wrap64 ((l.length : Int) - 1 - (i : Int)) = ((d : Nat) : Int) by rw [wrap_id (by omega) (by omega)]; omega, show wrap64 ((l.length : Int) - (i : Int)) = ((d + 1 : Nat) : Int) by rw [wrap_id (by omega) (by omega)]; omega, rd_nat, rd_nat, rd_nat, wrap_id (x := l.getD d 0 - l.getD (d + 1) 0) (by omega) (by omega), wrap_id (x := (i : Int) + 1) (by omega) (by omega), show ((i : Nat) : Int) + 1 = ((i + 1 : Nat) : Int) by omega]
    simp only [Int.toNat_natCast]
    refine Ev.pos (by omega) (Ev.neg (by simp) (Ev.pos (by omega) (Ev.pos (by omega) (Ev.pos (by omega) (Ev.pos (by omega) ?_)))))
    by_cases c1 : l.getD d 0 - l.getD (d + 1) 0 ≤ 1
    · refine Ev.pos c1 ?_
      by_cases c2 : l.getD d 0 - l.getD (d + 1) 0 ≥ -1
      · refine Ev.pos c2 (Ev.pos (by omega) ?_)
        have h3 := h1 (d + 1) (by omega) (by omega)
        by_cases c3 : x.getD (d + 1) 0 = 0
        · refine Ev.pos c3 (Ev.pos (by omega) ?_)
          rw [if_pos ⟨⟨c1, c2⟩, by rw [← h3]; exact c3⟩] at hu
          refine ih (i + 1) _ (by omega) (by omega) (by rw [List.length_set]; exact hx) (fun j h4 h5 => ?_) (fun j h4 => ?_)
          · rw [set_at (by omega)]
            by_cases e : j = d
            · rw [if_pos e, e, hu]
            · rw [if_neg e]; exact h1 j (by omega) h5
          · rw [set_at (by omega), if_neg (by omega)]; exact h2 j (by omega)
        · exact Ev.neg c3 (hk (fun q => c3 (by rw [h3]; exact q.2)))
      · exact Ev.neg c2 (hk (fun q => c2 q.1.2))
    · exact Ev.neg c1 (hk (fun q => c1 q.1.1))
theorem rep_at (n j : Nat) : (List.replicate n (0 : Int)).getD j 0 = 0 := by
  rw [List.getD_eq_getElem?_getD, List.getElem?_replicate]
  split <;> rfl
theorem rsides_ev (l : List Int) (up : Bool) (hl : l.length ≤ 1000) : Ev (fun k => neumeref23_Sides.f k l up) (if Ft l then (sd l up, 0) else ([], 2)) := by
  unfold neumeref23_Sides.f
  refine Ev.bind (rfits_ev l hl) ?_
  by_cases f : Ft l
  · rw [if_pos f, decide_eq_true f, Int.toNat_natCast]
    have hn := f.1
    refine Ev.pos rfl (Ev.pos (by omega) (Ev.pos (by omega) ?_))
    cases up
    · refine rdn_l0 l f (l.length - 1) 1 _ (by omega) (by omega) List.length_replicate (fun j h1 h2 => ?_) (fun j _ => rep_at _ _)
      have e : j = l.length - 1 := by omega
      subst e
      rw [rep_at, sdD l false (by omega), sd_at f false (by omega)]
      simp only [Bool.false_eq_true, if_false]
      rw [Nat.sub_self, bit_zero]; rfl
    · refine rup_l0 l f (l.length - 1) 1 _ (by omega) (by omega) List.length_replicate (fun j h1 => ?_) (fun j _ _ => rep_at _ _)
      have e : j = 0 := by omega
      subst e
      rw [rep_at, sdD l true (by omega), sd_at f true (by omega)]
      simp only [if_true]
      rw [bit_zero]; rfl
  · rw [if_neg f, decide_eq_false f]
    exact Ev.neg (by decide) (Ev.now _)
theorem rhead_eq (g : Int) : neumeref23_head.f g = some (decide (Hd g)) := head_eq g
theorem rext_ev {g : Int} (h : Hd g) (s : Bool) : Ev (fun k => neumeref05_Extent.f k g s) (0, -(hh s), wd g s, hh s, 0) := by
  have : g = 1 ∨ g = 2 ∨ g = 3 ∨ g = 4 := by unfold Hd at h; omega
  have e1 : neumeref05_Extent.f 400 1 true = some (0, -341, 1365, 341, 0) := by kernel_rfl
  have e2 : neumeref05_Extent.f 400 2 true = some (0, -341, 1160, 341, 0) := by kernel_rfl
  have e3 : neumeref05_Extent.f 400 3 true = some (0, -341, 887, 341, 0) := by kernel_rfl
  have e4 : neumeref05_Extent.f 400 4 true = some (0, -341, 887, 341, 0) := by kernel_rfl
  have f1 : neumeref05_Extent.f 400 1 false = some (0, -512, 2048, 512, 0) := by kernel_rfl
  have f2 : neumeref05_Extent.f 400 2 false = some (0, -512, 1740, 512, 0) := by kernel_rfl
  have f3 : neumeref05_Extent.f 400 3 false = some (0, -512, 1330, 512, 0) := by kernel_rfl
  have f4 : neumeref05_Extent.f 400 4 false = some (0, -512, 1330, 512, 0) := by kernel_rfl
  rcases this with rfl | rfl | rfl | rfl <;> cases s
  · exact Ev.of (neumeref05_Extent.mono _ _) f1
  · exact Ev.of (neumeref05_Extent.mono _ _) e1
  · exact Ev.of (neumeref05_Extent.mono _ _) f2
  · exact Ev.of (neumeref05_Extent.mono _ _) e2
  · exact Ev.of (neumeref05_Extent.mono _ _) f3
  · exact Ev.of (neumeref05_Extent.mono _ _) e3
  · exact Ev.of (neumeref05_Extent.mono _ _) f4
  · exact Ev.of (neumeref05_Extent.mono _ _) e4
theorem rwide_ev {g : Int} (h : Hd g) (s : Bool) : Ev (fun k => neumeref23_width.f k g s) (wd g s) := by
  unfold neumeref23_width.f
  refine Ev.bind (rext_ev h s) (Ev.const ?_)
  have := wd_bd g s
  show some (wrap64 (wd g s - 0)) = _
  rw [wrap_id (by omega) (by omega), Int.sub_zero]
theorem rspots_l0 (l : List Int) {g : Int} (up s : Bool) (hf : Ft l) (v : Int) (hv : v = if up = true then wd g s else -(wd g s)) : ∀ (d i : Nat), i + d = l.length → Ev (fun k => neumeref23_Spots.l0 k (sd l up) v ((sp l g up s).take i) i) (sp l g up s, 0) := by
  intro d
  have hl := hf.1
  induction d with
  | zero =>
    intro i hd
    refine Ev.succ ?_
    simp only [neumeref23_Spots.l0]
    refine Ev.neg (by rw [sd_length]; omega) (Ev.const ?_)
    rw [List.take_of_length_le (by rw [sp_length]; omega)]
  | succ d ih =>
    intro i hd
    have hi : i < l.length := by omega
    have hw := wd_bd g s
    refine Ev.succ ?_
    simp only [neumeref23_Spots.l0]
    refine Ev.pos (by rw [sd_length]; omega) (Ev.pos (by omega) (Ev.pos (by rw [List.length_take]; omega) ?_))
    have he : (sp l g up s).take i ++ [wrap64 (v * rd (sd l up) (i : Int))] = (sp l g up s).take (i + 1) := by
      rw [List.take_succ_eq_append_getElem (by rw [sp_length]; exact hi), rd_eq _ (by rw [sd_length]; exact hi)]
      congr 2
      have h1 := (sd_like hf up hi).1
      have : (sp l g up s)[i]'(by rw [sp_length]; exact hi) = sw1 g up s ((sd l up)[i]'(by rw [sd_length]; exact hi)) := by unfold sp; rw [List.getElem_map]
      rw [this]
      obtain ⟨x, ex⟩ : ∃ x, (sd l up)[i]'(by rw [sd_length]; exact hi) = x := ⟨_, rfl⟩
      rw [ex] at h1 ⊢
      rcases h1 with rfl | rfl
      · rw [Int.mul_zero, wrap_id (by omega) (by omega)]; rfl
      · rw [Int.mul_one, hv, wrap_id (by split <;> omega) (by split <;> omega)]; rfl
    rw [he, wrap_id (x := (i : Int) + 1) (by omega) (by omega), show ((i : Nat) : Int) + 1 = ((i + 1 : Nat) : Int) by omega]
    exact ih (i + 1) (by omega)
theorem rspots_ev (l : List Int) (g : Int) (up s : Bool) (hl : l.length ≤ 1000) : Ev (fun k => neumeref23_Spots.f k l g up s) (if Ft l ∧ Hd g then (sp l g up s, 0) else ([], 2)) := by
  unfold neumeref23_Spots.f
  refine Ev.bind (rsides_ev l up hl) ?_
  by_cases f : Ft l
  · rw [if_pos f]
    refine Ev.pos rfl (Ev.bindc (rhead_eq g) (Ev.succ ?_))
    simp only [neumeref23_Spots.j0]
    by_cases hg : Hd g
    · rw [if_pos ⟨f, hg⟩, decide_eq_true hg]
      refine Ev.neg (by decide) (Ev.bind (rwide_ev hg s) ?_)
      have hw := wd_bd g s
      have z := fun v hv => rspots_l0 l (g := g) up s f v hv l.length 0 (by omega)
      simp only [List.take_zero] at z
      cases up
      · refine Ev.neg (by simp) (Ev.succ ?_)
        simp only [neumeref23_Spots.j1]
        exact z _ (by rw [wrap_id (by omega) (by omega)]; rfl)
      · refine Ev.pos (by simp) (Ev.succ ?_)
        simp only [neumeref23_Spots.j1]
        exact z _ rfl
    · rw [if_neg (fun q => hg q.2), decide_eq_false hg]
      exact Ev.pos rfl (Ev.now _)
  · rw [if_neg f, if_neg (fun q => f q.1)]
    refine Ev.neg (by decide) (Ev.succ ?_)
    simp only [neumeref23_Spots.j0]
    exact Ev.pos trivial (Ev.now _)
theorem stem_ev (g : Int) (up s : Bool) : ∃ r, chord_Stem.f g up s = some r ∧ Ev (fun k => neumeref23_Stem.f k g up s) r := by
  unfold chord_Stem.f neumeref23_Stem.f
  have j : ∀ b : Bool, (b = true ↔ ¬ (g = 3 ∨ g = 4)) → Ev (fun k => neumeref23_Stem.j0 k g up s b) (if g = 3 ∨ g = 4 then (if up = true then wd g s else 0, 0) else (0, 2)) := by
    intro b hb
    refine Ev.succ ?_
    simp only [neumeref23_Stem.j0]
    by_cases c : g = 3 ∨ g = 4
    · rw [if_pos c]
      refine Ev.neg (fun q => hb.1 q c) ?_
      cases up
      · exact Ev.neg (by simp) (Ev.now _)
      · exact Ev.pos (by simp) (Ev.bind (rwide_ev (by unfold Hd; omega) s) (Ev.now _))
    · rw [if_neg c]
      exact Ev.pos (hb.2 c) (Ev.now _)
  refine ⟨if g = 3 ∨ g = 4 then (if up = true then wd g s else 0, 0) else (0, 2), ?_, ?_⟩
  · by_cases c : g = 3 ∨ g = 4
    · rw [if_pos c, if_pos c, wide_eq (by unfold Hd; omega) s]; rfl
    · rw [if_neg c, if_neg c]
  · by_cases c : g = 3
    · exact Ev.pos c (j false ⟨fun q => Bool.noConfusion q, fun q => absurd (.inl c) q⟩)
    · refine Ev.neg c (j _ ⟨fun q => ?_, fun q => ?_⟩)
      · rintro (q2 | q2)
        · exact c q2
        · subst q2; exact Bool.noConfusion q
      · exact bne_iff_ne.2 (fun q2 => q (.inr q2))
theorem rboxes_l0 (l xs : List Int) (g : Int) (s : Bool) (hf : Ft l) (hx : xs.length = l.length) : ∀ (d i : Nat) (acc : List S46), i + d = l.length → acc.length = i → Ev (fun k => neumeref23_Boxes.l0 k l xs acc i 0 (-(hh s)) (wd g s) (hh s)) (bl g s l xs d i acc) := by
  intro d
  have hl := hf.1
  induction d with
  | zero =>
    intro i acc hd ha
    refine Ev.succ ?_
    simp only [neumeref23_Boxes.l0]
    exact Ev.neg (by omega) (Ev.now _)
  | succ d ih =>
    intro i acc hd ha
    have hp := hf.bd (i := i) (by omega)
    have hw := wd_bd g s
    have h2 := hh_bd s
    refine Ev.succ ?_
    simp only [neumeref23_Boxes.l0, bl]
    rw [rd_nat, rd_nat]
    refine Ev.pos (by omega) (Ev.pos (by omega) (Ev.pos (by omega) ?_))
    by_cases c : xs.getD i 0 < -1073741824 ∨ 1073741824 < xs.getD i 0
    · rw [if_pos c]
      by_cases c1 : xs.getD i 0 < -1073741824
      · exact Ev.pos c1 (Ev.now _)
      · exact Ev.neg c1 (Ev.pos (by omega) (Ev.now _))
    · rw [if_neg c]
      refine Ev.neg (by omega) (Ev.neg (by omega) (Ev.pos (by omega) ?_))
      rw [wrap_id (x := 512 * l.getD i 0) (by omega) (by omega), wrap_id (x := 0 + xs.getD i 0) (by omega) (by omega), wrap_id (x := -(hh s) + 512 * l.getD i 0) (by omega) (by omega), wrap_id (x := wd g s + xs.getD i 0) (by omega) (by omega), wrap_id (x := hh s + 512 * l.getD i 0) (by omega) (by omega), wrap_id (x := (i : Int) + 1) (by omega) (by omega), show ((i : Nat) : Int) + 1 = ((i + 1 : Nat) : Int) by omega, Int.zero_add]
      exact ih (i + 1) _ (by omega) (by rw [List.length_append, ha]; rfl)
theorem rboxes_ev (l xs : List Int) (g : Int) (s : Bool) (hl : l.length ≤ 1000) : Ev (fun k => neumeref23_Boxes.f k l xs g s) (if Ft l ∧ Hd g ∧ xs.length = l.length then bl g s l xs l.length 0 [] else ([], 2)) := by
  unfold neumeref23_Boxes.f
  refine Ev.bind (rfits_ev l hl) ?_
  by_cases f : Ft l
  · rw [decide_eq_true f]
    refine Ev.pos rfl (Ev.bindc (rhead_eq g) ?_)
    by_cases hg : Hd g
    · rw [decide_eq_true hg]
      refine Ev.pos rfl (Ev.succ ?_)
      simp only [neumeref23_Boxes.j0]
      by_cases c : xs.length = l.length
      · rw [if_pos ⟨f, hg, c⟩]
        refine Ev.neg (by simp [c]) (Ev.bind (rext_ev hg s) ?_)
        exact rboxes_l0 l xs g s f c l.length 0 [] (by omega) rfl
      · rw [if_neg (fun q => c q.2.2)]
        exact Ev.pos (by simp; omega) (Ev.now _)
    · rw [decide_eq_false hg, if_neg (fun q => hg q.2.1)]
      refine Ev.neg (by decide) (Ev.succ ?_)
      simp only [neumeref23_Boxes.j0]
      exact Ev.pos trivial (Ev.now _)
  · rw [decide_eq_false f, if_neg (fun q => f q.1)]
    refine Ev.neg (by decide) (Ev.succ ?_)
    simp only [neumeref23_Boxes.j0]
    exact Ev.pos trivial (Ev.now _)
theorem numbers_l0 (l : List Int) (hl : l.length ≤ 1000) : ∀ (d i : Nat), i + d = l.length → Ev (fun k => neumeref18_Numbers.l0 k l l i) true := by
  intro d
  induction d with
  | zero =>
    intro i hd
    refine Ev.succ ?_
    simp only [neumeref18_Numbers.l0]
    exact Ev.neg (by omega) (Ev.now _)
  | succ d ih =>
    intro i hd
    refine Ev.succ ?_
    simp only [neumeref18_Numbers.l0]
    rw [wrap_id (x := (i : Int) + 1) (by omega) (by omega), show ((i : Nat) : Int) + 1 = ((i + 1 : Nat) : Int) by omega]
    exact Ev.pos (by omega) (Ev.pos (by omega) (Ev.pos (by omega) (Ev.pos (by simp) (ih (i + 1) (by omega)))))
theorem numbers_ev (l : List Int) (hl : l.length ≤ 1000) : Ev (fun k => neumeref18_Numbers.f k l l) true := by
  unfold neumeref18_Numbers.f
  exact Ev.pos rfl (numbers_l0 l hl l.length 0 (by omega))
theorem same_l0 (l : List S46) (hl : l.length ≤ 1000) : ∀ (d i : Nat), i + d = l.length → Ev (fun k => neumeref23_Same.l0 k l l i) true := by
  intro d
  induction d with
  | zero =>
    intro i hd
    refine Ev.succ ?_
    simp only [neumeref23_Same.l0]
    exact Ev.neg (by omega) (Ev.now _)
  | succ d ih =>
    intro i hd
    refine Ev.succ ?_
    simp only [neumeref23_Same.l0]
    rw [wrap_id (x := (i : Int) + 1) (by omega) (by omega), show ((i : Nat) : Int) + 1 = ((i + 1 : Nat) : Int) by omega]
    exact Ev.pos (by omega) (Ev.pos (by omega) (Ev.pos (by omega) (Ev.neg (by simp) (ih (i + 1) (by omega)))))
theorem same_ev (l : List S46) (hl : l.length ≤ 1000) : Ev (fun k => neumeref23_Same.f k l l) true := by
  unfold neumeref23_Same.f
  exact Ev.pos rfl (same_l0 l hl l.length 0 (by omega))
theorem bl_len (g : Int) (s : Bool) (l xs : List Int) : ∀ (d i : Nat) (acc : List S46), (bl g s l xs d i acc).1.length ≤ acc.length + d := by
  intro d
  induction d with
  | zero => intro i acc; exact Nat.le_refl _
  | succ d ih =>
    intro i acc
    simp only [bl]
    split
    · simp
    · refine Nat.le_trans (ih _ _) ?_
      rw [List.length_append, List.length_singleton]
      omega
end Go.Proofs.YtcokemaiploejaaDoor.Rp
