/- Heads of a chord: where they stand and what they cover: plain values. -/
import Derived.Test.YtcokemaiploejaaDoorPx15
import Derived.Test.YtcokemaiploejaaDoorPx17
import Derived.Test.YtcokemaiploejaaDoorPx16
import Derived.Test.YtcokemaiploejaaDoorChordPlain
namespace Go.Proofs.YtcokemaiploejaaDoor.Rp
open Go.RowKit Go.Proofs.YtcokemaiploejaaDoor.P Go.Proofs.YtcokemaiploejaaDoorW.PrintWords Go.Proofs.YtcokemaiploejaaDoorW.PrintLast
set_option linter.unusedVariables false
set_option linter.unusedSimpArgs false
def Hd (g : Int) : Prop := 1 ≤ g ∧ g ≤ 4
instance (g : Int) : Decidable (Hd g) := inferInstanceAs (Decidable (1 ≤ g ∧ g ≤ 4))
/-- A head's width, half its height. -/
def wd (g : Int) (s : Bool) : Int := if s = true then (if g = 1 then 1365 else if g = 2 then 1160 else 887) else (if g = 1 then 2048 else if g = 2 then 1740 else 1330)
def hh (s : Bool) : Int := if s = true then 341 else 512
theorem wd_bd (g : Int) (s : Bool) : 0 < wd g s ∧ wd g s ≤ 2048 := by unfold wd; (repeat' split) <;> omega
theorem hh_bd (s : Bool) : 0 < hh s ∧ hh s ≤ 512 := by unfold hh; split <;> omega
theorem head_eq (g : Int) : chord_head.f g = some (decide (Hd g)) := by
  unfold chord_head.f
  by_cases c : g ≥ 1
  · rw [if_pos c]; congr 1; exact decide_eq_decide.2 ⟨fun q => ⟨c, q⟩, fun q => q.2⟩
  · rw [if_neg c]; congr 1; exact (decide_eq_false (fun q => c q.1)).symm
theorem ext_eq {g : Int} (h : Hd g) (s : Bool) : glyph_Extent.f g s = some (0, -(hh s), wd g s, hh s, 0) := by
  have : g = 1 ∨ g = 2 ∨ g = 3 ∨ g = 4 := by unfold Hd at h; omega
  have e1 : glyph_Extent.f 1 true = some (0, -341, 1365, 341, 0) := by kernel_rfl
  have e2 : glyph_Extent.f 2 true = some (0, -341, 1160, 341, 0) := by kernel_rfl
  have e3 : glyph_Extent.f 3 true = some (0, -341, 887, 341, 0) := by kernel_rfl
  have e4 : glyph_Extent.f 4 true = some (0, -341, 887, 341, 0) := by kernel_rfl
  have f1 : glyph_Extent.f 1 false = some (0, -512, 2048, 512, 0) := by kernel_rfl
  have f2 : glyph_Extent.f 2 false = some (0, -512, 1740, 512, 0) := by kernel_rfl
  have f3 : glyph_Extent.f 3 false = some (0, -512, 1330, 512, 0) := by kernel_rfl
  have f4 : glyph_Extent.f 4 false = some (0, -512, 1330, 512, 0) := by kernel_rfl
  rcases this with rfl | rfl | rfl | rfl <;> cases s
  · exact f1
  · exact e1
  · exact f2
  · exact e2
  · exact f3
  · exact e3
  · exact f4
  · exact e4
theorem wide_eq {g : Int} (h : Hd g) (s : Bool) : chord_wide.f g s = some (wd g s) := by
  unfold chord_wide.f
  rw [ext_eq h s]
  have := wd_bd g s
  show some (wrap64 (wd g s - 0)) = _
  rw [wrap_id (by omega) (by omega), Int.sub_zero]
/-- How far a head stands from the stem. -/
def sw1 (g : Int) (up s : Bool) (x : Int) : Int := if x = 0 then 0 else if up = true then wd g s else -(wd g s)
def sp (l : List Int) (g : Int) (up s : Bool) : List Int := (sd l up).map (sw1 g up s)
theorem sp_length (l : List Int) (g : Int) (up s : Bool) : (sp l g up s).length = l.length := by unfold sp; rw [List.length_map, sd_length]
theorem mix_at {a b : List Int} (e : a.length = b.length) {i : Nat} (h : i < b.length) : rd (a.take i ++ b.drop i) (i : Int) = b[i] := by
  rw [rd_eq _ (by rw [List.length_append, List.length_take, List.length_drop]; omega), List.getElem_append_right (by rw [List.length_take]; omega), List.getElem_drop]
  congr 1
  rw [List.length_take]; omega
theorem mix_set {a b : List Int} (e : a.length = b.length) {i : Nat} (h : i < b.length) {v : Int} (hv : v = a[i]) : (a.take i ++ b.drop i).set i v = a.take (i + 1) ++ b.drop (i + 1) := by
  subst hv
  rw [List.set_append_right _ _ (by rw [List.length_take]; omega), show i - (a.take i).length = 0 by rw [List.length_take]; omega]
  rw [List.drop_eq_getElem_cons h, List.set_cons_zero, List.take_succ_eq_append_getElem (by omega), List.append_assoc]
  rfl
theorem spots_l0 (l : List Int) {g : Int} (hg : Hd g) (up s : Bool) (hf : Ft l) : ∀ (d i : Nat), i + d = l.length → Ev (fun k => chord_Spots.l0 k g up s ((sp l g up s).take i ++ (sd l up).drop i) (l.length : Int) i) (sp l g up s, 0) := by
  intro d
  have hl := hf.1
  have e : (sp l g up s).length = (sd l up).length := by rw [sp_length, sd_length]
  have hm : ∀ i, i ≤ l.length → ((sp l g up s).take i ++ (sd l up).drop i).length = l.length := by
    intro i hi
    rw [List.length_append, List.length_take, List.length_drop, sp_length, sd_length]; omega
  induction d with
  | zero =>
    intro i hd
    refine Ev.succ ?_
    simp only [chord_Spots.l0]
    refine Ev.neg (by omega) (Ev.const ?_)
    rw [List.take_of_length_le (by rw [sp_length]; omega), List.drop_of_length_le (by rw [sd_length]; omega), List.append_nil]
  | succ d ih =>
    intro i hd
    have hi : i < l.length := by omega
    have hw := wd_bd g s
    refine Ev.succ ?_
    simp only [chord_Spots.l0]
    rw [mix_at e (by rw [sd_length]; exact hi), Int.toNat_natCast, wrap_id (x := (i : Int) + 1) (by omega) (by omega), show ((i : Nat) : Int) + 1 = ((i + 1 : Nat) : Int) by omega]
    refine Ev.pos (by omega) (Ev.pos (by omega) (Ev.pos (by rw [hm i (by omega)]; omega) (Ev.bindc (wide_eq hg s) (Ev.bindc rfl ?_))))
    have hv : (sp l g up s)[i]'(by rw [sp_length]; exact hi) = sw1 g up s ((sd l up)[i]'(by rw [sd_length]; exact hi)) := by unfold sp; rw [List.getElem_map]
    have h1 := (sd_like hf up hi).1
    generalize (sd l up)[i]'(by rw [sd_length]; exact hi) = x at h1 hv ⊢
    have hx : wrap64 (x * wd g s) = x * wd g s := by
      rcases h1 with rfl | rfl
      · rw [Int.zero_mul, wrap_id (by omega) (by omega)]
      · rw [Int.one_mul, wrap_id (by omega) (by omega)]
    rw [hx]
    cases up
    · refine Ev.neg (by decide) ?_
      rw [List.set_set, mix_set e (by rw [sd_length]; exact hi) (v := wrap64 (-(x * wd g s))) (by
        rw [hv]
        rcases h1 with rfl | rfl
        · rw [Int.zero_mul, wrap_id (by omega) (by omega)]; rfl
        · rw [Int.one_mul, wrap_id (by omega) (by omega)]; rfl)]
      exact ih (i + 1) (by omega)
    · refine Ev.pos rfl ?_
      rw [mix_set e (by rw [sd_length]; exact hi) (v := x * wd g s) (by
        rw [hv]
        rcases h1 with rfl | rfl
        · rw [Int.zero_mul]; rfl
        · rw [Int.one_mul]; rfl)]
      exact ih (i + 1) (by omega)
theorem spots_ev (l : List Int) (g : Int) (up s : Bool) : Ev (fun k => chord_Spots.f k l g up s) (if Ft l ∧ Hd g then (sp l g up s, 0) else ([], 2)) := by
  unfold chord_Spots.f
  refine Ev.bind (sides_ev l up) ?_
  by_cases f : Ft l
  · rw [if_pos f]
    refine Ev.pos rfl (Ev.bindc (head_eq g) (Ev.succ ?_))
    simp only [chord_Spots.j0]
    by_cases hg : Hd g
    · rw [if_pos ⟨f, hg⟩, decide_eq_true hg]
      refine Ev.neg (by decide) ?_
      rw [sd_length]
      have := spots_l0 l hg up s f l.length 0 (by omega)
      rw [List.take_zero, List.drop_zero, List.nil_append] at this
      exact this
    · rw [if_neg (fun q => hg q.2), decide_eq_false hg]
      exact Ev.pos rfl (Ev.now _)
  · rw [if_neg f, if_neg (fun q => f q.1)]
    refine Ev.neg (by decide) (Ev.succ ?_)
    simp only [chord_Spots.j0]
    exact Ev.pos trivial (Ev.now _)
/-- What a head covers. -/
def bx (g : Int) (s : Bool) (p x : Int) : S46 := ⟨x, -(hh s) + 512 * p, wd g s + x, hh s + 512 * p⟩
/-- What heads cover, from the i-th on. -/
def bl (g : Int) (s : Bool) (l xs : List Int) : Nat → Nat → List S46 → List S46 × Int
 | 0, _, acc => (acc, 0)
 | d + 1, i, acc => if xs.getD i 0 < -1073741824 ∨ 1073741824 < xs.getD i 0 then ([], 2) else bl g s l xs d (i + 1) (acc ++ [bx g s (l.getD i 0) (xs.getD i 0)])
theorem add_eq {a b : Int} (ha : -4294967296 ≤ a ∧ a ≤ 4294967296) (hb : -4294967296 ≤ b ∧ b ≤ 4294967296) : fix_Add.f a b = some (a + b, 0) := by
  unfold fix_Add.f fix_out.f fx_ok
  rw [if_pos ⟨decide_eq_true (by omega), decide_eq_true (by omega)⟩, if_pos (decide_eq_true (by omega))]
theorem move_eq (g : Int) (s : Bool) {p x : Int} (hp : -200 ≤ p ∧ p ≤ 200) (hx : ¬ (x < -1073741824 ∨ 1073741824 < x)) : box_Move.f 0 (-(hh s)) (wd g s) (hh s) x (wrap64 (512 * p)) = some ((bx g s p x).f0, (bx g s p x).f1, (bx g s p x).f2, (bx g s p x).f3, 0) := by
  have hw := wd_bd g s
  have h2 := hh_bd s
  unfold box_Move.f box_Check.f box_ok fx_ok
  rw [decide_eq_true (show -1099511627776 ≤ (0 : Int) ∧ (0 : Int) ≤ 1099511627776 by omega), decide_eq_true (show -1099511627776 ≤ -(hh s) ∧ -(hh s) ≤ 1099511627776 by omega), decide_eq_true (show -1099511627776 ≤ wd g s ∧ wd g s ≤ 1099511627776 by omega), decide_eq_true (show -1099511627776 ≤ hh s ∧ hh s ≤ 1099511627776 by omega), decide_eq_true (show 0 ≤ wd g s by omega), decide_eq_true (show -(hh s) ≤ hh s by omega)]
  rw [wrap_id (x := 512 * p) (by omega) (by omega)]
  unfold box_shifted.f
  rw [add_eq (by omega) (by omega), add_eq (by omega) (by omega), add_eq (by omega) (by omega), add_eq (by omega) (by omega)]
  show some (0 + x, -(hh s) + 512 * p, wd g s + x, hh s + 512 * p, (0 : Int)) = some (x, -(hh s) + 512 * p, wd g s + x, hh s + 512 * p, (0 : Int))
  rw [Int.zero_add]
theorem boxes_l0 (l xs : List Int) (g : Int) (s : Bool) (hf : Ft l) (hx : xs.length = l.length) : ∀ (d i : Nat) (acc : List S46), i + d = l.length → acc.length = i → Ev (fun k => chord_Boxes.l0 k xs acc l (l.length : Int) i 0 (-(hh s)) (wd g s) (hh s)) (bl g s l xs d i acc) := by
  intro d
  have hl := hf.1
  induction d with
  | zero =>
    intro i acc hd ha
    refine Ev.succ ?_
    simp only [chord_Boxes.l0]
    exact Ev.neg (by omega) (Ev.now _)
  | succ d ih =>
    intro i acc hd ha
    have hi : i < l.length := by omega
    have hp := hf.bd hi
    have hxi : rd xs (i : Int) = xs.getD i 0 := by rw [rd_eq xs (by omega), getD_at (by omega)]
    have hli : rd l (i : Int) = l.getD i 0 := by rw [rd_eq l hi, getD_at hi]
    have hj : ∀ b : Bool, (b = true ↔ (xs.getD i 0 < -1073741824 ∨ 1073741824 < xs.getD i 0)) → Ev (fun k => chord_Boxes.j2 k xs acc i (rd l (i : Int)) l (l.length : Int) i b 0 (-(hh s)) (wd g s) (hh s)) (bl g s l xs (d + 1) i acc) := by
      intro b hb
      refine Ev.succ ?_
      simp only [chord_Boxes.j2, bl]
      rw [hli, hxi, wrap_id (x := (i : Int) + 1) (by omega) (by omega), show ((i : Nat) : Int) + 1 = ((i + 1 : Nat) : Int) by omega]
      by_cases c : xs.getD i 0 < -1073741824 ∨ 1073741824 < xs.getD i 0
      · rw [if_pos c]
        exact Ev.pos (hb.2 c) (Ev.now _)
      · rw [if_neg c]
        refine Ev.neg (fun q => c (hb.1 q)) (Ev.pos (by omega) (Ev.pos (by omega) (Ev.bindc (move_eq g s hp c) (Ev.pos rfl (Ev.pos (by omega) ?_)))))
        exact ih (i + 1) _ (by omega) (by rw [List.length_append, ha]; rfl)
    refine Ev.succ ?_
    simp only [chord_Boxes.l0]
    rw [hxi]
    refine Ev.pos (by omega) (Ev.pos (by omega) (Ev.pos (by omega) (Ev.pos (by omega) ?_)))
    by_cases c : xs.getD i 0 < -1073741824
    · exact Ev.pos c (hj true ⟨fun _ => .inl c, fun _ => rfl⟩)
    · refine Ev.neg c (hj _ ⟨fun q => .inr (of_decide_eq_true q), fun q => decide_eq_true ?_⟩)
      rcases q with q | q
      · exact absurd q c
      · exact q
theorem boxes_ev (l xs : List Int) (g : Int) (s : Bool) : Ev (fun k => chord_Boxes.f k l xs g s) (if Ft l ∧ Hd g ∧ xs.length = l.length then bl g s l xs l.length 0 [] else ([], 2)) := by
  unfold chord_Boxes.f
  refine Ev.bind (fits_ev l) ?_
  by_cases f : Ft l
  · rw [decide_eq_true f]
    refine Ev.pos rfl (Ev.bindc (head_eq g) ?_)
    by_cases hg : Hd g
    · rw [decide_eq_true hg]
      refine Ev.pos rfl (Ev.succ ?_)
      simp only [chord_Boxes.j0]
      by_cases c : xs.length = l.length
      · rw [if_pos ⟨f, hg, c⟩]
        refine Ev.neg (by simp [c]) (Ev.bindc (ext_eq hg s) ?_)
        exact boxes_l0 l xs g s f c l.length 0 [] (by omega) rfl
      · rw [if_neg (fun q => c q.2.2)]
        exact Ev.pos (by simp; omega) (Ev.now _)
    · rw [decide_eq_false hg, if_neg (fun q => hg q.2.1)]
      refine Ev.neg (by decide) (Ev.succ ?_)
      simp only [chord_Boxes.j0]
      exact Ev.pos trivial (Ev.now _)
  · rw [decide_eq_false f, if_neg (fun q => f q.1)]
    refine Ev.neg (by decide) (Ev.succ ?_)
    simp only [chord_Boxes.j0]
    exact Ev.pos trivial (Ev.now _)
end Go.Proofs.YtcokemaiploejaaDoor.Rp
