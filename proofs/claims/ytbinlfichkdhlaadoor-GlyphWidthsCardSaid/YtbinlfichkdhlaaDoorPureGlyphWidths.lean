/- The law GlyphWidths of layer 5: texts side by side are as wide as both. -/
import Derived.Test.YtbinlfichkdhlaaDoorStatGlyphWidths
import Derived.Test.YtbinlfichkdhlaaDoorPx8
import Derived.Test.YtbinlfichkdhlaaDoorPx7
import Derived.Test.YtbinlfichkdhlaaDoorEv
namespace Go.Proofs.YtbinlfichkdhlaaDoor.Pure
open Go.RowKit Go.Proofs.YtbinlfichkdhlaaDoor.P Go.Proofs.YtbinlfichkdhlaaDoor.Rp Go.Proofs.YtbinlfichkdhlaaDoorW.PrintWords Go.Proofs.YtbinlfichkdhlaaDoorW.PrintLast
set_option linter.unusedVariables false
theorem heads_bind : Ev (fun k => (neumelaw05_heads.f k).bind fun t => some t) true := Ev.some_bind (Ev.of neumelaw05_heads.mono neumelaw05_heads.at)
theorem wrap_id {x : Int} (h1 : -9223372036854775808 ≤ x) (h2 : x ≤ 9223372036854775807) : wrap64 x = x := by unfold wrap64; omega
theorem get_app (a b : ByteArray) (i : Nat) : (a ++ b).get! (a.size + i) = b.get! i := by
  show (a ++ b).data[a.size + i]! = b.data[i]!
  rw [ByteArray.data_append, getElem!_def, getElem!_def, Array.getElem?_append_right (by show a.data.size ≤ a.data.size + i; omega)]
  have e : a.size + i - a.data.size = i := Nat.add_sub_cancel_left a.data.size i
  rw [e]
theorem get_left (a b : ByteArray) {i : Nat} (h : i < a.size) : (a ++ b).get! i = a.get! i := by
  show (a ++ b).data[i]! = a.data[i]!
  rw [ByteArray.data_append, getElem!_def, getElem!_def, Array.getElem?_append_left h]
theorem decode_app (a b : ByteArray) (p : Nat) : Utf8.decode (a ++ b) (a.size + p) = Utf8.decode b p := by
  have h : ∀ k, (a ++ b).get! (a.size + p + k) = b.get! (p + k) := fun k => by rw [Nat.add_assoc]; exact get_app a b (p + k)
  have hs : ∀ k, decide (a.size + p + k < (a ++ b).size) = decide (p + k < b.size) := fun k => decide_eq_decide.2 (by rw [ByteArray.size_append]; omega)
  simp only [Utf8.decode, h, hs]
/-- How wide a text is from a byte on, not held back. -/
def rw1 (s : ByteArray) : Nat → Nat → Int
 | 0, _ => 0
 | b + 1, pos => if pos < s.size then lett (Utf8.decode s pos).1 + rw1 s b (pos + (Utf8.decode s pos).2) else 0
theorem rw1_bd (s : ByteArray) : ∀ (b pos : Nat), 0 ≤ rw1 s b pos ∧ rw1 s b pos ≤ 1130 * b := by
  intro b
  induction b with
  | zero => intro pos; simp [rw1]
  | succ b ih =>
    intro pos
    simp only [rw1]
    split
    · have h1 := ih (pos + (Utf8.decode s pos).2)
      have h2 := letter_ok (Utf8.decode s pos).1
      omega
    · omega
theorem widthV_eq (s : ByteArray) : ∀ (b pos : Nat) (n : Int), 0 ≤ n → n + 1130 * b ≤ 1099511627776 → widthV s b pos n = n + rw1 s b pos := by
  intro b
  induction b with
  | zero => intro pos n _ _; simp [widthV, rw1]
  | succ b ih =>
    intro pos n h1 h2
    simp only [widthV, rw1]
    have h3 := letter_ok (Utf8.decode s pos).1
    split
    · have hm : mn 1099511627776 (n + lett (Utf8.decode s pos).1) = n + lett (Utf8.decode s pos).1 := by
        unfold mn
        split <;> omega
      rw [hm, ih _ _ (by omega) (by omega)]
      omega
    · omega
theorem rw1_app (a b : ByteArray) : ∀ (m p : Nat), rw1 (a ++ b) m (a.size + p) = rw1 b m p := by
  intro m
  induction m with
  | zero => intro p; rfl
  | succ m ih =>
    intro p
    simp only [rw1]
    rw [decode_app, Nat.add_assoc, ih, ByteArray.size_append]
    by_cases c : p < b.size
    · rw [if_pos c, if_pos (by omega)]
    · rw [if_neg c, if_neg (by omega)]
theorem dec_ascii (s : ByteArray) (pos : Nat) (h : pos < s.size) (ha : (s.get! pos).toNat < 128) : Utf8.decode s pos = ((s.get! pos).toNat, 1) := by
  have e : s.get! pos = s[pos]'h := by have := get_at s pos h; rwa [Nat.add_zero] at this
  rw [e] at ha ⊢
  exact decode_ascii s pos h ha
theorem rw1_both (a b : ByteArray) (ha : ∀ i, i < a.size → (a.get! i).toNat < 128) : ∀ (k pos : Nat), pos + k = a.size → rw1 (a ++ b) (k + b.size) pos = rw1 a k pos + rw1 b b.size 0 ∧ 420 * (k : Int) ≤ rw1 a k pos := by
  intro k
  induction k with
  | zero =>
    intro pos hp
    have e : pos = a.size + 0 := by omega
    refine ⟨?_, by simp [rw1]⟩
    rw [e, Nat.zero_add, rw1_app]
    simp [rw1]
  | succ k ih =>
    intro pos hp
    have hlt : pos < a.size := by omega
    obtain ⟨h1, h2⟩ := ih (pos + 1) (by omega)
    have d1 : Utf8.decode a pos = ((a.get! pos).toNat, 1) := dec_ascii a pos hlt (ha pos hlt)
    have d2 : Utf8.decode (a ++ b) pos = ((a.get! pos).toNat, 1) := by
      have := dec_ascii (a ++ b) pos (by rw [ByteArray.size_append]; omega) (by rw [get_left a b hlt]; exact ha pos hlt)
      rwa [get_left a b hlt] at this
    have h3 := letter_ok ((a.get! pos).toNat : Int)
    rw [show k + 1 + b.size = (k + b.size) + 1 by omega]
    simp only [rw1]
    rw [d1, d2, if_pos hlt, if_pos (by rw [ByteArray.size_append]; omega)]
    simp only
    rw [h1]
    refine ⟨by omega, by omega⟩
theorem width_val (s : ByteArray) (h : s.size ≤ 100000) : glyph_Width.f s = some (rw1 s s.size 0) := by
  unfold glyph_Width.f
  rw [widthV_eq s s.size 0 0 (by omega) (by omega), Int.zero_add]
theorem widths_l0 (a b : ByteArray) (h1 : a.size ≤ 1000) (h2 : b.size ≤ 1000) : ∀ (d i : Nat), i + d = a.size → (∀ j, j < i → (a.get! j).toNat < 128) → Ev (fun k => neumelaw05_GlyphWidths.l0 k a b i) true := by
  intro d
  induction d with
  | zero =>
    intro i hd ha
    obtain ⟨e1, e2⟩ := rw1_both a b (fun j hj => ha j (by omega)) a.size 0 (by omega)
    have b1 := rw1_bd a a.size 0
    have b2 := rw1_bd b b.size 0
    refine Ev.succ ?_
    simp only [neumelaw05_GlyphWidths.l0]
    refine Ev.neg (by omega) (Ev.pos (by omega) (Ev.bindc (width_val (a ++ b) (by rw [ByteArray.size_append]; omega)) (Ev.bindc (width_val a (by omega)) (Ev.bindc (width_val b (by omega)) (Ev.pos ?_ (Ev.bindc (width_val a (by omega)) (Ev.pos ?_ heads_bind)))))))
    · rw [ByteArray.size_append, e1, wrap_id (by omega) (by omega)]
    · rw [wrap_id (by omega) (by omega)]
      exact e2
  | succ d ih =>
    intro i hd ha
    refine Ev.succ ?_
    simp only [neumelaw05_GlyphWidths.l0]
    rw [wrap_id (x := (i : Int) + 1) (by omega) (by omega), show ((i : Nat) : Int) + 1 = ((i + 1 : Nat) : Int) by omega]
    have hb : bt a (i : Int) = ((a.get! i).toNat : Int) := by
      have e := get_at a i (by omega)
      rw [Nat.add_zero] at e
      unfold bt
      rw [dif_pos (by rw [Int.toNat_natCast]; omega), e]
      rfl
    rw [hb]
    refine Ev.pos (by omega) (Ev.pos (by omega) ?_)
    by_cases c : ((a.get! i).toNat : Int) ≥ 128
    · exact Ev.pos c heads_bind
    · refine Ev.neg c (ih (i + 1) (by omega) (fun j hj => ?_))
      by_cases e : j = i
      · subst e; omega
      · exact ha j (by omega)
theorem GlyphWidths : GlyphWidths_Pure := by
  intro a b _ _
  suffices h : Ev (fun k => neumelaw05_GlyphWidths.f k a b) true by
    obtain ⟨k, hk⟩ := h
    exact ⟨k, hk k (Nat.le_refl _)⟩
  have j0 : ∀ c : Bool, (c = false → a.size ≤ 1000 ∧ b.size ≤ 1000) → Ev (fun k => neumelaw05_GlyphWidths.j0 k a b c) true := by
    intro c hc
    refine Ev.succ ?_
    simp only [neumelaw05_GlyphWidths.j0]
    by_cases e : c = true
    · exact Ev.pos e heads_bind
    · have := hc (Bool.eq_false_iff.2 e)
      exact Ev.neg e (widths_l0 a b this.1 this.2 a.size 0 (by omega) (fun j hj => absurd hj (Nat.not_lt_zero _)))
  unfold neumelaw05_GlyphWidths.f
  by_cases c : (a.size : Int) > 1000
  · exact Ev.pos c (j0 true (fun q => Bool.noConfusion q))
  · refine Ev.neg c (j0 _ (fun q => ?_))
    have := of_decide_eq_false q
    omega
end Go.Proofs.YtbinlfichkdhlaaDoor.Pure
