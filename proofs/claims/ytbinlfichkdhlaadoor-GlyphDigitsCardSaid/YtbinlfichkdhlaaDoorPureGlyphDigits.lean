/- The law GlyphDigits of layer 5: a number's digits are it. -/
import Derived.Test.YtbinlfichkdhlaaDoorStatGlyphDigits
import Derived.Test.YtbinlfichkdhlaaDoorPx8
import Derived.Test.YtbinlfichkdhlaaDoorPx7
import Derived.Test.YtbinlfichkdhlaaDoorEv
namespace Go.Proofs.YtbinlfichkdhlaaDoor.Pure
open Go.RowKit Go.Proofs.YtbinlfichkdhlaaDoor.P Go.Proofs.YtbinlfichkdhlaaDoor.Rp Go.Proofs.YtbinlfichkdhlaaDoorW.PrintWords Go.Proofs.YtbinlfichkdhlaaDoorW.PrintLast
set_option linter.unusedVariables false
theorem heads_bind : Ev (fun k => (neumelaw05_heads.f k).bind fun t => some t) true := Ev.some_bind (Ev.of neumelaw05_heads.mono neumelaw05_heads.at)
theorem wrap_id {x : Int} (h1 : -9223372036854775808 ≤ x) (h2 : x ≤ 9223372036854775807) : wrap64 x = x := by unfold wrap64; omega
/-- What digits come to, behind x. -/
def val (x : Int) (l : List Int) : Int := l.foldl (fun x d => 10 * x + (d - 30)) x
theorem val_append (x : Int) (l : List Int) (d : Int) : val x (l ++ [d]) = 10 * val x l + (d - 30) := by unfold val; rw [List.foldl_append]; rfl
theorem val_ge : ∀ (l : List Int) (x : Int), 0 ≤ x → (∀ d ∈ l, 30 ≤ d ∧ d ≤ 39) → x ≤ val x l
  | [], _, _, _ => Int.le_refl _
  | d :: r, x, hx, h => by
    have hd := h d List.mem_cons_self
    have := val_ge r (10 * x + (d - 30)) (by omega) (fun e he => h e (List.mem_cons_of_mem _ he))
    show x ≤ val (10 * x + (d - 30)) r
    omega
/-- The digits of a number. -/
structure Dg (n : Int) (l : List Int) : Prop where
  pos : 1 ≤ l.length
  val : val 0 l = n
  dig : ∀ d ∈ l, 30 ≤ d ∧ d ≤ 39
  top : l.length = 1 ∨ 30 < l.getD 0 0
theorem digits_ev : ∀ (b : Nat) (n : Int), b ≤ 1000 → 0 ≤ n → n < (10 : Int) ^ (b + 1) → n ≤ 999999 → ∃ l, Ev (fun k => glyph_Digits.f k n) (l, 0) ∧ Dg n l ∧ l.length ≤ b + 1 ∧ (1 ≤ n → 30 < l.getD 0 0) := by
  intro b
  induction b with
  | zero =>
    intro n hb h0 h1 h2
    have h1 : n < 10 := h1
    have hm : Int.tmod n 10 = n := by rw [Int.tmod_eq_emod_of_nonneg h0]; omega
    refine ⟨[30 + n], Ev.succ ?_, ⟨by simp, ?_, ?_, .inl rfl⟩, by simp, fun h => ?_⟩
    · simp only [glyph_Digits.f]
      refine Ev.neg (by omega) ?_
      rw [decide_eq_false (by omega)]
      refine Ev.succ ?_
      simp only [glyph_Digits.j0]
      rw [hm, wrap_id (x := 30 + n) (by omega) (by omega)]
      exact Ev.neg (by decide) (Ev.neg (by omega) (Ev.pos (by decide) (Ev.now _)))
    · show 10 * 0 + (30 + n - 30) = n
      omega
    · intro d hd
      rw [List.mem_singleton.1 hd]
      omega
    · show 30 < 30 + n
      omega
  | succ b ih =>
    intro n hb h0 h1 h2
    by_cases c : n < 10
    · obtain ⟨l, q1, q2, q3, q4⟩ := (by
        have hm : Int.tmod n 10 = n := by rw [Int.tmod_eq_emod_of_nonneg h0]; omega
        refine ⟨[30 + n], Ev.succ ?_, ⟨by simp, ?_, ?_, .inl rfl⟩, by simp, fun h => ?_⟩
        · simp only [glyph_Digits.f]
          refine Ev.neg (by omega) ?_
          rw [decide_eq_false (by omega)]
          refine Ev.succ ?_
          simp only [glyph_Digits.j0]
          rw [hm, wrap_id (x := 30 + n) (by omega) (by omega)]
          exact Ev.neg (by decide) (Ev.neg (by omega) (Ev.pos (by decide) (Ev.now _)))
        · show 10 * 0 + (30 + n - 30) = n
          omega
        · intro d hd
          rw [List.mem_singleton.1 hd]
          omega
        · show 30 < 30 + n
          omega : ∃ l, Ev (fun k => glyph_Digits.f k n) (l, 0) ∧ Dg n l ∧ l.length ≤ 0 + 1 ∧ (1 ≤ n → 30 < l.getD 0 0))
      exact ⟨l, q1, q2, by omega, q4⟩
    · have hp : (10 : Int) ^ (b + 1 + 1) = 10 ^ (b + 1) * 10 := Int.pow_succ 10 (b + 1)
      rw [hp] at h1
      generalize hP : (10 : Int) ^ (b + 1) = p at h1
      obtain ⟨l, q1, q2, q3, q4⟩ := ih (n / 10) (by omega) (by omega) (by rw [hP]; omega) (by omega)
      have hm : Int.tmod n 10 = n % 10 := Int.tmod_eq_emod_of_nonneg h0
      have hd : Int.tdiv n 10 = n / 10 := Int.tdiv_eq_ediv_of_nonneg h0
      have hpos := q2.pos
      have ht : 30 < (l ++ [30 + n % 10]).getD 0 0 := by
        have := q4 (by omega)
        rw [List.getD_eq_getElem?_getD, List.getElem?_append_left (by omega), ← List.getD_eq_getElem?_getD]
        exact this
      refine ⟨l ++ [30 + n % 10], Ev.succ ?_, ⟨by simp, ?_, ?_, .inr ht⟩, by simp; omega, fun _ => ht⟩
      · simp only [glyph_Digits.f]
        refine Ev.neg (by omega) ?_
        rw [decide_eq_false (by omega)]
        refine Ev.succ ?_
        simp only [glyph_Digits.j0]
        rw [hm, hd, wrap_id (x := 30 + n % 10) (by omega) (by omega), wrap_id (x := n / 10) (by omega) (by omega)]
        refine Ev.neg (by decide) (Ev.pos (by omega) (Ev.bind q1 (Ev.pos ?_ (Ev.now _))))
        show l.length < 17592186044416
        omega
      · rw [val_append, q2.val]; omega
      · intro d hd2
        rcases List.mem_append.1 hd2 with hd2 | hd2
        · exact q2.dig d hd2
        · rw [List.mem_singleton.1 hd2]; omega
theorem loop (n : Int) (l : List Int) (hn : 0 ≤ n ∧ n ≤ 999999) (h : Dg n l) (h6 : l.length ≤ 6) : ∀ (s : List Int) (i : Nat) (x : Int), l.drop i = s → i ≤ l.length → 0 ≤ x → val x s = n → Ev (fun k => neumelaw05_GlyphDigits.l0 k n l x i) true := by
  intro s
  induction s with
  | nil =>
    intro i x hs hi hx hv
    have hlen : i = l.length := by
      have := congrArg List.length hs
      rw [List.length_drop, List.length_nil] at this
      omega
    have hpos := h.pos
    refine Ev.succ ?_
    simp only [neumelaw05_GlyphDigits.l0]
    refine Ev.neg (by omega) (Ev.pos hv (Ev.pos (by omega) ?_))
    by_cases c : (l.length : Int) = 1
    · exact Ev.pos c heads_bind
    · refine Ev.neg c (Ev.pos (by omega) (Ev.neg ?_ heads_bind))
      rcases h.top with q | q
      · omega
      · show ¬ l.getD 0 0 = 30
        omega
  | cons d s ih =>
    intro i x hs hi hx hv
    have hlt : i < l.length := by
      have := congrArg List.length hs
      rw [List.length_drop, List.length_cons] at this
      omega
    have hd : l[i] = d ∧ l.drop (i + 1) = s := by
      rw [List.drop_eq_getElem_cons hlt] at hs
      exact ⟨(List.cons.inj hs).1, (List.cons.inj hs).2⟩
    have hdm := h.dig d (by rw [← hd.1]; exact List.getElem_mem hlt)
    have hs2 : ∀ e ∈ s, 30 ≤ e ∧ e ≤ 39 := fun e he => h.dig e (List.mem_of_mem_drop (by rw [hd.2]; exact he))
    have hv2 : val (10 * x + (d - 30)) s = n := hv
    have hb := val_ge s (10 * x + (d - 30)) (by omega) hs2
    refine Ev.succ ?_
    simp only [neumelaw05_GlyphDigits.l0]
    have hr : rd l (i : Int) = d := by
      show l.getD i 0 = d
      rw [List.getD_eq_getElem?_getD, List.getElem?_eq_getElem hlt, hd.1]; rfl
    rw [hr, wrap_id (x := 10 * x) (by omega) (by omega), wrap_id (x := d - 30) (by omega) (by omega), wrap_id (x := 10 * x + (d - 30)) (by omega) (by omega), wrap_id (x := (i : Int) + 1) (by omega) (by omega), show ((i : Nat) : Int) + 1 = ((i + 1 : Nat) : Int) by omega]
    exact Ev.pos (by omega) (Ev.pos (by omega) (Ev.neg (by omega) (Ev.neg (by omega) (Ev.neg (by omega) (ih (i + 1) _ hd.2 (by omega) (by omega) hv2)))))
theorem GlyphDigits : GlyphDigits_Pure := by
  intro n _
  suffices h : Ev (fun k => neumelaw05_GlyphDigits.f k n) true by
    obtain ⟨k, hk⟩ := h
    exact ⟨k, hk k (Nat.le_refl _)⟩
  unfold neumelaw05_GlyphDigits.f
  by_cases c : 0 ≤ n ∧ n ≤ 999999
  · obtain ⟨l, h1, h2, h3, -⟩ := digits_ev 5 n (by omega) c.1 (by show n < 1000000; omega) c.2
    exact Ev.bind h1 (Ev.pos rfl (loop n l c h2 h3 l 0 0 rfl (Nat.zero_le _) (Int.le_refl _) h2.val))
  · have h1 : Ev (fun k => glyph_Digits.f k n) ([], 2) := by
      refine Ev.succ ?_
      simp only [glyph_Digits.f]
      by_cases c2 : n < 0
      · refine Ev.pos c2 (Ev.succ ?_)
        simp only [glyph_Digits.j0]
        exact Ev.pos trivial (Ev.now _)
      · refine Ev.neg c2 (Ev.succ ?_)
        simp only [glyph_Digits.j0]
        exact Ev.pos (decide_eq_true (by omega)) (Ev.now _)
    refine Ev.bind h1 (Ev.neg (by decide) ?_)
    by_cases c2 : n < 0
    · exact Ev.pos c2 (Ev.pos rfl heads_bind)
    · exact Ev.neg c2 (Ev.pos (by omega) (Ev.pos rfl heads_bind))
end Go.Proofs.YtbinlfichkdhlaaDoor.Pure
