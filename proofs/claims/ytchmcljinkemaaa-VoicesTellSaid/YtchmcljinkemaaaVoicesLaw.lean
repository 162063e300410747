/- Voices: what a push is, in plain words: the nearest way of its candidates that meets nothing; no lesser one would do. No program. -/
import Derived.Test.YtchmcljinkemaaaVoicesPlain
namespace Go.Proofs.Ytchmcljinkemaaa.Rp
open Go.RowKit Go.Proofs.Ytchmcljinkemaaa.P Go.Proofs.YtchmcljinkemaaaW.PrintWords Go.Proofs.YtchmcljinkemaaaW.PrintLast
set_option linter.unusedVariables false
theorem find_compactUpTo (p : Int → Bool) (d : Array Int) : ∀ m, (Go.Lib.compactUpTo d m).find? p = ((List.range m).map (d[·]!)).find? p
  | 0 => rfl
  | m + 1 => by
    rw [Go.Lib.compactUpTo_succ, List.find?_append, find_compactUpTo p d m, List.range_succ, List.map_append, List.find?_append]
    by_cases h : Go.Lib.keeps d m = true
    · rw [if_pos h]; rfl
    · rw [if_neg h]
      cases hf : ((List.range m).map (d[·]!)).find? p with
      | some x => rfl
      | none =>
        have h0 : m ≠ 0 := by
          intro h0
          subst h0
          exact h (Go.Lib.keeps_lt_one d 0 (by omega))
        have he : d[m]! = d[m - 1]! := by
          by_cases e : d[m]! = d[m - 1]!
          · exact e
          · exact absurd (Go.Lib.keeps_pos e) h
        have hp : p d[m]! = false := by
          rw [he]
          have := List.find?_eq_none.1 hf d[m - 1]! (List.mem_map.2 ⟨m - 1, List.mem_range.2 (by omega), rfl⟩)
          simpa using this
        simp [hp]
theorem find_compact (p : Int → Bool) (l : List Int) : (Go.Lib.compact l).find? p = l.find? p := by
  unfold Go.Lib.compact
  rw [find_compactUpTo]
  congr 1
  apply List.ext_getElem (by simp)
  intro i h1 h2
  simp [h2]
/-- b is no farther than c. -/
def nearer (right : Bool) (b c : Int) : Prop := if right = true then b ≤ c else c ≤ b
theorem find_first {p : Int → Bool} {R : Int → Int → Prop} (hr : ∀ a, R a a) {l : List Int} (hs : l.Pairwise R) {b : Int} (h : l.find? p = some b) : b ∈ l ∧ p b = true ∧ ∀ c ∈ l, p c = true → R b c := by
  obtain ⟨hb, ps, qs, rfl, ha⟩ := List.find?_eq_some_iff_append.1 h
  refine ⟨by simp, hb, fun c hc hp => ?_⟩
  rcases List.mem_append.1 hc with h1 | h1
  · have := ha c h1
    simp [hp] at this
  · rcases List.mem_cons.1 h1 with rfl | h2
    · exact hr _
    · exact (List.pairwise_cons.1 (List.pairwise_append.1 hs).2.1).1 c h2
theorem ord_rises (right : Bool) (l : List Int) : (if right = true then isort l else (isort l).reverse).Pairwise (nearer right) := by
  cases right with
  | true => exact (isort_rises l).imp (fun h => by unfold nearer; rw [if_pos rfl]; exact h)
  | false =>
    rw [if_neg (by decide), List.pairwise_reverse]
    exact (isort_rises l).imp (fun h => by unfold nearer; rw [if_neg (by decide)]; exact h)
theorem ord_mem (right : Bool) (l : List Int) (x : Int) : x ∈ (if right = true then isort l else (isort l).reverse) ↔ x ∈ l := by
  cases right with
  | true => rw [if_pos rfl]; exact (isort_perm l).mem_iff
  | false => rw [if_neg (by decide), List.mem_reverse]; exact (isort_perm l).mem_iff
theorem first_some {right : Bool} {placed g : List S45} {l : List Int} {b : Int} (h : firstB placed g (ordB right l) = some b) : b ∈ l ∧ meetsB placed g b = false ∧ ∀ c ∈ l, meetsB placed g c = false → nearer right b c := by
  unfold firstB ordB at h
  rw [find_compact] at h
  obtain ⟨h1, h2, h3⟩ := find_first (fun a => by unfold nearer; split <;> exact Int.le_refl _) (ord_rises right l) h
  refine ⟨(ord_mem right l b).1 h1, by simpa using h2, fun c hc hp => h3 c ((ord_mem right l c).2 hc) (by simpa using hp)⟩
theorem first_none {right : Bool} {placed g : List S45} {l : List Int} (h : firstB placed g (ordB right l) = none) : ∀ c ∈ l, meetsB placed g c = true := by
  unfold firstB ordB at h
  rw [find_compact] at h
  intro c hc
  have := List.find?_eq_none.1 h c ((ord_mem right l c).2 hc)
  simpa using this
theorem fx_iff (x : Int) : fx_ok x = true ↔ -1099511627776 ≤ x ∧ x ≤ 1099511627776 := by unfold fx_ok; exact decide_eq_true_iff
theorem box_iff (a b c d : Int) : box_ok a b c d = true ↔ ((-1099511627776 ≤ a ∧ a ≤ 1099511627776) ∧ (-1099511627776 ≤ b ∧ b ≤ 1099511627776) ∧ (-1099511627776 ≤ c ∧ c ≤ 1099511627776) ∧ (-1099511627776 ≤ d ∧ d ≤ 1099511627776) ∧ a ≤ c ∧ b ≤ d) := by
  unfold box_ok
  simp only [Bool.and_eq_true, fx_iff, decide_eq_true_eq, and_assoc]
theorem near_iff (x : S45) : nearB x = true ↔ (-1073741824 ≤ x.f0 ∧ x.f0 ≤ x.f2 ∧ x.f2 ≤ 1073741824 ∧ -1073741824 ≤ x.f1 ∧ x.f1 ≤ x.f3 ∧ x.f3 ≤ 1073741824) := by
  have hb := box_iff x.f0 x.f1 x.f2 x.f3
  unfold nearB voices_near.f box_Check.f
  simp only [Option.bind_some]
  by_cases h : box_ok x.f0 x.f1 x.f2 x.f3 = true
  · have := hb.1 h
    rw [if_pos h]
    repeat' split
    all_goals simp
    all_goals omega
  · rw [if_neg h]
    simp only [Option.getD_some, Bool.false_eq_true, false_iff]
    intro hh
    exact h (hb.2 (by omega))
theorem meet_iff (x y : S45) : meetB x y = true ↔ (box_ok x.f0 x.f1 x.f2 x.f3 = true ∧ box_ok y.f0 y.f1 y.f2 y.f3 = true ∧ mx x.f0 y.f0 < mn x.f2 y.f2 ∧ mx x.f1 y.f1 < mn x.f3 y.f3) := by
  unfold meetB box_Meet.f box_Check.f box_overlap.f
  simp only [Option.bind_some]
  by_cases h1 : box_ok x.f0 x.f1 x.f2 x.f3 = true
  · rw [if_pos h1]
    by_cases h2 : box_ok y.f0 y.f1 y.f2 y.f3 = true
    · rw [if_pos h2]
      by_cases h3 : mx x.f0 y.f0 < mn x.f2 y.f2
      · simp [h1, h2, h3]
      · simp [h1, h2, h3]
    · rw [if_neg h2]; simp [h2]
  · rw [if_neg h1]; simp [h1]
theorem over_iff (a b c d : Int) : mx a b < mn c d ↔ (a < c ∧ a < d ∧ b < c ∧ b < d) := by
  unfold mx mn
  split <;> split <;> omega
/-- Two near boxes, one of them moved: do they meet? -/
theorem meetv_iff {y x : S45} {b : Int} (hy : nearB y = true) (hx : nearB x = true) (h0 : -8589934592 ≤ b) (h1 : b ≤ 8589934592) :
    meetB y (mvB x b) = true ↔ ((y.f0 < y.f2 ∧ y.f0 < x.f2 + b ∧ x.f0 + b < y.f2 ∧ x.f0 < x.f2) ∧ (y.f1 < y.f3 ∧ y.f1 < x.f3 ∧ x.f1 < y.f3 ∧ x.f1 < x.f3)) := by
  have e1 := (near_iff y).1 hy
  have e2 := (near_iff x).1 hx
  rw [meet_iff, over_iff, over_iff, box_iff, box_iff]
  unfold mvB
  simp only
  rw [wrap_id (x := x.f0 + b) (by omega) (by omega), wrap_id (x := x.f2 + b) (by omega) (by omega)]
  omega
theorem meets_iff (placed g : List S45) (b : Int) : meetsB placed g b = true ↔ ∃ x ∈ g, ∃ y ∈ placed, meetB y (mvB x b) = true := by
  unfold meetsB
  simp only [List.any_eq_true]
theorem meets_not {placed g : List S45} {b : Int} (h : meetsB placed g b = false) {x y : S45} (hx : x ∈ g) (hy : y ∈ placed) : ¬ meetB y (mvB x b) = true := fun hm => by
  rw [(meets_iff placed g b).2 ⟨x, hx, y, hy, hm⟩] at h
  cases h
theorem meets_false {placed g : List S45} {b : Int} (h : ¬ meetsB placed g b = true) : meetsB placed g b = false := by
  cases hh : meetsB placed g b with
  | true => exact absurd hh h
  | false => rfl
theorem cand_mem {right : Bool} {placed g : List S45} {c : Int} : c ∈ candB right placed g ↔ ∃ y ∈ placed, ∃ x ∈ g, byOf right y x = c ∧ okBy right c = true := by
  unfold candB newBy
  simp only [List.mem_flatMap, List.mem_filter, List.mem_map]
  constructor
  · rintro ⟨y, hy, ⟨x, hx, rfl⟩, ho⟩
    exact ⟨y, hy, x, hx, rfl, ho⟩
  · rintro ⟨y, hy, x, hx, rfl, ho⟩
    exact ⟨y, hy, ⟨x, hx, rfl⟩, ho⟩
theorem all_of {l : List S45} (h : l.all nearB = true) {x : S45} (hx : x ∈ l) : nearB x = true := List.all_eq_true.1 h x hx
theorem by_eq {right : Bool} {y x : S45} (hy : nearB y = true) (hx : nearB x = true) : byOf right y x = if right = true then y.f2 - x.f0 else y.f0 - x.f2 := by
  have e1 := (near_iff y).1 hy
  have e2 := (near_iff x).1 hx
  unfold byOf
  cases right with
  | true => rw [if_pos rfl, if_pos rfl]; exact wrap_id (by omega) (by omega)
  | false => rw [if_neg (by decide), if_neg (by decide)]; exact wrap_id (by omega) (by omega)
/-- A candidate lies on its side, and not too far out. -/
theorem cand_side {right : Bool} {placed g : List S45} (hp : placed.all nearB = true) (hg : g.all nearB = true) {c : Int} (h : c ∈ 0 :: candB right placed g) : -2147483648 ≤ c ∧ c ≤ 2147483648 ∧ (right = true → 0 ≤ c) ∧ (right = false → c ≤ 0) := by
  rcases List.mem_cons.1 h with rfl | h
  · exact ⟨by omega, by omega, fun _ => by omega, fun _ => by omega⟩
  · obtain ⟨y, hy, x, hx, e, ho⟩ := cand_mem.1 h
    have hy := all_of hp hy
    have hx := all_of hg hx
    rw [by_eq hy hx] at e
    have e1 := (near_iff y).1 hy
    have e2 := (near_iff x).1 hx
    unfold okBy at ho
    cases right with
    | true =>
      rw [if_pos rfl] at e
      simp at ho
      exact ⟨by omega, by omega, fun _ => by omega, fun hh => by cases hh⟩
    | false =>
      rw [if_neg (by decide)] at e
      simp at ho
      exact ⟨by omega, by omega, fun hh => (by cases hh), fun _ => by omega⟩
theorem has_most : ∀ (l : List Int), l ≠ [] → ∃ m ∈ l, ∀ x ∈ l, x ≤ m
  | [], h => absurd rfl h
  | [a], _ => ⟨a, by simp, fun x hx => by simp at hx; omega⟩
  | a :: b :: r, _ => by
    obtain ⟨m, hm, hh⟩ := has_most (b :: r) (by simp)
    by_cases c : a ≤ m
    · exact ⟨m, List.mem_cons_of_mem _ hm, fun x hx => by
        rcases List.mem_cons.1 hx with rfl | hx
        · exact c
        · exact hh x hx⟩
    · exact ⟨a, List.mem_cons_self, fun x hx => by
        rcases List.mem_cons.1 hx with rfl | hx
        · exact Int.le_refl _
        · have := hh x hx; omega⟩
theorem has_least (l : List Int) (h : l ≠ []) : ∃ m ∈ l, ∀ x ∈ l, m ≤ x := by
  obtain ⟨m, hm, hh⟩ := has_most (l.map fun x => -x) (by simpa using h)
  obtain ⟨x, hx, rfl⟩ := List.mem_map.1 hm
  exact ⟨x, hx, fun y hy => by have := hh (-y) (List.mem_map.2 ⟨y, hy, rfl⟩); omega⟩
/-- WHERE NOTHING MEETS THERE IS A CANDIDATE NO FARTHER AT WHICH NOTHING MEETS. -/
theorem gap_right {placed g : List S45} (hp : placed.all nearB = true) (hg : g.all nearB = true) {t : Int} (h0 : 0 ≤ t) (h1 : t ≤ 8589934592) (hm : meetsB placed g t = false) :
    ∃ c ∈ 0 :: candB true placed g, c ≤ t ∧ meetsB placed g c = false := by
  obtain ⟨c, hc, hmax⟩ := has_most ((0 :: candB true placed g).filter fun c => decide (c ≤ t)) (by
    intro he
    have : (0 : Int) ∈ (0 :: candB true placed g).filter fun c => decide (c ≤ t) := List.mem_filter.2 ⟨List.mem_cons_self, by simpa using h0⟩
    rw [he] at this
    cases this)
  obtain ⟨hc1, hc2⟩ := List.mem_filter.1 hc
  have hct : c ≤ t := of_decide_eq_true hc2
  refine ⟨c, hc1, hct, ?_⟩
  obtain ⟨s1, s2, s3, _⟩ := cand_side hp hg hc1
  have s3 := s3 rfl
  refine meets_false fun hcm => ?_
  obtain ⟨x, hx, y, hy, hxy⟩ := (meets_iff _ _ _).1 hcm
  have hyn := all_of hp hy
  have hxn := all_of hg hx
  have q1 := (meetv_iff hyn hxn (by omega) (by omega)).1 hxy
  have q2 := meets_not hm hx hy
  rw [meetv_iff hyn hxn (by omega) (by omega)] at q2
  have q3 : y.f2 - x.f0 ≤ t := by omega
  have q4 : y.f2 - x.f0 ∈ candB true placed g := cand_mem.2 ⟨y, hy, x, hx, by rw [by_eq hyn hxn, if_pos rfl], by unfold okBy; simp; omega⟩
  have := hmax _ (List.mem_filter.2 ⟨List.mem_cons_of_mem _ q4, by simpa using q3⟩)
  omega
theorem gap_left {placed g : List S45} (hp : placed.all nearB = true) (hg : g.all nearB = true) {t : Int} (h0 : t ≤ 0) (h1 : -8589934592 ≤ t) (hm : meetsB placed g t = false) :
    ∃ c ∈ 0 :: candB false placed g, t ≤ c ∧ meetsB placed g c = false := by
  obtain ⟨c, hc, hmin⟩ := has_least ((0 :: candB false placed g).filter fun c => decide (t ≤ c)) (by
    intro he
    have : (0 : Int) ∈ (0 :: candB false placed g).filter fun c => decide (t ≤ c) := List.mem_filter.2 ⟨List.mem_cons_self, by simpa using h0⟩
    rw [he] at this
    cases this)
  obtain ⟨hc1, hc2⟩ := List.mem_filter.1 hc
  have hct : t ≤ c := of_decide_eq_true hc2
  refine ⟨c, hc1, hct, ?_⟩
  obtain ⟨s1, s2, _, s3⟩ := cand_side hp hg hc1
  have s3 := s3 rfl
  refine meets_false fun hcm => ?_
  obtain ⟨x, hx, y, hy, hxy⟩ := (meets_iff _ _ _).1 hcm
  have hyn := all_of hp hy
  have hxn := all_of hg hx
  have q1 := (meetv_iff hyn hxn (by omega) (by omega)).1 hxy
  have q2 := meets_not hm hx hy
  rw [meetv_iff hyn hxn (by omega) (by omega)] at q2
  have q3 : t ≤ y.f0 - x.f2 := by omega
  have q4 : y.f0 - x.f2 ∈ candB false placed g := cand_mem.2 ⟨y, hy, x, hx, by rw [by_eq hyn hxn, if_neg (by decide)], by unfold okBy; simp; omega⟩
  have := hmin _ (List.mem_filter.2 ⟨List.mem_cons_of_mem _ q4, by simpa using q3⟩)
  omega
/-- There always is one. -/
theorem first_is (right : Bool) {placed g : List S45} (hp : placed.all nearB = true) (hg : g.all nearB = true) : ∃ b, firstB placed g (ordB right (0 :: candB right placed g)) = some b := by
  cases h : firstB placed g (ordB right (0 :: candB right placed g)) with
  | some b => exact ⟨b, rfl⟩
  | none =>
    exfalso
    have hn := first_none h
    cases right with
    | true =>
      obtain ⟨c, hc, _, hm⟩ := gap_right hp hg (t := 8589934592) (by omega) (by omega) (meets_false fun hcm => by
        obtain ⟨x, hx, y, hy, hxy⟩ := (meets_iff _ _ _).1 hcm
        have e1 := (near_iff y).1 (all_of hp hy)
        have e2 := (near_iff x).1 (all_of hg hx)
        have q1 := (meetv_iff (all_of hp hy) (all_of hg hx) (by omega) (by omega)).1 hxy
        omega)
      rw [hn c hc] at hm
      cases hm
    | false =>
      obtain ⟨c, hc, _, hm⟩ := gap_left hp hg (t := -8589934592) (by omega) (by omega) (meets_false fun hcm => by
        obtain ⟨x, hx, y, hy, hxy⟩ := (meets_iff _ _ _).1 hcm
        have e1 := (near_iff y).1 (all_of hp hy)
        have e2 := (near_iff x).1 (all_of hg hx)
        have q1 := (meetv_iff (all_of hp hy) (all_of hg hx) (by omega) (by omega)).1 hxy
        omega)
      rw [hn c hc] at hm
      cases hm
/-- A PUSH THAT GOES: what it is. -/
theorem push_is {right : Bool} {placed g : List S45} (h : (pushB placed g right).2 = 0) : ∃ b, firstB placed g (ordB right (0 :: candB right placed g)) = some b ∧ (pushB placed g right).1 = b ∧ g.all (fun x => nearB (mvB x b)) = true := by
  unfold pushB at h ⊢
  cases hf : firstB placed g (ordB right (0 :: candB right placed g)) with
  | none => rw [hf] at h; cases h
  | some b =>
    rw [hf] at h
    simp only at h ⊢
    by_cases hn : g.all (fun x => nearB (mvB x b)) = true
    · rw [if_pos hn] at h ⊢
      exact ⟨b, rfl, rfl, hn⟩
    · rw [if_neg hn] at h
      cases h
theorem mvL_near {g : List S45} {b : Int} (h : g.all (fun x => nearB (mvB x b)) = true) : (mvL b g).all nearB = true := by
  unfold mvL
  rw [List.all_map]
  exact h
theorem push_side {right : Bool} {placed g : List S45} (hp : placed.all nearB = true) (hg : g.all nearB = true) (h : (pushB placed g right).2 = 0) :
    -2147483648 ≤ (pushB placed g right).1 ∧ (pushB placed g right).1 ≤ 2147483648 ∧ (right = true → 0 ≤ (pushB placed g right).1) ∧ (right = false → (pushB placed g right).1 ≤ 0) ∧ meetsB placed g (pushB placed g right).1 = false ∧ (mvL (pushB placed g right).1 g).all nearB = true := by
  obtain ⟨b, hb, e, hn⟩ := push_is h
  rw [e]
  obtain ⟨h1, h2, h3⟩ := first_some hb
  obtain ⟨s1, s2, s3, s4⟩ := cand_side hp hg h1
  exact ⟨s1, s2, s3, s4, h2, mvL_near hn⟩
/-- NO LESSER PUSH WOULD DO. -/
theorem push_least {right : Bool} {placed g : List S45} (hp : placed.all nearB = true) (hg : g.all nearB = true) (h : (pushB placed g right).2 = 0) {t : Int}
    (hr : right = true → 0 ≤ t ∧ t < (pushB placed g right).1) (hl : right = false → t ≤ 0 ∧ (pushB placed g right).1 < t) : meetsB placed g t = true := by
  obtain ⟨b, hb, e, hn⟩ := push_is h
  rw [e] at hr hl
  obtain ⟨h1, h2, h3⟩ := first_some hb
  obtain ⟨s1, s2, s3, s4⟩ := cand_side hp hg h1
  cases hm : meetsB placed g t with
  | true => rfl
  | false =>
    exfalso
    cases right with
    | true =>
      obtain ⟨r1, r2⟩ := hr rfl
      obtain ⟨c, hc, q1, q2⟩ := gap_right hp hg r1 (by omega) hm
      have := h3 c hc q2
      unfold nearer at this
      rw [if_pos rfl] at this
      omega
    | false =>
      obtain ⟨r1, r2⟩ := hl rfl
      obtain ⟨c, hc, q1, q2⟩ := gap_left hp hg r1 (by omega) hm
      have := h3 c hc q2
      unfold nearer at this
      rw [if_neg (by decide)] at this
      omega
end Go.Proofs.Ytchmcljinkemaaa.Rp
