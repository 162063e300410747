/- Dots, rests and ledger lines: what the program's functions, and the reference's, come to: plain values. -/
import Derived.Test.YtochpedmjpidkaaPx2
import Derived.Test.YtochpedmjpidkaaPx1
import Derived.Test.YtochpedmjpidkaaPx3
import Derived.Test.YtochpedmjpidkaaPx4
import Derived.Test.YtochpedmjpidkaaPx4
import Derived.Test.YtochpedmjpidkaaPx3
import Derived.Test.YtochpedmjpidkaaEv
namespace Go.Proofs.Ytochpedmjpidkaa.Rp
open Go.RowKit Go.Proofs.Ytochpedmjpidkaa.P Go.Proofs.YtochpedmjpidkaaW.PrintWords Go.Proofs.YtochpedmjpidkaaW.PrintLast
set_option linter.unusedVariables false
set_option linter.unusedSimpArgs false
theorem wrap_id {x : Int} (h1 : -9223372036854775808 ≤ x) (h2 : x ≤ 9223372036854775807) : wrap64 x = x := by unfold wrap64; omega
theorem heads_bind : Ev (fun k => (neumelaw20_heads.f k).bind fun t => some t) true := Ev.some_bind (Ev.of neumelaw20_heads.mono neumelaw20_heads.at)
theorem rd_eq (l : List Int) {i : Nat} (h : i < l.length) : rd l (i : Int) = l[i] := by
  unfold rd
  rw [Int.toNat_natCast, List.getD_eq_getElem?_getD, List.getElem?_eq_getElem h]; rfl
/-- May places be? -/
def Ft (l : List Int) : Prop := (1 ≤ l.length ∧ l.length ≤ 16) ∧ ∀ x ∈ l, -200 ≤ x ∧ x ≤ 200
instance (l : List Int) : Decidable (Ft l) := by unfold Ft; exact inferInstance
/-- The least, the greatest. -/
def lo (l : List Int) : Int := l.foldl (fun a b => mn a b) (l.getD 0 0)
def hi (l : List Int) : Int := l.foldl (fun a b => mx a b) (l.getD 0 0)
theorem mn_le (a b : Int) : mn a b ≤ a ∧ mn a b ≤ b ∧ (mn a b = a ∨ mn a b = b) := by unfold mn; split <;> omega
theorem mx_ge (a b : Int) : a ≤ mx a b ∧ b ≤ mx a b ∧ (mx a b = a ∨ mx a b = b) := by unfold mx; split <;> omega
theorem fold_mn (l : List Int) : ∀ a : Int, l.foldl (fun a b => mn a b) a ≤ a ∧ (∀ x ∈ l, l.foldl (fun a b => mn a b) a ≤ x) ∧ (l.foldl (fun a b => mn a b) a = a ∨ l.foldl (fun a b => mn a b) a ∈ l) := by
  induction l with
  | nil => exact fun a => ⟨Int.le_refl _, fun _ h => absurd h List.not_mem_nil, .inl rfl⟩
  | cons y r ih =>
    intro a
    obtain ⟨h1, h2, h3⟩ := ih (mn a y)
    have hm := mn_le a y
    simp only [List.foldl_cons]
    refine ⟨by omega, fun x hx => ?_, ?_⟩
    · rcases List.mem_cons.1 hx with rfl | hx
      · omega
      · exact h2 x hx
    · rcases h3 with h3 | h3
      · rw [h3]
        rcases hm.2.2 with q | q
        · exact .inl q
        · rw [q]; exact .inr (List.mem_cons_self ..)
      · exact .inr (List.mem_cons_of_mem _ h3)
theorem fold_mx (l : List Int) : ∀ a : Int, a ≤ l.foldl (fun a b => mx a b) a ∧ (∀ x ∈ l, x ≤ l.foldl (fun a b => mx a b) a) ∧ (l.foldl (fun a b => mx a b) a = a ∨ l.foldl (fun a b => mx a b) a ∈ l) := by
  induction l with
  | nil => exact fun a => ⟨Int.le_refl _, fun _ h => absurd h List.not_mem_nil, .inl rfl⟩
  | cons y r ih =>
    intro a
    obtain ⟨h1, h2, h3⟩ := ih (mx a y)
    have hm := mx_ge a y
    simp only [List.foldl_cons]
    refine ⟨by omega, fun x hx => ?_, ?_⟩
    · rcases List.mem_cons.1 hx with rfl | hx
      · omega
      · exact h2 x hx
    · rcases h3 with h3 | h3
      · rw [h3]
        rcases hm.2.2 with q | q
        · exact .inl q
        · rw [q]; exact .inr (List.mem_cons_self ..)
      · exact .inr (List.mem_cons_of_mem _ h3)
theorem lo_mem {l : List Int} (h : 0 < l.length) : lo l ∈ l ∧ ∀ x ∈ l, lo l ≤ x := by
  obtain ⟨h1, h2, h3⟩ := fold_mn l (l.getD 0 0)
  refine ⟨?_, h2⟩
  unfold lo
  rcases h3 with h3 | h3
  · rw [h3]
    match l, h with
    | x :: r, _ => exact List.mem_cons_self ..
  · exact h3
theorem hi_mem {l : List Int} (h : 0 < l.length) : hi l ∈ l ∧ ∀ x ∈ l, x ≤ hi l := by
  obtain ⟨h1, h2, h3⟩ := fold_mx l (l.getD 0 0)
  refine ⟨?_, h2⟩
  unfold hi
  rcases h3 with h3 | h3
  · rw [h3]
    match l, h with
    | x :: r, _ => exact List.mem_cons_self ..
  · exact h3
theorem min_ev : ∀ (d : Nat) (l : List Int) (m : Int) (i : Nat), l.length ≤ 1000000 → l.length - i = d → Ev (fun k => slices_Min_int_int.l0 k l m i) ((l.drop i).foldl (fun a b => mn a b) m) := by
  intro d
  induction d with
  | zero =>
    intro l m i h1 hd
    refine Ev.succ ?_
    simp only [slices_Min_int_int.l0]
    rw [List.drop_eq_nil_of_le (by omega)]
    exact Ev.neg (by omega) (Ev.now _)
  | succ d ih =>
    intro l m i h1 hd
    have hi : i < l.length := by omega
    refine Ev.succ ?_
    simp only [slices_Min_int_int.l0]
    rw [List.drop_eq_getElem_cons hi, rd_eq l hi, wrap_id (by omega) (by omega), show ((i : Nat) : Int) + 1 = ((i + 1 : Nat) : Int) by omega]
    exact Ev.pos (by omega) (Ev.pos (by omega) (ih l _ (i + 1) h1 (by omega)))
theorem min_f {l : List Int} (h0 : 0 < l.length) (h : l.length ≤ 1000000) : Ev (fun k => slices_Min_int_int.f k l) (lo l) := by
  unfold slices_Min_int_int.f
  refine Ev.neg (by omega) (Ev.pos (by omega) ?_)
  have := min_ev _ l (rd l 0) 1 h rfl
  refine Ev.to this ?_
  unfold lo
  match l, h0 with
  | x :: r, _ =>
    have hm : mn x x = x := by have := mn_le x x; omega
    have : rd (x :: r) 0 = x := rfl
    rw [this]
    simp only [List.drop_succ_cons, List.drop_zero, List.foldl_cons, List.getD_cons_zero, hm]
theorem max_f {l : List Int} (h0 : 0 < l.length) : slices_Max_int_int.f l = some (hi l) := by
  unfold hi
  match l, h0 with
  | x :: r, _ =>
    have hm : mx x x = x := by have := mx_ge x x; omega
    unfold slices_Max_int_int.f
    simp only [List.foldl_cons, List.getD_cons_zero, hm]
theorem fits_ev (l : List Int) : Ev (fun k => dots_fits.f k l) (decide (Ft l)) := by
  unfold dots_fits.f
  by_cases c1 : (l.length : Int) ≥ 1
  rotate_left
  · exact Ev.to (Ev.neg c1 (Ev.now _)) (decide_eq_false (fun q => by have := q.1; omega)).symm
  by_cases c2 : (l.length : Int) ≤ 16
  rotate_left
  · exact Ev.to (Ev.pos c1 (Ev.neg c2 (Ev.now _))) (decide_eq_false (fun q => by have := q.1; omega)).symm
  have h0 : 0 < l.length := by omega
  have hlo := lo_mem h0
  have hhi := hi_mem h0
  refine Ev.pos c1 (Ev.pos c2 (Ev.bind (min_f h0 (by omega)) ?_))
  by_cases c3 : lo l ≥ -200
  rotate_left
  · exact Ev.to (Ev.neg c3 (Ev.now _)) (decide_eq_false (fun q => by have := q.2 _ hlo.1; omega)).symm
  refine Ev.pos c3 (Ev.bindc (max_f h0) (Ev.const ?_))
  congr 1
  refine decide_eq_decide.2 ⟨fun q => ⟨by omega, fun x hx => ?_⟩, fun q => (q.2 _ hhi.1).2⟩
  have := hlo.2 x hx
  have := hhi.2 x hx
  omega
theorem numbers_l0 : ∀ (d : Nat) (l : List Int) (i : Nat), l.length ≤ 1000000 → l.length - i = d → Ev (fun k => neumeref18_Numbers.l0 k l l i) true := by
  intro d
  induction d with
  | zero =>
    intro l i h1 hd
    refine Ev.succ ?_
    simp only [neumeref18_Numbers.l0]
    exact Ev.neg (by omega) (Ev.now _)
  | succ d ih =>
    intro l i h1 hd
    refine Ev.succ ?_
    simp only [neumeref18_Numbers.l0]
    rw [wrap_id (by omega) (by omega), show ((i : Nat) : Int) + 1 = ((i + 1 : Nat) : Int) by omega]
    exact Ev.pos (by omega) (Ev.pos (by omega) (Ev.pos (by omega) (Ev.pos (by trivial) (ih l (i + 1) h1 (by omega)))))
theorem numbers_ev (l : List Int) (h : l.length ≤ 1000000) : Ev (fun k => neumeref18_Numbers.f k l l) true := by
  unfold neumeref18_Numbers.f
  exact Ev.pos rfl (numbers_l0 _ l 0 h rfl)

/-! ### Dots -/
/-- Down in steps of two, n times at most, as long as a place is taken. -/
def skl : Nat → List Int → Int → Int
  | 0, _, x => x
  | n + 1, T, x => if x ∈ T then skl n T (x - 2) else x
def sk0 (T : List Int) (p : Int) : Int := if Int.tmod p 2 = 0 then (if p + 1 ∈ T then p - 1 else p + 1) else p
/-- Where the dot of a place stands. -/
def sk (T : List Int) (p : Int) : Int := skl T.length T (sk0 T p)
def cnt (T : List Int) (x : Int) : Nat := (T.filter (fun t => decide (t ≤ x))).length
theorem cnt_lt {T : List Int} {x : Int} (h : x ∈ T) : cnt T (x - 2) < cnt T x := by
  induction T with
  | nil => exact absurd h List.not_mem_nil
  | cons y r ih =>
    have mono : cnt r (x - 2) ≤ cnt r x := by
      clear ih h
      induction r with
      | nil => exact Nat.le_refl _
      | cons z q ih =>
        unfold cnt at ih ⊢
        simp only [List.filter_cons]
        by_cases c : z ≤ x - 2
        · rw [if_pos (by simpa using c), if_pos (by simp; omega)]
          simp only [List.length_cons]; omega
        · rw [if_neg (by simpa using c)]
          split
          · simp only [List.length_cons]; omega
          · exact ih
    unfold cnt at ih mono ⊢
    simp only [List.filter_cons]
    by_cases c : y ≤ x - 2
    · rw [if_pos (by simpa using c), if_pos (by simp; omega)]
      simp only [List.length_cons]
      rcases List.mem_cons.1 h with rfl | h
      · omega
      · have := ih h; omega
    · rw [if_neg (by simpa using c)]
      by_cases c2 : y ≤ x
      · rw [if_pos (by simpa using c2)]
        simp only [List.length_cons]
        omega
      · rw [if_neg (by simpa using c2)]
        rcases List.mem_cons.1 h with rfl | h
        · omega
        · exact ih h
theorem cnt_le (T : List Int) (x : Int) : cnt T x ≤ T.length := List.length_filter_le _ _
theorem cnt_pos {T : List Int} {x : Int} (h : x ∈ T) : 0 < cnt T x := by have := cnt_lt h; omega
theorem skl_spec : ∀ (n : Nat) (T : List Int) (x : Int), cnt T x ≤ n → skl n T x ∉ T ∧ skl n T x ≤ x ∧ x - 2 * n ≤ skl n T x ∧ (x - skl n T x) % 2 = 0 := by
  intro n
  induction n with
  | zero =>
    intro T x h
    refine ⟨fun q => ?_, by simp [skl], by simp [skl], by simp [skl]⟩
    have := cnt_pos q
    simp only [skl] at this
    omega
  | succ n ih =>
    intro T x h
    unfold skl
    by_cases c : x ∈ T
    · rw [if_pos c]
      have hc := cnt_lt c
      obtain ⟨h1, h2, h3, h4⟩ := ih T (x - 2) (by omega)
      exact ⟨h1, by omega, by omega, by omega⟩
    · rw [if_neg c]
      exact ⟨c, Int.le_refl _, by omega, by omega⟩
theorem skl_ev : ∀ (n : Nat) (T : List Int) (x : Int), cnt T x ≤ n → -1000000 ≤ x - 2 * n → x ≤ 1000000 → Ev (fun k => seek_l k T x) (skl n T x) := by
  intro n
  induction n with
  | zero =>
    intro T x h h1 h2
    refine Ev.succ ?_
    simp only [seek_l]
    exact Ev.neg (fun q => by have := cnt_pos q; omega) (Ev.now _)
  | succ n ih =>
    intro T x h h1 h2
    refine Ev.succ ?_
    simp only [seek_l]
    unfold skl
    by_cases c : x ∈ T
    · rw [if_pos c, wrap_id (x := x - 2) (by omega) (by omega)]
      have hc := cnt_lt c
      exact Ev.pos c (ih T (x - 2) (by omega) (by omega) (by omega))
    · rw [if_neg c]
      exact Ev.neg c (Ev.now _)
theorem sk_ev (T : List Int) (p : Int) (hT : T.length ≤ 1000) (h1 : -1000 ≤ p) (h2 : p ≤ 1000) : Ev (fun k => seek_f k T p) (sk T p) := by
  unfold seek_f sk
  have e : seek_0 T p = sk0 T p := by
    unfold seek_0 sk0
    rw [wrap_id (x := p + 1) (by omega) (by omega), wrap_id (x := p - 1) (by omega) (by omega)]
  have hb : p - 1 ≤ sk0 T p ∧ sk0 T p ≤ p + 1 := by unfold sk0; split <;> (try split) <;> omega
  rw [e]
  exact skl_ev _ T _ (cnt_le _ _) (by omega) (by omega)
theorem sk_spec (T : List Int) (p : Int) : sk T p ∉ T ∧ sk T p ≤ p + 1 ∧ p - 1 - 2 * T.length ≤ sk T p ∧ sk T p % 2 = 1 := by
  obtain ⟨h1, h2, h3, h4⟩ := skl_spec T.length T (sk0 T p) (cnt_le _ _)
  have hb : p - 1 ≤ sk0 T p ∧ sk0 T p ≤ p + 1 := by unfold sk0; split <;> (try split) <;> omega
  have ho : sk0 T p % 2 = 1 := by
    have ht : Int.tmod p 2 = 0 ↔ p % 2 = 0 := by
      rw [← Int.dvd_iff_tmod_eq_zero, ← Int.dvd_iff_emod_eq_zero]
    unfold sk0
    split
    · rename_i c
      have := ht.1 c
      split <;> omega
    · rename_i c
      have : ¬ p % 2 = 0 := fun q => c (ht.2 q)
      omega
  unfold sk
  exact ⟨h1, by omega, by omega, by omega⟩
/-- All dots, for places from the highest on. -/
def dotsG : List Int → List Int → List (Int × Int) → List (Int × Int)
  | [], _, G => G
  | p :: r, T, G => dotsG r (sk T p :: T) ((p, sk T p) :: G)
theorem dotsG_ev : ∀ (ds T : List Int) (G : List (Int × Int)), T.length + ds.length ≤ 1000 → (∀ p ∈ ds, -1000 ≤ p ∧ p ≤ 1000) → Ev (fun k => dots_l k ds T G) (dotsG ds T G) := by
  intro ds
  induction ds with
  | nil => intro T G _ _; exact Ev.now _
  | cons p r ih =>
    intro T G h hb
    have hp := hb p (List.mem_cons_self ..)
    simp only [List.length_cons] at h
    simp only [dots_l, dotsG]
    exact Ev.bind (sk_ev T p (by omega) hp.1 hp.2) (ih _ _ (by simp only [List.length_cons]; omega) (fun q hq => hb q (List.mem_cons_of_mem _ hq)))
/-- What dots are like. -/
structure Ds (T : List Int) (G : List (Int × Int)) : Prop where
  t : T = G.map (·.2)
  ne : G.Pairwise (fun a b => a.1 ≠ b.1 ∧ a.2 ≠ b.2)
  ok : ∀ q ∈ G, q.2 % 2 = 1 ∧ q.2 ≤ q.1 + 1
theorem dotsG_spec : ∀ (ds T : List Int) (G : List (Int × Int)), Ds T G → ds.Pairwise (fun a b => a ≠ b) → (∀ p ∈ ds, ∀ q ∈ G, q.1 ≠ p) →
    (∃ T', Ds T' (dotsG ds T G)) ∧ (∀ q ∈ G, q ∈ dotsG ds T G) ∧ (∀ p ∈ ds, ∃ x, (p, x) ∈ dotsG ds T G) := by
  intro ds
  induction ds with
  | nil => intro T G h _ _; exact ⟨⟨T, h⟩, fun q hq => hq, fun p hp => absurd hp List.not_mem_nil⟩
  | cons p r ih =>
    intro T G h hp hn
    obtain ⟨p1, p2⟩ := List.pairwise_cons.1 hp
    have hs := sk_spec T p
    have hD : Ds (sk T p :: T) ((p, sk T p) :: G) := by
      refine ⟨by rw [List.map_cons, h.t], List.pairwise_cons.2 ⟨fun q hq => ⟨fun e => hn p (List.mem_cons_self ..) q hq e.symm, fun e => hs.1 ?_⟩, h.ne⟩, fun q hq => ?_⟩
      · rw [h.t] at *
        exact List.mem_map.2 ⟨q, hq, e.symm⟩
      · rcases List.mem_cons.1 hq with rfl | hq
        · exact ⟨hs.2.2.2, hs.2.1⟩
        · exact h.ok q hq
    obtain ⟨q1, q2, q3⟩ := ih (sk T p :: T) ((p, sk T p) :: G) hD p2 (fun a ha q hq => by
      rcases List.mem_cons.1 hq with rfl | hq
      · exact p1 a ha
      · exact hn a (List.mem_cons_of_mem _ ha) q hq)
    simp only [dotsG]
    refine ⟨q1, fun q hq => q2 q (List.mem_cons_of_mem _ hq), fun a ha => ?_⟩
    rcases List.mem_cons.1 ha with rfl | ha
    · exact ⟨_, q2 _ (List.mem_cons_self ..)⟩
    · exact q3 a ha
/-- The places from the highest on, each once. -/
def desc (l : List Int) : List Int := (dots_order l).reverse
theorem desc_falls (l : List Int) : (desc l).Pairwise (fun a b => b < a) := by
  unfold desc
  rw [List.pairwise_reverse]
  exact order_rises l
theorem order_has {s : List Int} (h : s.Pairwise (fun x y => x ≤ y)) {x : Int} (hx : x ∈ s) : x ∈ Go.Lib.compact s := by
  -- the first place where x stands is kept
  have key : ∀ n : Nat, n < s.length → s.toArray[n]! = x → ∃ m, m < s.length ∧ s.toArray[m]! = x ∧ Go.Lib.keeps s.toArray m = true := by
    intro n
    induction n with
    | zero => intro h1 h2; exact ⟨0, h1, h2, by simp [Go.Lib.keeps]⟩
    | succ n ih =>
      intro h1 h2
      by_cases c : s.toArray[n + 1]! = s.toArray[n]!
      · exact ih (by omega) (c.symm.trans h2)
      · exact ⟨n + 1, h1, h2, by unfold Go.Lib.keeps; rw [decide_eq_true]; exact .inr (by simpa using c)⟩
  obtain ⟨n, hn, rfl⟩ := List.getElem_of_mem hx
  obtain ⟨m, h1, h2, h3⟩ := key n hn (by rw [getElem!_pos s.toArray n (by simpa using hn)]; rfl)
  unfold Go.Lib.compact Go.Lib.compactUpTo
  exact List.mem_map.2 ⟨m, List.mem_filter.2 ⟨List.mem_range.2 h1, h3⟩, h2⟩
theorem desc_mem {l : List Int} {x : Int} : x ∈ desc l ↔ x ∈ l := by
  unfold desc
  rw [List.mem_reverse]
  constructor
  · exact order_mem
  · intro h
    unfold dots_order
    exact order_has (isort_rises l) ((isort_perm l).mem_iff.2 h)
theorem desc_length (l : List Int) : (desc l).length ≤ l.length := by
  unfold desc dots_order
  rw [List.length_reverse, ← (isort_perm l).length_eq]
  exact Go.Lib.compact_length_le _
/-- The dots of places. -/
def dg (l : List Int) : List (Int × Int) := dotsG (desc l) [] []
theorem dg_spec (l : List Int) : (∃ T, Ds T (dg l)) ∧ ∀ x ∈ l, ∃ y, (x, y) ∈ dg l := by
  have hne : (desc l).Pairwise (fun a b => a ≠ b) := (desc_falls l).imp (fun h => by omega)
  obtain ⟨h1, _, h3⟩ := dotsG_spec (desc l) [] [] ⟨rfl, List.Pairwise.nil, fun _ h => absurd h List.not_mem_nil⟩ hne (fun _ _ _ h => absurd h List.not_mem_nil)
  exact ⟨h1, fun x hx => h3 x (desc_mem.2 hx)⟩
theorem dots_ev (l : List Int) : Ev (fun k => dots_Dots.f k l) (if Ft l then (l.map (lk (dg l)), 0) else ([], 2)) := by
  unfold dots_Dots.f
  refine Ev.bind (fits_ev l) ?_
  by_cases h : Ft l
  · rw [decide_eq_true h, if_pos h]
    refine Ev.pos rfl (Ev.bind (dotsG_ev (desc l) [] [] (by have := desc_length l; have := h.1; simp; omega) (fun p hp => by have := h.2 p (desc_mem.1 hp); omega)) (Ev.now _))
  · rw [decide_eq_false h, if_neg h]
    exact Ev.neg (by decide) (Ev.now _)
theorem lk_pair {G : List (Int × Int)} {T : List Int} (h : Ds T G) {p x : Int} (hm : (p, x) ∈ G) : lk G p = x := lk_mem (h.ne.imp (fun q => q.1)) hm
end Go.Proofs.Ytochpedmjpidkaa.Rp
