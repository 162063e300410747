/- Voices beside one another: what the program's functions come to: plain values. -/
import Derived.Test.YtchmcljinkemaaaPx3
import Derived.Test.YtchmcljinkemaaaPx3
import Derived.Test.YtchmcljinkemaaaPx3
import Derived.Test.YtchmcljinkemaaaPx4
import Derived.Test.YtchmcljinkemaaaPx2
import Derived.Test.YtchmcljinkemaaaPx2
import Derived.Test.YtchmcljinkemaaaEv
namespace Go.Proofs.Ytchmcljinkemaaa.Rp
open Go.RowKit Go.Proofs.Ytchmcljinkemaaa.P Go.Proofs.YtchmcljinkemaaaW.PrintWords Go.Proofs.YtchmcljinkemaaaW.PrintLast
set_option linter.unusedVariables false
def byOf (right : Bool) (p g : S45) : Int := if right = true then wrap64 (p.f2 - g.f0) else wrap64 (p.f0 - g.f2)
def okBy (right : Bool) (b : Int) : Bool := (right == decide (b > 0)) && !(b == 0)
def newBy (right : Bool) (p : S45) (g : List S45) : List Int := (g.map (byOf right p)).filter (okBy right)
theorem newBy_cons (right : Bool) (p x : S45) (g : List S45) : newBy right p (x :: g) = if okBy right (byOf right p x) = true then byOf right p x :: newBy right p g else newBy right p g := by
  unfold newBy
  rw [List.map_cons, List.filter_cons]
theorem newBy_len (right : Bool) (p : S45) (g : List S45) : (newBy right p g).length ≤ g.length := by
  unfold newBy
  exact Nat.le_trans (List.length_filter_le _ _) (by simp)
theorem rdB {l : List S45} {i : Nat} (h : i < l.length) : rd_T45 l (i : Int) = l[i] := by
  unfold rd_T45
  rw [Int.toNat_natCast, List.getD_eq_getElem?_getD, List.getElem?_eq_getElem h]
  rfl
theorem wsucc {i : Nat} (h : i ≤ 1000000000000) : wrap64 ((i : Int) + 1) = ((i + 1 : Nat) : Int) := by unfold wrap64; omega
theorem cand_in (right : Bool) (g placed : List S45) (pl j : Int) (p : S45) (hg : g.length ≤ 100000) : ∀ (n i : Nat) (x7 : List Int) {r : List Int}, n = g.length - i → i ≤ g.length → x7.length + (g.length - i) ≤ 1000000000000 →
    Ev (fun k => voices_candidates.l0 k g right (x7 ++ newBy right p (g.drop i)) placed pl (wrap64 (j + 1))) r → Ev (fun k => voices_candidates.l1 k g right x7 placed pl j g (g.length : Int) (i : Int) p.f0 p.f1 p.f2 p.f3) r
  | 0, i, x7, r => by
    intro hn hi hb h
    obtain rfl : i = g.length := by omega
    refine Ev.succ ?_
    simp only [voices_candidates.l1]
    refine Ev.neg (by omega) ?_
    rw [List.drop_length, show newBy right p [] = [] from rfl, List.append_nil] at h
    exact h
  | n + 1, i, x7, r => by
    intro hn hi hb h
    have hi2 : i < g.length := by omega
    have ih := fun x7 => cand_in right g placed pl j p hg n (i + 1) x7 (r := r) (by omega) (by omega)
    rw [List.drop_eq_getElem_cons hi2, newBy_cons] at h
    refine Ev.succ ?_
    simp only [voices_candidates.l1, rdB hi2, wsucc (show i ≤ 1000000000000 by omega)]
    generalize g[i] = x at h ⊢
    refine Ev.pos (by omega) (Ev.pos (by omega) (Ev.pos (by omega) ?_))
    unfold okBy byOf at h
    cases right with
    | true =>
      simp only [if_pos] at h ⊢
      generalize wrap64 (p.f2 - x.f0) = b at h ⊢
      by_cases c1 : (true == decide (b > 0)) = true
      · refine Ev.pos c1 ?_
        by_cases c2 : b = 0
        · refine Ev.pos c2 (ih x7 (by omega) ?_)
          rw [if_neg (by simp [c2])] at h
          exact h
        · refine Ev.neg c2 (Ev.pos (by omega) (ih _ (by simp; omega) ?_))
          rw [if_pos (by first | (simp [c1, c2] at c1 ⊢; done) | (simp [c1, c2] at c1 ⊢; exact c1))] at h
          rw [List.append_assoc]
          exact h
      · refine Ev.neg c1 (ih x7 (by omega) ?_)
        rw [if_neg (by simp [c1])] at h
        exact h
    | false =>
      simp only [Bool.false_eq_true, if_neg, not_false_eq_true] at h ⊢
      generalize wrap64 (p.f0 - x.f2) = b at h ⊢
      by_cases c1 : (false == decide (b > 0)) = true
      · refine Ev.pos c1 ?_
        by_cases c2 : b = 0
        · refine Ev.pos c2 (ih x7 (by omega) ?_)
          rw [if_neg (by simp [c2])] at h
          exact h
        · refine Ev.neg c2 (Ev.pos (by omega) (ih _ (by simp; omega) ?_))
          rw [if_pos (by simp [c2] at c1 ⊢; exact c1)] at h
          rw [List.append_assoc]
          exact h
      · refine Ev.neg c1 (ih x7 (by omega) ?_)
        rw [if_neg (by simp [c1])] at h
        exact h
def candB (right : Bool) (placed g : List S45) : List Int := placed.flatMap (fun p => newBy right p g)
def ordB (right : Bool) (l : List Int) : List Int := Go.Lib.compact (if right = true then isort l else (isort l).reverse)
theorem candB_cons (right : Bool) (p : S45) (placed g : List S45) : candB right (p :: placed) g = newBy right p g ++ candB right placed g := by simp [candB]
theorem rd_eq (l : List Int) {i : Nat} (h : i < l.length) : rd l (i : Int) = l[i] := by
  unfold rd
  rw [Int.toNat_natCast, List.getD_eq_getElem?_getD, List.getElem?_eq_getElem h]; rfl
theorem wrap_id {x : Int} (h1 : -9223372036854775808 ≤ x) (h2 : x ≤ 9223372036854775807) : wrap64 x = x := by unfold wrap64; omega
def swp (l : List Int) (i : Nat) : List Int := (List.range l.length).map (fun t => if t < i ∨ l.length - 1 - t < i then l.getD (l.length - 1 - t) 0 else l.getD t 0)
theorem swp_length (l : List Int) (i : Nat) : (swp l i).length = l.length := by simp [swp]
theorem swp_at {l : List Int} {i t : Nat} (h : t < l.length) : (swp l i)[t]'(by rw [swp_length]; exact h) = if t < i ∨ l.length - 1 - t < i then l.getD (l.length - 1 - t) 0 else l.getD t 0 := by simp [swp]
theorem swp_zero (l : List Int) : swp l 0 = l := by
  apply List.ext_getElem (swp_length l 0)
  intro t h1 h2
  rw [swp_at h2, if_neg (by omega), List.getD_eq_getElem?_getD, List.getElem?_eq_getElem h2]; rfl
theorem swp_all {l : List Int} {i : Nat} (h : l.length ≤ 2 * i + 1) : swp l i = l.reverse := by
  apply List.ext_getElem (by rw [swp_length, List.length_reverse])
  intro t h1 h2
  have ht : t < l.length := by rw [swp_length] at h1; exact h1
  rw [swp_at ht, List.getElem_reverse]
  by_cases c : t < i ∨ l.length - 1 - t < i
  · rw [if_pos c, List.getD_eq_getElem?_getD, List.getElem?_eq_getElem (by omega)]; rfl
  · rw [if_neg c, List.getD_eq_getElem?_getD, List.getElem?_eq_getElem ht]
    have : l.length - 1 - t = t := by omega
    simp only [this]; rfl
theorem swp_step {l : List Int} {i : Nat} (h : 2 * i + 1 < l.length) : ((swp l i).set i (rd (swp l i) ((l.length - 1 - i : Nat) : Int))).set (l.length - 1 - i) (rd (swp l i) (i : Int)) = swp l (i + 1) := by
  apply List.ext_getElem (by rw [List.length_set, List.length_set, swp_length, swp_length])
  intro t h1 h2
  have ht : t < l.length := by rw [swp_length] at h2; exact h2
  have e1 : rd (swp l i) (i : Int) = l.getD i 0 := by rw [rd_eq _ (i := i) (by rw [swp_length]; omega), swp_at (t := i) (by omega), if_neg (by omega)]
  have e2 : rd (swp l i) ((l.length - 1 - i : Nat) : Int) = l.getD (l.length - 1 - i) 0 := by rw [rd_eq _ (i := l.length - 1 - i) (by rw [swp_length]; omega), swp_at (t := l.length - 1 - i) (by omega), if_neg (by omega)]
  simp only [e1, e2]
  rw [swp_at ht, List.getElem_set, List.getElem_set]
  by_cases c1 : l.length - 1 - i = t
  · subst c1
    rw [if_pos rfl, if_pos (by omega)]
    congr 1
    omega
  · rw [if_neg c1]
    by_cases c2 : i = t
    · subst c2
      rw [if_pos rfl, if_pos (by omega)]
    · rw [if_neg c2, swp_at ht]
      by_cases c3 : t < i ∨ l.length - 1 - t < i
      · rw [if_pos c3, if_pos (by omega)]
      · rw [if_neg c3, if_neg (by omega)]
theorem reverse_l0 (l : List Int) (hl : l.length ≤ 1000000000) : ∀ (d i : Nat), l.length - 2 * i = d → 2 * i ≤ l.length + 1 → Ev (fun k => slices_Reverse_int_int.l0 k (swp l i) i ((l.length : Int) - 1 - i)) l.reverse := by
  intro d
  induction d using Nat.strongRecOn with
  | _ d ih =>
    intro i hd hi
    refine Ev.succ ?_
    simp only [slices_Reverse_int_int.l0]
    by_cases c : 2 * i + 1 < l.length
    · have e1 : ((l.length : Int) - 1 - i) = ((l.length - 1 - i : Nat) : Int) := by omega
      have e2 : (((l.length : Int) - 1 - i)).toNat = l.length - 1 - i := by omega
      refine Ev.pos (by omega) (Ev.pos (by omega) (Ev.pos (by rw [swp_length]; omega) (Ev.pos (by omega) (Ev.pos (by rw [swp_length]; omega) ?_))))
      rw [e2, Int.toNat_natCast, e1, swp_step c, wrap_id (x := (i : Int) + 1) (by omega) (by omega), wrap_id (x := ((l.length - 1 - i : Nat) : Int) - 1) (by omega) (by omega)]
      have := ih (l.length - 2 * (i + 1)) (by omega) (i + 1) rfl (by omega)
      rw [show ((l.length : Int) - 1 - ((i + 1 : Nat) : Int)) = ((l.length - 1 - i : Nat) : Int) - 1 by omega, show ((i + 1 : Nat) : Int) = (i : Int) + 1 by omega] at this
      exact this
    · refine Ev.to (Ev.neg (by omega) (Ev.now _)) (swp_all (by omega))
theorem reverse_ev (l : List Int) (hl : l.length ≤ 1000000000) : Ev (fun k => slices_Reverse_int_int.f k l) l.reverse := by
  unfold slices_Reverse_int_int.f
  have := reverse_l0 l hl _ 0 rfl (by omega)
  rw [swp_zero, show ((l.length : Int) - 1 - ((0 : Nat) : Int)) = (l.length : Int) - 1 by omega] at this
  rw [wrap_id (x := (l.length : Int) - 1) (by omega) (by omega)]
  exact this
theorem cand_out (right : Bool) (g placed : List S45) (hg : g.length ≤ 100000) (hp : placed.length ≤ 100000) : ∀ (n j : Nat) (x7 : List Int), n = placed.length - j → j ≤ placed.length → 1 ≤ x7.length → x7.length + n * g.length ≤ 1000000000 →
    Ev (fun k => voices_candidates.l0 k g right x7 placed (placed.length : Int) (j : Int)) (ordB right (x7 ++ candB right (placed.drop j) g))
  | 0, j, x7 => by
    intro hn hj h1 hb
    obtain rfl : j = placed.length := by omega
    refine Ev.succ ?_
    simp only [voices_candidates.l0]
    refine Ev.neg (by omega) ?_
    rw [List.drop_length, show candB right [] g = [] from rfl, List.append_nil]
    have hs : slices_Sort_int_int.f x7 = some (isort x7) := by unfold slices_Sort_int_int.f; rw [if_pos (by omega)]
    have hl := isort_len x7
    refine Ev.bindc hs ?_
    cases right with
    | true =>
      refine Ev.pos rfl (Ev.const ?_)
      unfold slices_Compact_int_int.f ordB
      rw [if_pos (by omega)]
      rfl
    | false =>
      refine Ev.neg (by decide) (Ev.bind (reverse_ev _ (by omega)) (Ev.const ?_))
      unfold slices_Compact_int_int.f ordB
      rw [if_pos (by rw [List.length_reverse]; omega)]
      rfl
  | n + 1, j, x7 => by
    intro hn hj h1 hb
    have hj2 : j < placed.length := by omega
    rw [Nat.succ_mul] at hb
    refine Ev.succ ?_
    simp only [voices_candidates.l0, rdB hj2]
    rw [List.drop_eq_getElem_cons hj2, candB_cons, ← List.append_assoc]
    generalize placed[j] = p
    refine Ev.pos (by omega) (Ev.pos (by omega) (Ev.pos (by omega) ?_))
    refine cand_in right g placed _ _ p hg g.length 0 x7 (by omega) (Nat.zero_le _) (by omega) ?_
    rw [List.drop_zero, wsucc (by omega)]
    have := newBy_len right p g
    exact cand_out right g placed hg hp n (j + 1) _ (by omega) (by omega) (by simp; omega) (by simp; omega)
theorem cand_ev (right : Bool) (g placed : List S45) (hg : g.length ≤ 10000) (hp : placed.length ≤ 10000) : Ev (fun k => voices_candidates.f k placed g right) (ordB right (0 :: candB right placed g)) := by
  have h := cand_out right g placed (by omega) (by omega) placed.length 0 [0] (by omega) (Nat.zero_le _) (by simp) (by
    have := Nat.mul_le_mul hp hg
    simp; omega)
  rw [List.drop_zero] at h
  exact h
theorem rd_at {l : List Int} {i : Nat} (h : i < l.length) : rd l (i : Int) = l[i] := by
  unfold rd
  rw [Int.toNat_natCast, List.getD_eq_getElem?_getD, List.getElem?_eq_getElem h]
  rfl
def meetsB (placed g : List S45) (b : Int) : Bool := g.any fun x => placed.any fun y => meetB y (mvB x b)
def firstB (placed g : List S45) (l : List Int) : Option Int := l.find? fun b => !(meetsB placed g b)
def pushB (placed g : List S45) (right : Bool) : Int × Int :=
  match firstB placed g (ordB right (0 :: candB right placed g)) with
  | none => (0, 3)
  | some b => if g.all (fun x => nearB (mvB x b)) = true then (b, 0) else (0, 3)
theorem push_in (b : Int) (g : List S45) (hg : g.length ≤ 100000) : ∀ (n i : Nat), n = g.length - i → i ≤ g.length → Ev (fun k => voices_push.l1 k b g (g.length : Int) (i : Int)) (if (g.drop i).all (fun x => nearB (mvB x b)) = true then (b, 0) else (0, 3))
  | 0, i => by
    intro hn hi
    obtain rfl : i = g.length := by omega
    refine Ev.succ ?_
    simp only [voices_push.l1]
    refine Ev.neg (by omega) ?_
    rw [List.drop_length]
    exact Ev.now _
  | n + 1, i => by
    intro hn hi
    have hi2 : i < g.length := by omega
    refine Ev.succ ?_
    simp only [voices_push.l1, rdB hi2, wsucc (show i ≤ 1000000000000 by omega)]
    rw [List.drop_eq_getElem_cons hi2, List.all_cons]
    generalize g[i] = x
    refine Ev.pos (by omega) (Ev.pos (by omega) (Ev.pos (by omega) ?_))
    refine Ev.bindc (a := (wrap64 (x.f0 + b), x.f1, wrap64 (x.f2 + b), x.f3)) rfl ?_
    refine Ev.bindc (near_some (mvB x b)) ?_
    cases h : nearB (mvB x b) with
    | true => exact Ev.pos rfl (Ev.to (push_in b g hg n (i + 1) (by omega) (by omega)) (by simp))
    | false => exact Ev.neg (by decide) (Ev.to (Ev.now _) (by simp))
theorem push_out (placed g : List S45) (hp : placed.length ≤ 100000) (hg : g.length ≤ 100000) (l : List Int) (hl : l.length ≤ 1000000000) : ∀ (n i : Nat), n = l.length - i → i ≤ l.length → Ev (fun k => voices_push.l0 k placed g l (l.length : Int) (i : Int)) (match firstB placed g (l.drop i) with | none => (0, 3) | some b => if g.all (fun x => nearB (mvB x b)) = true then (b, 0) else (0, 3))
  | 0, i => by
    intro hn hi
    obtain rfl : i = l.length := by omega
    refine Ev.succ ?_
    simp only [voices_push.l0]
    refine Ev.neg (by omega) ?_
    rw [List.drop_length]
    exact Ev.now _
  | n + 1, i => by
    intro hn hi
    have hi2 : i < l.length := by omega
    refine Ev.succ ?_
    simp only [voices_push.l0, rd_at hi2, wsucc (show i ≤ 1000000000000 by omega)]
    rw [List.drop_eq_getElem_cons hi2]
    generalize l[i] = b
    refine Ev.pos (by omega) (Ev.pos (by omega) (Ev.pos (by omega) ?_))
    have hm : voices_meets.f placed g b = some (meetsB placed g b) := by unfold voices_meets.f; rw [if_pos ⟨by omega, by omega⟩]; rfl
    refine Ev.bindc hm ?_
    unfold firstB
    rw [List.find?_cons]
    cases h : meetsB placed g b with
    | true => exact Ev.pos rfl (push_out placed g hp hg l hl n (i + 1) (by omega) (by omega))
    | false => exact Ev.neg (by decide) (push_in b g hg g.length 0 (by omega) (Nat.zero_le _))
theorem candB_len (right : Bool) (g : List S45) : ∀ placed : List S45, (candB right placed g).length ≤ placed.length * g.length
  | [] => by simp [candB]
  | p :: r => by
    have h1 := candB_len right g r
    have h2 := newBy_len right p g
    rw [candB_cons, List.length_append, List.length_cons, Nat.succ_mul]
    omega
theorem ordB_len (right : Bool) (l : List Int) : (ordB right l).length ≤ l.length := by
  unfold ordB
  refine Nat.le_trans (Go.Lib.compact_length_le _) ?_
  have := isort_len l
  split
  · omega
  · rw [List.length_reverse]; omega
theorem push_ev (right : Bool) (g placed : List S45) (hg : g.length ≤ 10000) (hp : placed.length ≤ 10000) : Ev (fun k => voices_push.f k placed g right) (pushB placed g right) := by
  refine Ev.bind (cand_ev right g placed hg hp) ?_
  have h1 := ordB_len right (0 :: candB right placed g)
  have h2 := candB_len right g placed
  have h3 := Nat.mul_le_mul hp hg
  rw [List.length_cons] at h1
  have h := push_out placed g (by omega) (by omega) (ordB right (0 :: candB right placed g)) (by omega) _ 0 rfl (Nat.zero_le _)
  rw [List.drop_zero] at h
  exact h
def mvL (b : Int) (g : List S45) : List S45 := g.map fun x => mvB x b
theorem row_in (right : Bool) (b : Int) (gs : List (List S45)) (gl j : Int) (g : List S45) (hg : g.length ≤ 100000) : ∀ (n i : Nat) (there : List S45) (out : List Int) {r : List Int × Int}, n = g.length - i → i ≤ g.length → there.length + (g.length - i) ≤ 1000000 →
    Ev (fun k => voices_Row.l0 k right (there ++ mvL b (g.drop i)) out gs gl (wrap64 (j + 1))) r → Ev (fun k => voices_Row.l1 k right there out b gs gl j g (g.length : Int) (i : Int)) r
  | 0, i, there, out, r => by
    intro hn hi hb h
    obtain rfl : i = g.length := by omega
    refine Ev.succ ?_
    simp only [voices_Row.l1]
    refine Ev.neg (by omega) ?_
    rw [List.drop_length, show mvL b [] = [] from rfl, List.append_nil] at h
    exact h
  | n + 1, i, there, out, r => by
    intro hn hi hb h
    have hi2 : i < g.length := by omega
    have ih := fun there => row_in right b gs gl j g hg n (i + 1) there out (r := r) (by omega) (by omega)
    rw [List.drop_eq_getElem_cons hi2, show ∀ x l, mvL b (x :: l) = mvB x b :: mvL b l from fun _ _ => rfl] at h
    refine Ev.succ ?_
    simp only [voices_Row.l1, rdB hi2, wsucc (show i ≤ 1000000000000 by omega)]
    generalize g[i] = x at h ⊢
    refine Ev.pos (by omega) (Ev.pos (by omega) (Ev.pos (by omega) ?_))
    refine Ev.bindc (a := (wrap64 (x.f0 + b), x.f1, wrap64 (x.f2 + b), x.f3)) rfl ?_
    refine Ev.pos (by omega) (ih _ (by simp; omega) ?_)
    rw [List.append_assoc]
    exact h
def rowB (right : Bool) : List (List S45) → List S45 → List Int → List Int × Int
  | [], _, out => (out, 0)
  | g :: gs, there, out => if (pushB there g right).2 = 0 then rowB right gs (there ++ mvL (pushB there g right).1 g) (out ++ [(pushB there g right).1]) else ([], (pushB there g right).2)
theorem rdL {gs : List (List S45)} {j : Nat} (h : j < gs.length) : rd_L2 gs (j : Int) = gs[j] := by
  unfold rd_L2
  rw [Int.toNat_natCast, List.getD_eq_getElem?_getD, List.getElem?_eq_getElem h]
  rfl
theorem row_out (right : Bool) (gs : List (List S45)) (hgs : gs.length ≤ 100000) : ∀ (n j : Nat) (there : List S45) (out : List Int), n = gs.length - j → j ≤ gs.length → there.length + ((gs.drop j).map List.length).sum ≤ 10000 → out.length + n ≤ 1000000 →
    Ev (fun k => voices_Row.l0 k right there out gs (gs.length : Int) (j : Int)) (rowB right (gs.drop j) there out)
  | 0, j, there, out => by
    intro hn hj hs ho
    obtain rfl : j = gs.length := by omega
    refine Ev.succ ?_
    simp only [voices_Row.l0]
    refine Ev.neg (by omega) ?_
    rw [List.drop_length]
    exact Ev.now _
  | n + 1, j, there, out => by
    intro hn hj hs ho
    have hj2 : j < gs.length := by omega
    refine Ev.succ ?_
    simp only [voices_Row.l0, rdL hj2]
    rw [List.drop_eq_getElem_cons hj2, List.map_cons, List.sum_cons] at hs
    rw [List.drop_eq_getElem_cons hj2]
    generalize gs[j] = g at hs ⊢
    refine Ev.pos (by omega) (Ev.pos (by omega) (Ev.pos (by omega) ?_))
    refine Ev.bind (push_ev right g there (by omega) (by omega)) ?_
    unfold rowB
    by_cases c : (pushB there g right).2 = 0
    · rw [if_pos c]
      refine Ev.pos c (Ev.pos (by omega) (row_in right _ gs _ _ g (by omega) g.length 0 there _ (by omega) (Nat.zero_le _) (by omega) ?_))
      rw [List.drop_zero, wsucc (by omega)]
      exact row_out right gs hgs n (j + 1) _ _ (by omega) (by omega) (by rw [List.length_append]; simp only [mvL, List.length_map]; omega) (by simp; omega)
    · rw [if_neg c]
      exact Ev.neg c (Ev.now _)
def fitB : Int → List (List S45) → Bool
  | left, [] => decide (left ≥ 0)
  | left, g :: gs => if left - (g.length : Int) < 0 then false else if g.all nearB = true then fitB (left - (g.length : Int)) gs else false
theorem fit_in (gs : List (List S45)) (hgs : gs.length ≤ 100000) (hall : ∀ g ∈ gs, g.length ≤ 100000) : ∀ (n j : Nat) (left : Int), n = gs.length - j → j ≤ gs.length → 0 ≤ left → left ≤ 1000000 →
    Ev (fun k => voices_fits.l0 k left gs (gs.length : Int) (j : Int)) (fitB left (gs.drop j))
  | 0, j, left => by
    intro hn hj h0 h1
    obtain rfl : j = gs.length := by omega
    refine Ev.succ ?_
    simp only [voices_fits.l0]
    refine Ev.neg (by omega) ?_
    rw [List.drop_length]
    exact Ev.now _
  | n + 1, j, left => by
    intro hn hj h0 h1
    have hj2 : j < gs.length := by omega
    have hg := hall gs[j] (List.getElem_mem hj2)
    refine Ev.succ ?_
    simp only [voices_fits.l0, rdL hj2, wsucc (show j ≤ 1000000000000 by omega)]
    rw [List.drop_eq_getElem_cons hj2]
    generalize gs[j] = g at hg ⊢
    have hw : wrap64 (left - (g.length : Int)) = left - (g.length : Int) := by unfold wrap64; omega
    rw [hw]
    refine Ev.pos (by omega) (Ev.pos (by omega) (Ev.pos (by omega) ?_))
    unfold fitB
    by_cases c : left - (g.length : Int) < 0
    · rw [if_pos c]
      refine Ev.pos c (Ev.to (Ev.now _) (decide_eq_false (by omega)))
    · rw [if_neg c]
      refine Ev.neg c ?_
      have hA : voices_all.f g = some (g.all nearB) := by unfold voices_all.f; rw [if_pos hg]
      refine Ev.bindc hA ?_
      by_cases c2 : g.all nearB = true
      · rw [if_pos c2]
        exact Ev.pos c2 (fit_in gs hgs hall n (j + 1) _ (by omega) (by omega) (by omega) (by omega))
      · rw [if_neg c2]
        exact Ev.neg c2 (Ev.now _)
theorem fitB_sum : ∀ (gs : List (List S45)) (left : Int), fitB left gs = true → (((gs.map List.length).sum : Nat) : Int) ≤ left
  | [], left => by
    intro h
    have := of_decide_eq_true h
    simpa using this
  | g :: gs, left => by
    intro h
    unfold fitB at h
    split at h
    · cases h
    · split at h
      · have := fitB_sum gs _ h
        rw [List.map_cons, List.sum_cons]
        omega
      · cases h
def RowB (right : Bool) (placed : List S45) (gs : List (List S45)) : List Int × Int :=
  if (gs.length : Int) > 200 then ([], 2) else if (placed.length : Int) > 2000 then ([], 2) else if placed.all nearB = true then (if fitB (2000 - (placed.length : Int)) gs = true then rowB right gs placed [] else ([], 2)) else ([], 2)
theorem Row_ev (right : Bool) (placed : List S45) (gs : List (List S45)) (hp : placed.length ≤ 100000) (hall : ∀ g ∈ gs, g.length ≤ 100000) : Ev (fun k => voices_Row.f k placed gs right) (RowB right placed gs) := by
  have hA : voices_all.f placed = some (placed.all nearB) := by unfold voices_all.f; rw [if_pos hp]
  unfold RowB
  by_cases c1 : (gs.length : Int) > 200
  · rw [if_pos c1]
    refine Ev.bind (g := fun k => voices_fits.f k placed gs) (Ev.pos c1 (Ev.now false)) (Ev.neg (by decide) (Ev.now _))
  rw [if_neg c1]
  by_cases c2 : (placed.length : Int) > 2000
  · rw [if_pos c2]
    refine Ev.bind (g := fun k => voices_fits.f k placed gs) (Ev.neg c1 (Ev.pos c2 (Ev.now false))) (Ev.neg (by decide) (Ev.now _))
  rw [if_neg c2]
  have hw : wrap64 (2000 - (placed.length : Int)) = 2000 - (placed.length : Int) := by unfold wrap64; omega
  by_cases c3 : placed.all nearB = true
  · rw [if_pos c3]
    have hf : Ev (fun k => voices_fits.f k placed gs) (fitB (2000 - (placed.length : Int)) gs) := by
      refine Ev.neg c1 (Ev.neg c2 (Ev.bindc hA (Ev.pos c3 ?_)))
      rw [hw]
      have := fit_in gs (by omega) hall _ 0 (2000 - (placed.length : Int)) rfl (Nat.zero_le _) (by omega) (by omega)
      rw [List.drop_zero] at this
      exact this
    refine Ev.bind hf ?_
    by_cases c4 : fitB (2000 - (placed.length : Int)) gs = true
    · rw [if_pos c4]
      have hC : api_Box.f placed = some placed := by unfold api_Box.f; rw [if_pos hp]
      refine Ev.pos c4 (Ev.bindc hC ?_)
      have hs := fitB_sum gs _ c4
      have := row_out right gs (by omega) _ 0 placed [] rfl (Nat.zero_le _) (by rw [List.drop_zero]; omega) (by simp; omega)
      rw [List.drop_zero] at this
      exact this
    · rw [if_neg c4]
      exact Ev.neg c4 (Ev.now _)
  · rw [if_neg c3]
    refine Ev.bind (g := fun k => voices_fits.f k placed gs) (Ev.neg c1 (Ev.neg c2 (Ev.bindc hA (Ev.neg c3 (Ev.now false))))) (Ev.neg (by decide) (Ev.now _))
theorem Shifts_ev (gs : List (List S45)) (hall : ∀ g ∈ gs, g.length ≤ 100000) : Ev (fun k => voices_Shifts.f k gs) (RowB true [] gs) :=
  Ev.bind (Row_ev true [] gs (by simp) hall) (Ev.now _)
def PushB (right : Bool) (placed g : List S45) : Int × Int :=
  if (placed.length : Int) > 2000 then (0, 2) else if (g.length : Int) > 2000 - (placed.length : Int) then (0, 2) else if placed.all nearB = true then (if g.all nearB = true then pushB placed g right else (0, 2)) else (0, 2)
theorem Push_ev (right : Bool) (placed g : List S45) (hp : placed.length ≤ 100000) (hg : g.length ≤ 100000) : Ev (fun k => voices_Push.f k placed g right) (PushB right placed g) := by
  have hA : voices_all.f placed = some (placed.all nearB) := by unfold voices_all.f; rw [if_pos hp]
  have hB : voices_all.f g = some (g.all nearB) := by unfold voices_all.f; rw [if_pos hg]
  have hw : wrap64 (2000 - (placed.length : Int)) = 2000 - (placed.length : Int) := by unfold wrap64; omega
  unfold PushB voices_Push.f
  rw [hw]
  refine Ev.ite (fun _ => Ev.now _) (fun c1 => Ev.ite (fun _ => Ev.now _) (fun c2 => ?_))
  refine Ev.bindc hA (Ev.ite (fun _ => Ev.bindc hB (Ev.ite (fun _ => ?_) (fun _ => Ev.now _))) (fun _ => Ev.now _))
  exact Ev.bind (push_ev right g placed (by omega) (by omega)) (Ev.now _)
end Go.Proofs.Ytchmcljinkemaaa.Rp
