/- Tokens of a text: what rows of tokens are written as; how many there may be. -/
import Derived.Test.YtmffjjncnbeldaaDoorTokFin
import Derived.Test.YtmffjjncnbeldaaDoorPx5
import Derived.Test.YtmffjjncnbeldaaDoorPx11
namespace Go.Proofs.YtmffjjncnbeldaaDoor.Rp
open Go.RowKit Go.Proofs.YtmffjjncnbeldaaDoor.P Go.Proofs.YtmffjjncnbeldaaDoorW.PrintWords Go.Proofs.YtmffjjncnbeldaaDoorW.PrintLast Go.Proofs.YtmffjjncnbeldaaDoorW.PrintMore Go.Lib
set_option linter.unusedVariables false
set_option linter.unusedSimpArgs false
/-- Tokens as they are written, one beside the other ('true': behind another one). -/
def joinL : Bool → List TK → List UInt8
  | _, [] => []
  | b, t :: r => (if b = true then [32] else []) ++ (rawT t ++ joinL true r)
def sumT : List TK → Nat
  | [] => 0
  | t :: r => (txT t).length + sumT r
theorem rawT_len (t : TK) : (rawT t).length ≤ (txT t).length + 2 := by unfold rawT; split <;> simp
theorem joinL_len : ∀ (L : List TK) (b : Bool), (joinL b L).length ≤ sumT L + 3 * L.length := by
  intro L
  induction L with
  | nil => intro b; exact Nat.zero_le _
  | cons t r ih =>
    intro b
    have := ih true
    have h2 := rawT_len t
    simp only [joinL, List.length_append, sumT, List.length_cons]
    cases b <;> simp <;> omega
theorem sumT_sub : ∀ (L : List TK) (n : Nat), sumT (L.take n) ≤ sumT L := by
  intro L
  induction L with
  | nil => intro n; rw [List.take_nil]; exact Nat.le_refl _
  | cons t r ih =>
    intro n
    cases n with
    | zero => exact Nat.zero_le _
    | succ n => rw [List.take_succ_cons]; simp only [sumT]; have := ih n; omega
theorem joinGo_eq : ∀ (L : List TK) (b : Bool) (acc : List UInt8), acc.length + sumT L + 3 * L.length ≤ 100000000 → joinGo L b acc = some (acc ++ joinL b L) := by
  intro L
  induction L with
  | nil => intro b acc _; simp [joinGo, joinL]
  | cons t r ih =>
    intro b acc h
    simp only [sumT, List.length_cons] at h
    have h2 := rawT_len t
    simp only [joinGo]
    rw [rawT_eq t (by omega), Option.bind_some, bs_size, if_pos (by omega), bs_dl]
    have hacc : (if b = true then acc ++ [32] else acc) = acc ++ (if b = true then [32] else []) := by cases b <;> simp
    rw [hacc, ih true _ (by simp only [List.length_append]; cases b <;> simp <;> omega)]
    simp only [joinL, List.append_assoc]
theorem join_ev (L : List TK) (hF : Fine L) (hs : sumT L + 3 * L.length ≤ 100000000) : Ev (fun k => token_Join.f k L) (bs (if checkB L 0 = true then joinL false (L.take (L.length - 1)) else [])) := by
  unfold token_Join.f
  refine Ev.bind (check_ev L hF) ?_
  cases c : checkB L 0 with
  | false => exact Ev.neg (by simp) (Ev.now _)
  | true =>
    refine Ev.pos rfl (Ev.const ?_)
    unfold joinV
    have hne : 1 ≤ L.length := by
      cases L with
      | nil => simp [checkB] at c
      | cons t r => simp
    have h1 := sumT_sub L (L.length - 1)
    rw [if_pos hne, joinGo_eq _ _ _ (by rw [List.length_take]; simp only [List.length_nil]; omega), Option.bind_some, if_pos rfl, List.nil_append]
    rfl
/-- Are there few? -/
theorem few_l0 : ∀ (m : Nat) (L : List TK) (i n : Nat), L.length ≤ 200 → i ≤ L.length → L.length - i = m → n ≤ 20000 →
    ∃ b, Ev (fun k => neumelaw08_few.l0 k L (n : Int) (i : Int)) b ∧ (b = true → n + sumT (L.drop i) ≤ 20000 ∧ ∀ t ∈ L.drop i, (txT t).length ≤ 3000) := by
  intro m
  induction m with
  | zero =>
    intro L i n hl hi hm hn
    refine ⟨true, Ev.succ ?_, fun _ => ?_⟩
    · simp only [neumelaw08_few.l0]
      exact Ev.neg (by omega) (Ev.now _)
    · rw [List.drop_eq_nil_of_le (by omega)]
      exact ⟨by simp only [sumT]; omega, by simp⟩
  | succ m ih =>
    intro L i n hl hi hm hn
    have hd := rd_drop (L := L) (i := i) (by omega)
    have hf : ((rd_T34 L (i : Int)).f1).size = (txT (rd_T34 L (i : Int))).length := by rw [f1_bs, bs_size]
    generalize ht : rd_T34 L (i : Int) = t at *
    by_cases c1 : 3000 < (txT t).length
    · refine ⟨false, Ev.succ ?_, fun q => Bool.noConfusion q⟩
      simp only [neumelaw08_few.l0]
      rw [ht]
      exact Ev.pos (by omega) (Ev.pos (by omega) (Ev.pos (by omega) (Ev.now _)))
    · have HW := Aside0.mk (show wrap64 ((n : Int) + (t.f1.size : Int)) = ((n + (txT t).length : Nat) : Int) by rw [wid (by omega) (by omega)]; omega)
      by_cases c2 : 20000 < n + (txT t).length
      · refine ⟨false, Ev.succ ?_, fun q => Bool.noConfusion q⟩
        simp only [neumelaw08_few.l0]
        rw [ht]
        refine Ev.pos (by omega) (Ev.pos (by omega) (Ev.neg (by omega) ?_))
        rw [HW.out]
        exact Ev.pos (by omega) (Ev.now _)
      · obtain ⟨b, hb, hbb⟩ := ih L (i + 1) (n + (txT t).length) hl (by omega) (by omega) (by omega)
        refine ⟨b, Ev.succ ?_, fun q => ?_⟩
        · simp only [neumelaw08_few.l0]
          rw [ht]
          refine Ev.pos (by omega) (Ev.pos (by omega) (Ev.neg (by omega) ?_))
          rw [HW.out, w_succ (by omega)]
          exact Ev.neg (by omega) hb
        · obtain ⟨q1, q2⟩ := hbb q
          rw [hd]
          refine ⟨by simp only [sumT]; omega, fun u hu => ?_⟩
          rcases List.mem_cons.1 hu with rfl | hu
          · omega
          · exact q2 u hu
theorem few_ev (L : List TK) (hb : ∀ t ∈ L, (Lit.int .i64 t.f0).wf = true ∧ t.f1.size ≤ 140737488351232 ∧ (Lit.int .i64 t.f2).wf = true) : ∃ b, Ev (fun k => neumelaw08_few.f k L) b ∧ (b = true → Fine L ∧ L.length ≤ 200 ∧ sumT L ≤ 20000 ∧ ∀ t ∈ L, (txT t).length ≤ 3000) := by
  unfold neumelaw08_few.f
  by_cases c : (L.length : Int) > 200
  · exact ⟨false, Ev.pos c (Ev.now _), fun q => Bool.noConfusion q⟩
  · obtain ⟨b, h1, h2⟩ := few_l0 L.length L 0 0 (by omega) (Nat.zero_le _) rfl (Nat.zero_le _)
    refine ⟨b, Ev.neg c h1, fun q => ?_⟩
    obtain ⟨q1, q2⟩ := h2 q
    rw [List.drop_zero] at q1 q2
    refine ⟨⟨by omega, fun t ht => ?_⟩, by omega, by omega, q2⟩
    have hw := (hb t ht).2.2
    have := q2 t ht
    have hb2 : -9223372036854775808 ≤ t.f2 ∧ t.f2 ≤ 9223372036854775807 := by
      simp [Lit.wf, IntKind.min, IntKind.max, IntKind.signed, IntKind.bits] at hw; omega
    exact ⟨by omega, hb2.1, hb2.2⟩
end Go.Proofs.YtmffjjncnbeldaaDoor.Rp
