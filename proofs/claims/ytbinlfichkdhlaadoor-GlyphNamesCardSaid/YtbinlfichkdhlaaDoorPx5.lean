-- Written by a program of this session (wip/tools/xprint.py, over the kit's print): Lean checks it.
import Derived.Test.YtbinlfichkdhlaaDoorPx0
import Derived.Test.YtbinlfichkdhlaaDoorPx3
import Derived.Test.YtbinlfichkdhlaaDoorPx4
namespace Go.Proofs.YtbinlfichkdhlaaDoor.P
open Go.RowKit Go.Proofs.YtbinlfichkdhlaaDoorW.PrintWords Go.Proofs.YtbinlfichkdhlaaDoorW.PrintLast Go.Proofs.YtbinlfichkdhlaaDoorW.PrintMore
attribute [local go_sem] max2_int min2_int max_two min_two max_three min_three max_four min_four   -- for this text's walks alone
set_option linter.unusedVariables false
set_option linter.unusedSimpArgs false

/-! ### fix_ratio: function 34 -/
theorem u64w (x : Int) : IntKind.u64.wrap x = x % 18446744073709551616 := by simp [IntKind.wrap, IntKind.bits, IntKind.signed]
theorem u64i {x : Int} (h0 : 0 ≤ x) (h1 : x < 18446744073709551616) : IntKind.u64.wrap x = x := by rw [u64w]; omega
theorem evS {α : Type} {g : Nat → Option α} {r : α} (h : Ev (fun k => g (k + 1)) r) : Ev g r := Ev.step (fun _ => rfl) h
theorem evP {α : Type} {c : Prop} [Decidable c] {f g : Nat → Option α} {r : α} (hc : c) (h : Ev f r) : Ev (fun k => if c then f k else g k) r := by simpa only [if_pos hc] using h
theorem evN {α : Type} {c : Prop} [Decidable c] {f g : Nat → Option α} {r : α} (hc : ¬ c) (h : Ev g r) : Ev (fun k => if c then f k else g k) r := by simpa only [if_neg hc] using h
/-- A step of a long division: two digits of v, the digits ahead, one digit more, the digit that is sought. -/
structure Dv (v v1 v0 U u1 q : Int) : Prop where
 hv : v = v1 * 4294967296 + v0
 h1 : 2147483648 ≤ v1
 h1' : v1 < 4294967296
 h0 : 0 ≤ v0
 h0' : v0 < 4294967296
 u : 0 ≤ u1
 u' : u1 < 4294967296
 U0 : 0 ≤ U
 U1 : U < v
 lo : q * v ≤ U * 4294967296 + u1
 hi : U * 4294967296 + u1 < (q + 1) * v
 q0 : 0 ≤ q
 q1 : q < 4294967296
theorem Dv.mul {v v1 v0 U u1 q : Int} (h : Dv v v1 v0 U u1 q) {qh rh : Int} (e : qh * v1 + rh = U) : qh * v = U * 4294967296 - rh * 4294967296 + qh * v0 := by
 rw [h.hv, Int.mul_add, ← Int.mul_assoc]
 have : qh * v1 = U - rh := by omega
 rw [this]
 omega
theorem Dv.up {v v1 v0 U u1 q : Int} (h : Dv v v1 v0 U u1 q) {qh : Int} (hh : qh * v ≤ U * 4294967296 + u1) : qh ≤ q := by
 apply Int.not_lt.1
 intro c
 have := Int.mul_le_mul_of_nonneg_right (show q + 1 ≤ qh by omega) (show 0 ≤ v by have := h.U0; have := h.U1; omega)
 have := h.hi
 omega
theorem Dv.down {v v1 v0 U u1 q : Int} (h : Dv v v1 v0 U u1 q) {qh : Int} (hh : U * 4294967296 + u1 < qh * v) : q < qh := by
 apply Int.not_le.1
 intro c
 have := Int.mul_le_mul_of_nonneg_right c (show 0 ≤ v by have := h.U0; have := h.U1; omega)
 have := h.lo
 omega
theorem Dv.less {v v1 v0 U u1 q : Int} (h : Dv v v1 v0 U u1 q) {qh rh : Int} (e : qh * v1 + rh = U) (hq : qh ≤ 4294967297) (hr : 4294967296 ≤ rh + v1) : qh - 1 ≤ q := by
 have e2 : (qh - 1) * v1 + (rh + v1) = U := by rw [Int.sub_mul, Int.one_mul]; omega
 have m := h.mul e2
 have h0 := h.h0
 have h0' := h.h0'
 have b : (qh - 1) * v0 ≤ 4294967296 * v0 := Int.mul_le_mul_of_nonneg_right (by omega) h0
 refine h.up ?_
 have := h.u
 omega
theorem Dv.prod {v v1 v0 U u1 q : Int} (h : Dv v v1 v0 U u1 q) {qh : Int} (h0 : 0 ≤ qh) (h1 : qh < 4294967296) : 0 ≤ qh * v0 ∧ qh * v0 < 18446744073709551616 := by
 have a := Int.mul_nonneg h0 h.h0
 have b : qh * v0 ≤ 4294967295 * v0 := Int.mul_le_mul_of_nonneg_right (by omega) h.h0
 have := h.h0'
 omega
theorem dv_l0 {v v1 v0 U u1 q s u0 : Int} (h : Dv v v1 v0 U u1 q) {res : Int × Int} (hj : Ev (fun k => bits_Div64.j2 k v s v1 v0 U u1 u0 q) res) : ∀ (d : Nat) (qh rh : Int), qh * v1 + rh = U → 0 ≤ rh → rh < 4294967296 → q ≤ qh → qh ≤ 4294967297 → 4294967296 ≤ rh + d * 2147483648 → Ev (fun k => bits_Div64.l0 k v s v1 v0 U u1 u0 qh rh) res
 | 0, qh, rh, e, r0, r1, a, b, c => by omega
 | d + 1, qh, rh, e, r0, r1, a, b, c => by
  have h1 := h.h1
  have h1' := h.h1'
  have q0 := h.q0
  have q1 := h.q1
  have tr : q < qh → Ev (fun k => bits_Div64.j1 k v s v1 v0 U u1 u0 qh rh true) res := by
   intro hq
   refine evS ?_
   simp only [bits_Div64.j1]
   rw [u64i (x := rh + v1) (by omega) (by omega), u64i (x := qh - 1) (by omega) (by omega)]
   refine evP (by decide) ?_
   by_cases c2 : rh + v1 ≥ 4294967296
   ·refine evP c2 ?_
    have := h.less e b c2
    rw [show qh - 1 = q by omega]
    exact hj
   ·refine evN c2 ?_
    exact dv_l0 h hj d (qh - 1) (rh + v1) (by rw [Int.sub_mul, Int.one_mul]; omega) (by omega) (by omega) (by omega) (by omega) (by omega)
  refine evS ?_
  simp only [bits_Div64.l0]
  by_cases c1 : qh ≥ 4294967296
  ·exact evP c1 (tr (by omega))
  ·refine evN c1 ?_
   obtain ⟨p0, p1⟩ := h.prod (qh := qh) (by omega) (by omega)
   have u := h.u
   have u' := h.u'
   rw [u64i p0 p1, u64i (x := 4294967296 * rh) (by omega) (by omega), u64i (x := 4294967296 * rh + u1) (by omega) (by omega)]
   have m := h.mul e
   by_cases c2 : qh * v0 > 4294967296 * rh + u1
   ·rw [dt_ c2]
    exact tr (h.down (by omega))
   ·rw [df_ c2]
    have := h.up (qh := qh) (by omega)
    refine evS ?_
    simp only [bits_Div64.j1]
    refine evN (by decide) ?_
    rw [show qh = q by omega]
    exact hj
theorem dv_l1 {v v1 v0 U u0 q s q1 : Int} (h : Dv v v1 v0 U u0 q) (hs : 0 ≤ s) (hq1 : 0 ≤ q1) (hq1' : q1 < 4294967296) (hv : v < 18446744073709551616) : ∀ (d : Nat) (qh rh : Int), qh * v1 + rh = U → 0 ≤ rh → rh < 4294967296 → q ≤ qh → qh ≤ 4294967297 → 4294967296 ≤ rh + d * 2147483648 → Ev (fun k => bits_Div64.l1 k v s v1 v0 u0 q1 rh U qh) (q1 * 4294967296 + q, shr .u64 (U * 4294967296 + u0 - q * v) s)
 | 0, qh, rh, e, r0, r1, a, b, c => by omega
 | d + 1, qh, rh, e, r0, r1, a, b, c => by
  have h1 := h.h1
  have h1' := h.h1'
  have q0 := h.q0
  have q1' := h.q1
  have u := h.u
  have u' := h.u'
  have lo := h.lo
  have hi := h.hi
  rw [Int.add_mul, Int.one_mul] at hi
  have fin : IntKind.u64.wrap (IntKind.u64.wrap (IntKind.u64.wrap (U * 4294967296) + u0) - IntKind.u64.wrap (q * v)) = U * 4294967296 + u0 - q * v := by
   simp only [u64w]
   omega
  have fin2 : IntKind.u64.wrap (IntKind.u64.wrap (q1 * 4294967296) + q) = q1 * 4294967296 + q := by
   simp only [u64w]
   omega
  have tr : q < qh → Ev (fun k => bits_Div64.j4 k v s v1 v0 u0 q1 rh U qh true) (q1 * 4294967296 + q, shr .u64 (U * 4294967296 + u0 - q * v) s) := by
   intro hq
   refine evS ?_
   simp only [bits_Div64.j4]
   rw [u64i (x := rh + v1) (by omega) (by omega), u64i (x := qh - 1) (by omega) (by omega)]
   refine evP (by decide) ?_
   by_cases c2 : rh + v1 ≥ 4294967296
   ·refine evP c2 (evP hs ?_)
    have := h.less e b c2
    rw [show qh - 1 = q by omega, fin, fin2]
    exact Ev.now _
   ·refine evN c2 ?_
    exact dv_l1 h hs hq1 hq1' hv d (qh - 1) (rh + v1) (by rw [Int.sub_mul, Int.one_mul]; omega) (by omega) (by omega) (by omega) (by omega) (by omega)
  refine evS ?_
  simp only [bits_Div64.l1]
  by_cases c1 : qh ≥ 4294967296
  ·exact evP c1 (tr (by omega))
  ·refine evN c1 ?_
   obtain ⟨p0, p1⟩ := h.prod (qh := qh) (by omega) (by omega)
   rw [u64i p0 p1, u64i (x := 4294967296 * rh) (by omega) (by omega), u64i (x := 4294967296 * rh + u0) (by omega) (by omega)]
   have m := h.mul e
   by_cases c2 : qh * v0 > 4294967296 * rh + u0
   ·rw [dt_ c2]
    exact tr (h.down (by omega))
   ·rw [df_ c2]
    have := h.up (qh := qh) (by omega)
    refine evS ?_
    simp only [bits_Div64.j4]
    refine evN (by decide) (evP hs ?_)
    rw [show qh = q by omega, fin, fin2]
    exact Ev.now _
/-- What a step begins with. -/
theorem dv_first {v v1 v0 U u1 : Int} (hv : v = v1 * 4294967296 + v0) (h1 : 2147483648 ≤ v1) (h1' : v1 < 4294967296) (h0 : 0 ≤ v0) (h0' : v0 < 4294967296) (u : 0 ≤ u1) (u' : u1 < 4294967296) (U0 : 0 ≤ U) (U1 : U < v) :
  Dv v v1 v0 U u1 ((U * 4294967296 + u1) / v) := by
 have hp : 0 < v := by omega
 have a := Int.ediv_mul_le (U * 4294967296 + u1) (show v ≠ 0 by omega)
 have b := Int.lt_ediv_add_one_mul_self (U * 4294967296 + u1) hp
 refine ⟨hv, h1, h1', h0, h0', u, u', U0, U1, a, b, Int.ediv_nonneg (by omega) (by omega), ?_⟩
 refine Int.ediv_lt_of_lt_mul hp ?_
 have : U * 4294967296 + u1 < (U + 1) * 4294967296 := by omega
 have : (U + 1) * 4294967296 ≤ v * 4294967296 := by omega
 omega
theorem dv_start {v v1 v0 U u1 q : Int} (h : Dv v v1 v0 U u1 q) : (U / v1) * v1 + (U - (U / v1) * v1) = U ∧ 0 ≤ U - (U / v1) * v1 ∧ U - (U / v1) * v1 < 4294967296 ∧ q ≤ U / v1 ∧ U / v1 ≤ 4294967297 ∧ 0 ≤ U / v1 := by
 have h1 := h.h1
 have h1' := h.h1'
 have a := Int.ediv_mul_le U (show v1 ≠ 0 by omega)
 have b := Int.lt_ediv_add_one_mul_self U (show 0 < v1 by omega)
 rw [Int.add_mul, Int.one_mul] at b
 have u := h.u
 have u' := h.u'
 have hv := h.hv
 have h0' := h.h0'
 have U1 := h.U1
 refine ⟨by omega, by omega, by omega, ?_, ?_, Int.ediv_nonneg h.U0 (by omega)⟩
 ·refine Int.le_ediv_of_mul_le (by omega) ?_
  have lo := h.lo
  have e : q * v = q * v1 * 4294967296 + q * v0 := by rw [hv, Int.mul_add, ← Int.mul_assoc]
  have := Int.mul_nonneg h.q0 h.h0
  omega
 ·apply Int.not_lt.1
  intro c
  have := Int.mul_le_mul_of_nonneg_right (show 4294967298 ≤ U / v1 by omega) (show 0 ≤ v1 by omega)
  omega
/-- Div64 divides. -/
theorem fx_div (hi lo y : Int) (h0 : 0 ≤ hi) (h1 : hi < y) (h2 : y < 18446744073709551616) (h3 : 0 ≤ lo) (h4 : lo < 18446744073709551616) :
  ∃ k, bits_Div64.f k hi lo y = some ((hi * 18446744073709551616 + lo) / y, (hi * 18446744073709551616 + lo) % y) := by
 suffices h : Ev (fun k => bits_Div64.f k hi lo y) ((hi * 18446744073709551616 + lo) / y, (hi * 18446744073709551616 + lo) % y) from h.rounds
 unfold bits_Div64.f
 refine evN (by omega) (evN (by omega) ?_)
 by_cases c : hi = 0
 ·refine evP c ?_
  subst c
  have e1 : Int.tdiv lo y = lo / y := Int.tdiv_eq_ediv_of_nonneg h3
  have e2 : Int.tmod lo y = lo % y := Int.tmod_eq_emod_of_nonneg h3
  have b0 : 0 ≤ lo / y := Int.ediv_nonneg h3 (by omega)
  have b1 : lo / y ≤ lo := Int.ediv_le_self y h3
  rw [e1, e2, u64i b0 (by omega)]
  simp only [Int.zero_mul, Int.zero_add]
  exact Ev.now _
 refine evN c ?_
 obtain ⟨L, hL⟩ : ∃ L, Lib.bitLen y.toNat = L := ⟨_, rfl⟩
 have hz : bits_LeadingZeros64.f y = some (64 - (L : Int)) := by
  unfold bits_LeadingZeros64.f
  rw [if_pos (by omega), if_pos (by omega), hL]
 obtain ⟨l1, l2, l3⟩ : 1 ≤ L ∧ 2 ^ (L - 1) ≤ y.toNat ∧ y.toNat < 2 ^ L := by
  have := Lib.bitLenAux_bounds 64 y.toNat (by omega) (by omega)
  unfold Lib.bitLen at hL
  rw [hL] at this
  exact this
 have l4 : L ≤ 64 := by rw [← hL]; exact Lib.bitLen_le _ _ (by omega) (by omega)
 obtain ⟨S, hS⟩ : ∃ S : Nat, S + L = 64 := ⟨64 - L, by omega⟩
 obtain ⟨P, hP⟩ : ∃ P : Int, P = 2 ^ S := ⟨_, rfl⟩
 obtain ⟨Q, hQ⟩ : ∃ Q : Int, Q = 2 ^ L := ⟨_, rfl⟩
 have hPQ : P * Q = 18446744073709551616 := by rw [hP, hQ, ← Int.pow_add, hS]; decide
 have P1 : 1 ≤ P := by rw [hP]; exact Int.pow_pos (by decide)
 have Q1 : 1 ≤ Q := by rw [hQ]; exact Int.pow_pos (by decide)
 have yQ : y < Q := by
  rw [hQ]
  have : ((y.toNat : Nat) : Int) < ((2 ^ L : Nat) : Int) := by exact_mod_cast l3
  rw [Int.toNat_of_nonneg (by omega)] at this
  simpa using this
 have yQ2 : Q ≤ 2 * y := by
  rw [hQ]
  have : ((2 ^ (L - 1) : Nat) : Int) ≤ ((y.toNat : Nat) : Int) := by exact_mod_cast l2
  rw [Int.toNat_of_nonneg (by omega)] at this
  have e : (2 : Int) ^ L = 2 * 2 ^ (L - 1) := by
   obtain ⟨m, rfl⟩ : ∃ m, L = m + 1 := ⟨L - 1, by omega⟩
   rw [Nat.add_sub_cancel, Int.pow_succ, Int.mul_comm]
  have e3 : ((2 ^ (L - 1) : Nat) : Int) = (2 : Int) ^ (L - 1) := by simp
  omega
 rw [hz]
 simp only [Option.bind_some]
 rw [u64i (x := 64 - (L : Int)) (by omega) (by omega), show (64 : Int) - (64 - (L : Int)) = L by omega, u64i (x := (L : Int)) (by omega) (by omega)]
 refine evP (by omega) (evP (by omega) ?_)
 -- the shifted numbers
 have b64 : IntKind.u64.bits = 64 := rfl
 have eS : min ((64 : Int) - (L : Int)).toNat IntKind.u64.bits = S := by rw [b64]; omega
 have eL : min (L : Int).toNat IntKind.u64.bits = L := by rw [b64]; omega
 obtain ⟨v, hv⟩ : ∃ v, v = y * P := ⟨_, rfl⟩
 have v63 : 9223372036854775808 ≤ v := by
  have : Q * P ≤ 2 * y * P := Int.mul_le_mul_of_nonneg_right yQ2 (by omega)
  rw [Int.mul_comm Q P, hPQ, Int.mul_assoc, ← hv] at this
  omega
 have v64 : v < 18446744073709551616 := by
  have : y * P < Q * P := Int.mul_lt_mul_of_pos_right yQ (by omega)
  rw [Int.mul_comm Q P, hPQ, ← hv] at this
  exact this
 have ev : shl .u64 y (64 - (L : Int)) = v := by
  unfold shl
  rw [eS, ← hP, ← hv]
  exact u64i (by omega) v64
 have hh : hi * P < v := by rw [hv]; exact Int.mul_lt_mul_of_pos_right h1 (by omega)
 have hh0 : 0 ≤ hi * P := Int.mul_nonneg h0 (by omega)
 have eh : shl .u64 hi (64 - (L : Int)) = hi * P := by
  unfold shl
  rw [eS, ← hP]
  exact u64i hh0 (by omega)
 have er : shr .u64 lo (L : Int) = lo / Q := by
  unfold shr
  rw [eL, ← hQ]
 have a0 : 0 ≤ lo / Q := Int.ediv_nonneg h3 (by omega)
 have a1 : lo / Q < P := Int.ediv_lt_of_lt_mul (by omega) (by rw [hPQ]; exact h4)
 have el : shl .u64 lo (64 - (L : Int)) = lo * P - lo / Q * 18446744073709551616 := by
  unfold shl
  rw [eS, ← hP, u64w]
  have e5 : lo = Q * (lo / Q) + lo % Q := (Int.mul_ediv_add_emod lo Q).symm
  have m0 := Int.emod_nonneg lo (show Q ≠ 0 by omega)
  have m1 := Int.emod_lt_of_pos lo (show 0 < Q by omega)
  have e6 : lo * P = lo / Q * 18446744073709551616 + lo % Q * P := by
   have : lo * P = (Q * (lo / Q) + lo % Q) * P := by rw [← e5]
   rw [this, Int.add_mul, Int.mul_comm Q (lo / Q), Int.mul_assoc, Int.mul_comm Q P, hPQ]
  have n0 : 0 ≤ lo % Q * P := Int.mul_nonneg m0 (by omega)
  have n1 : lo % Q * P < 18446744073709551616 := by rw [← hPQ, Int.mul_comm P Q]; exact Int.mul_lt_mul_of_pos_right m1 (by omega)
  rw [e6]
  omega
 obtain ⟨w10, hw⟩ : ∃ w10, w10 = lo * P - lo / Q * 18446744073709551616 := ⟨_, rfl⟩
 rw [← hw] at el
 have w0 : 0 ≤ w10 ∧ w10 < 18446744073709551616 := by
  rw [← el]
  unfold shl
  rw [u64w]
  omega
 have wid : ∀ n : Int, 0 ≤ n → n < 2 ^ 64 → IntKind.u64.wrap n = n := fun n a b => u64i a (by simpa using b)
 obtain ⟨U, hU⟩ : ∃ U, U = hi * P + lo / Q := ⟨_, rfl⟩
 have U1 : U < v := by
  have h5 : (hi + 1) * P ≤ y * P := Int.mul_le_mul_of_nonneg_right (by omega) (by omega)
  rw [Int.add_mul, Int.one_mul, ← hv] at h5
  omega
 have eo : Go.bits .or .u64 (hi * P) (lo / Q) = U := by
  rw [hU]
  refine bits_join .u64 64 (by decide) wid S (hi * P) (lo / Q) hh0 ?_ (by simpa using (show hi * P < 18446744073709551616 by omega)) a0 ?_ (by simpa using (show lo / Q < 18446744073709551616 by have : P ≤ v := by { rw [hv]; have := Int.mul_le_mul_of_nonneg_right (show 1 ≤ y by omega) (show 0 ≤ P by omega); omega }; omega))
  ·rw [← hP]; exact Int.mul_emod_left _ _
  ·rw [← hP]; exact a1
 have em : ∀ x : Int, 0 ≤ x → x < 18446744073709551616 → Go.bits .and .u64 x 4294967295 = x % 4294967296 := fun x x0 x1 => bits_mask .u64 64 (by decide) wid 32 (by decide) x x0 (by simpa using x1)
 rw [ev, eh, er, el, eo, em v (by omega) v64, em w10 w0.1 w0.2]
 refine evN (by omega) ?_
 have D1 : Dv v (v / 4294967296) (v % 4294967296) U (w10 / 4294967296) ((U * 4294967296 + w10 / 4294967296) / v) := dv_first (by omega) (by omega) (by omega) (by omega) (by omega) (by omega) (by omega) (by omega) U1
 obtain ⟨s1, s2, s3, s4, s5, s6⟩ := dv_start D1
 have t1 : IntKind.u64.wrap (Int.tdiv U (v / 4294967296)) = U / (v / 4294967296) := by
  rw [Int.tdiv_eq_ediv_of_nonneg (by omega)]
  exact u64i s6 (by omega)
 have t2 : IntKind.u64.wrap (U - IntKind.u64.wrap (U / (v / 4294967296) * (v / 4294967296))) = U - U / (v / 4294967296) * (v / 4294967296) := by
  rw [u64i (x := U / (v / 4294967296) * (v / 4294967296)) (Int.mul_nonneg s6 (by omega)) (by omega)]
  exact u64i s2 (by omega)
 rw [t1, t2]
 obtain ⟨q1, hq1⟩ : ∃ q1, q1 = (U * 4294967296 + w10 / 4294967296) / v := ⟨_, rfl⟩
 rw [← hq1] at D1 s4
 have D1lo := D1.lo
 have D1hi := D1.hi
 rw [Int.add_mul, Int.one_mul] at D1hi
 obtain ⟨R, hR⟩ : ∃ R, R = U * 4294967296 + w10 / 4294967296 - q1 * v := ⟨_, rfl⟩
 have fin : IntKind.u64.wrap (IntKind.u64.wrap (IntKind.u64.wrap (U * 4294967296) + w10 / 4294967296) - IntKind.u64.wrap (q1 * v)) = R := by
  simp only [u64w]
  omega
 have D2 : Dv v (v / 4294967296) (v % 4294967296) R (w10 % 4294967296) ((R * 4294967296 + w10 % 4294967296) / v) := dv_first (by omega) (by omega) (by omega) (by omega) (by omega) (by omega) (by omega) (by omega) (by omega)
 obtain ⟨r1, r2, r3, r4, r5, r6⟩ := dv_start D2
 have t3 : IntKind.u64.wrap (Int.tdiv R (v / 4294967296)) = R / (v / 4294967296) := by
  rw [Int.tdiv_eq_ediv_of_nonneg (by omega)]
  exact u64i r6 (by omega)
 have t4 : IntKind.u64.wrap (R - IntKind.u64.wrap (R / (v / 4294967296) * (v / 4294967296))) = R - R / (v / 4294967296) * (v / 4294967296) := by
  rw [u64i (x := R / (v / 4294967296) * (v / 4294967296)) (Int.mul_nonneg r6 (by omega)) (by omega)]
  exact u64i r2 (by omega)
 obtain ⟨q0, hq0⟩ : ∃ q0, q0 = (R * 4294967296 + w10 % 4294967296) / v := ⟨_, rfl⟩
 rw [← hq0] at D2 r4
 have D2lo := D2.lo
 have D2hi := D2.hi
 rw [Int.add_mul, Int.one_mul] at D2hi
 -- the whole
 obtain ⟨T, hT⟩ : ∃ T, T = hi * 18446744073709551616 + lo - (q1 * 4294967296 + q0) * y := ⟨_, rfl⟩
 have key : T * P = R * 4294967296 + w10 % 4294967296 - q0 * v := by
  have e7 : (hi * 18446744073709551616 + lo) * P = U * 18446744073709551616 + w10 := by
   rw [Int.add_mul, Int.mul_assoc, Int.mul_comm 18446744073709551616 P, ← Int.mul_assoc]
   omega
  have e8 : (q1 * 4294967296 + q0) * y * P = q1 * v * 4294967296 + q0 * v := by
   rw [Int.mul_assoc, ← hv, Int.add_mul, Int.mul_assoc, Int.mul_comm 4294967296 v, ← Int.mul_assoc]
  rw [hT, Int.sub_mul, e7, e8]
  omega
 have T0 : 0 ≤ T := by
  apply Int.not_lt.1
  intro c9
  have := Int.mul_le_mul_of_nonneg_right (show T ≤ -1 by omega) (show 0 ≤ P by omega)
  omega
 have T1 : T < y := by
  apply Int.not_le.1
  intro c9
  have := Int.mul_le_mul_of_nonneg_right c9 (show 0 ≤ P by omega)
  rw [← hv] at this
  omega
 have eq1 : (hi * 18446744073709551616 + lo) / y = q1 * 4294967296 + q0 := by
  rw [show hi * 18446744073709551616 + lo = T + (q1 * 4294967296 + q0) * y by omega, Int.add_mul_ediv_right _ _ (by omega), Int.ediv_eq_zero_of_lt T0 T1]
  omega
 have eq2 : (hi * 18446744073709551616 + lo) % y = T := by
  rw [show hi * 18446744073709551616 + lo = T + (q1 * 4294967296 + q0) * y by omega, Int.add_mul_emod_self_right, Int.emod_eq_of_lt T0 T1]
 have eq3 : shr .u64 (R * 4294967296 + w10 % 4294967296 - q0 * v) (64 - (L : Int)) = T := by
  unfold shr
  rw [eS, ← hP, ← key]
  exact Int.mul_ediv_cancel _ (by omega)
 rw [eq1, eq2, ← eq3]
 refine dv_l0 D1 ?_ 2 _ _ s1 s2 s3 s4 s5 (by omega)
 refine evS ?_
 simp only [bits_Div64.j2]
 rw [fin, t3, t4]
 refine evN (by omega) ?_
 exact dv_l1 D2 (by omega) D1.q0 D1.q1 v64 2 _ _ r1 r2 r3 r4 r5 (by omega)
theorem fx_size (a : Int) (h0 : -1099511627776 ≤ a) (h1 : a ≤ 1099511627776) (w : World) : Calls Tryd.prog 38 #[.int .i64 a] w fun e w' => e = .returned (.tuple #[.int .u64 (a.natAbs : Int), .bool (decide (a < 0))]) ∧ w = w' := by
 by_cases c : a < 0
 ·have e : (a.natAbs : Int) = -a := by omega
  have ew : IntKind.u64.wrap (-a) = -a := u64i (by omega) (by omega)
  have cb : decide (a < 0) = true := dt_ c
  rw [e, cb]
  go_enter Tryd.func38, Tryd.ntmps38
  go_wp2
  go_ret2
  exact ⟨rfl, rfl⟩
 ·have e : (a.natAbs : Int) = a := by omega
  have ew : IntKind.u64.wrap a = a := u64i (by omega) (by omega)
  have cb : decide (a < 0) = false := df_ c
  rw [e, cb]
  go_enter Tryd.func38, Tryd.ntmps38
  go_wp2
  go_ret2
  exact ⟨rfl, rfl⟩
theorem fx_new (W : World) (v : Value) (t : TypeId) : (W.alloc (.cells #[v] t)).cell? ⟨W.heap.size, 0, none⟩ = some v := (kc_ (heap_alloc_new W _) 0).trans rfl
/-- The rounded quotient, as it is reckoned: in 64 bits. -/
def fix_quo (a n d : Int) : Int := if ((a.natAbs * n.natAbs : Nat) : Int) % (d.natAbs : Int) ≥ (d.natAbs : Int) - ((a.natAbs * n.natAbs : Nat) : Int) % (d.natAbs : Int) then IntKind.u64.wrap (((a.natAbs * n.natAbs : Nat) : Int) / (d.natAbs : Int) + 1) else ((a.natAbs * n.natAbs : Nat) : Int) / (d.natAbs : Int)
def fix_neg (a n d : Int) : Bool := (decide (a < 0) != decide (n < 0)) != decide (d < 0)
def fix_ratio.f (a n d : Int) : Option (Int × Int) :=
 if ((a.natAbs * n.natAbs / 18446744073709551616 : Nat) : Int) ≥ (d.natAbs : Int) then some (0, 3) else if fix_quo a n d > 1099511627776 then some (0, 3) else if fix_neg a n d = true then some (-(fix_quo a n d), 0) else some (fix_quo a n d, 0)
/-- How the answer of ratio stands in memory. -/
def RatioEnd (w : World) (r1 r2 : Int) (e : Ending) (w' : World) : Prop :=
 Below w.heap.size w w' ∧ ((r2 = 0 ∧ e = .returned (.tuple #[.int .i64 r1, .nilIface])) ∨ (r2 ≠ 0 ∧ r1 = 0 ∧ ∃ g : Nat, e = .returned (.tuple #[.int .i64 0, .iface 76 (.pointer (some ⟨g, 0, none⟩))]) ∧ w'.cell? ⟨g, 0, none⟩ = some (.int .i64 r2)))
theorem RatioEnd.no {w w' : World} {e : Ending} (hb : Below w.heap.size w w') (g : Nat) (he : e = .returned (.tuple #[.int .i64 0, .iface 76 (.pointer (some ⟨g, 0, none⟩))])) (hg : w'.cell? ⟨g, 0, none⟩ = some (.int .i64 3)) : RatioEnd w 0 3 e w' := ⟨hb, .inr ⟨by decide, rfl, g, he, hg⟩⟩
theorem RatioEnd.yes {w w' : World} {e : Ending} {r : Int} (hb : Below w.heap.size w w') (he : e = .returned (.tuple #[.int .i64 r, .nilIface])) : RatioEnd w r 0 e w' := ⟨hb, .inl ⟨rfl, he⟩⟩
set_option maxHeartbeats 2000000 in
theorem fix_ratio.calls (a n d r1 r2 : Int) (w : World) (ha : -1099511627776 ≤ a ∧ a ≤ 1099511627776) (hn : -1099511627776 ≤ n ∧ n ≤ 1099511627776) (hd : -1099511627776 ≤ d ∧ d ≤ 1099511627776 ∧ d ≠ 0) (h : fix_ratio.f a n d = some (r1, r2)) :
  Calls Tryd.prog 34 #[.int .i64 a, .int .i64 n, .int .i64 d] w (RatioEnd w r1 r2) := by
 have HA := sd_ (fx_size a ha.1 ha.2)
 have HN := sd_ (fx_size n hn.1 hn.2)
 have HD := sd_ (fx_size d hd.1 hd.2.1)
 have hM := fun W => (Tryd.bits_Mul64 a.natAbs n.natAbs (by omega) (by omega) W).mono (fun e w' h => (⟨h.1, h.2.symm⟩ : _ ∧ W = w'))
 unfold fix_ratio.f at h
 obtain ⟨X, hX⟩ : ∃ X : Nat, a.natAbs * n.natAbs = X := ⟨_, rfl⟩
 obtain ⟨Z, hZ⟩ : ∃ Z : Int, (d.natAbs : Int) = Z := ⟨_, rfl⟩
 have Z1 : 1 ≤ Z := by omega
 have Z2 : Z ≤ 1099511627776 := by omega
 rw [hX] at h hM
 rw [hZ] at h HD
 obtain ⟨hi, hhi⟩ : ∃ hi : Int, ((X / 18446744073709551616 : Nat) : Int) = hi := ⟨_, rfl⟩
 obtain ⟨lo, hlo⟩ : ∃ lo : Int, ((X % 18446744073709551616 : Nat) : Int) = lo := ⟨_, rfl⟩
 rw [hhi] at h
 simp only [hhi, hlo] at hM
 have HM := sd_ hM
 have eX : (X : Int) = hi * 18446744073709551616 + lo := by omega
 clear hM
 by_cases c1 : hi ≥ Z
 ·rw [if_pos c1] at h
  obtain ⟨rfl, rfl⟩ : 0 = r1 ∧ 3 = r2 := by simpa using h
  have cb : decide (Z ≤ hi) = true := dt_ c1
  clear h hhi hlo eX ha hn hd hX hZ c1
  go_enter Tryd.func34, Tryd.ntmps34
  go_wp2_with (first | (go_at_call 38; first | ((with_reducible refine (HA.out _).mono ?_); rintro e w' ⟨rfl, rfl⟩) | ((with_reducible refine (HN.out _).mono ?_); rintro e w' ⟨rfl, rfl⟩) | ((with_reducible refine (HD.out _).mono ?_); rintro e w' ⟨rfl, rfl⟩)) | (go_at_call 39; refine (HM.out _).mono ?_; rintro e w' ⟨rfl, rfl⟩))
  refine bodyPost_ret (v := .tuple #[.int .i64 0, .iface 76 (.pointer (some ⟨w.heap.size, 0, none⟩))]) (by simp [results, Tryd.results34, go_sem]) rfl ?_
  exact RatioEnd.no (ba_ (Below.refl _ _) _) w.heap.size rfl (by simp)
 ·rw [if_neg c1] at h
  have cb : decide (Z ≤ hi) = false := df_ c1
  obtain ⟨k, hk⟩ := fx_div hi lo Z (by omega) (by omega) (by omega) (by omega) (by omega)
  rw [← eX] at hk
  have HV := sd_ (fun W => bits_Div64.calls k hi lo Z _ _ W hk)
  have hneg := sd_ hX
  have R0 := Int.emod_nonneg (X : Int) (show Z ≠ 0 by omega)
  have R1 := Int.emod_lt_of_pos (X : Int) (show 0 < Z by omega)
  have Q0 : 0 ≤ (X : Int) / Z := Int.ediv_nonneg (by omega) (by omega)
  have Q1 : (X : Int) / Z < 18446744073709551616 := Int.ediv_lt_of_lt_mul (by omega) (by omega)
  unfold fix_quo at h
  rw [hX, hZ] at h
  clear hk hhi hlo eX ha hn hd hX hZ c1
  generalize (X : Int) / Z = Q at h HV Q0 Q1
  generalize (X : Int) % Z = R at h HV R0 R1
  have ew : IntKind.u64.wrap (Z - R) = Z - R := u64i (by omega) (by omega)
  by_cases c2 : R ≥ Z - R
  ·have cb2 : decide (Z - R ≤ R) = true := dt_ c2
   rw [if_pos c2] at h
   obtain ⟨Q2, hQ2⟩ : ∃ Q2, IntKind.u64.wrap (Q + 1) = Q2 := ⟨_, rfl⟩
   rw [hQ2] at h
   have Q20 : 0 ≤ Q2 := by rw [← hQ2, u64w]; omega
   clear c2
   by_cases c3 : Q2 > 1099511627776
   ·rw [if_pos c3] at h
    obtain ⟨rfl, rfl⟩ : 0 = r1 ∧ 3 = r2 := by simpa using h
    have cb3 : decide ((1099511627776 : Int) < Q2) = true := dt_ c3
    clear h c3 hneg
    go_enter Tryd.func34, Tryd.ntmps34
    go_wp2_with (first | (go_at_call 38; first | ((with_reducible refine (HA.out _).mono ?_); rintro e w' ⟨rfl, rfl⟩) | ((with_reducible refine (HN.out _).mono ?_); rintro e w' ⟨rfl, rfl⟩) | ((with_reducible refine (HD.out _).mono ?_); rintro e w' ⟨rfl, rfl⟩)) | (go_at_call 39; refine (HM.out _).mono ?_; rintro e w' ⟨rfl, rfl⟩) | (go_at_call 40; refine (HV.out _).mono ?_; rintro e w' ⟨rfl, ⟨nd, rfl⟩⟩))
    refine bodyPost_ret (v := .tuple #[.int .i64 0, .iface 76 (.pointer (some ⟨w.heap.size, 0, none⟩))]) (by simp [results, Tryd.results34, go_sem]) rfl ?_
    exact RatioEnd.no (ba_ (pd_ (Below.refl _ _) _) _) w.heap.size rfl (fx_new (w.drewN _) _ _)
   ·rw [if_neg c3] at h
    have cb3 : decide ((1099511627776 : Int) < Q2) = false := df_ c3
    have ci : IntKind.i64.wrap Q2 = Q2 := by simp only [IntKind.wrap_i64]; omega
    have cm : wrap64 (-Q2) = -Q2 := by unfold wrap64; omega
    cases hng : fix_neg a n d with
    | true =>
     rw [hng, if_pos rfl] at h
     obtain ⟨rfl, rfl⟩ : -Q2 = r1 ∧ 0 = r2 := by simpa using h
     unfold fix_neg bne at hng
     clear h c3 hneg
     go_enter Tryd.func34, Tryd.ntmps34
     go_wp2_with (first | (go_at_call 38; first | ((with_reducible refine (HA.out _).mono ?_); rintro e w' ⟨rfl, rfl⟩) | ((with_reducible refine (HN.out _).mono ?_); rintro e w' ⟨rfl, rfl⟩) | ((with_reducible refine (HD.out _).mono ?_); rintro e w' ⟨rfl, rfl⟩)) | (go_at_call 39; refine (HM.out _).mono ?_; rintro e w' ⟨rfl, rfl⟩) | (go_at_call 40; refine (HV.out _).mono ?_; rintro e w' ⟨rfl, ⟨nd, rfl⟩⟩))
     go_ret2
     exact RatioEnd.yes (pd_ (Below.refl _ _) _) (by first | rfl | (rw [cm]; rfl))
    | false =>
     rw [hng, if_neg (by decide)] at h
     obtain ⟨rfl, rfl⟩ : Q2 = r1 ∧ 0 = r2 := by simpa using h
     unfold fix_neg bne at hng
     clear h c3 hneg
     go_enter Tryd.func34, Tryd.ntmps34
     go_wp2_with (first | (go_at_call 38; first | ((with_reducible refine (HA.out _).mono ?_); rintro e w' ⟨rfl, rfl⟩) | ((with_reducible refine (HN.out _).mono ?_); rintro e w' ⟨rfl, rfl⟩) | ((with_reducible refine (HD.out _).mono ?_); rintro e w' ⟨rfl, rfl⟩)) | (go_at_call 39; refine (HM.out _).mono ?_; rintro e w' ⟨rfl, rfl⟩) | (go_at_call 40; refine (HV.out _).mono ?_; rintro e w' ⟨rfl, ⟨nd, rfl⟩⟩))
     go_ret2
     exact RatioEnd.yes (pd_ (Below.refl _ _) _) rfl
  ·have cb2 : decide (Z - R ≤ R) = false := df_ c2
   rw [if_neg c2] at h
   clear c2
   by_cases c3 : Q > 1099511627776
   ·rw [if_pos c3] at h
    obtain ⟨rfl, rfl⟩ : 0 = r1 ∧ 3 = r2 := by simpa using h
    have cb3 : decide ((1099511627776 : Int) < Q) = true := dt_ c3
    clear h c3 hneg
    go_enter Tryd.func34, Tryd.ntmps34
    go_wp2_with (first | (go_at_call 38; first | ((with_reducible refine (HA.out _).mono ?_); rintro e w' ⟨rfl, rfl⟩) | ((with_reducible refine (HN.out _).mono ?_); rintro e w' ⟨rfl, rfl⟩) | ((with_reducible refine (HD.out _).mono ?_); rintro e w' ⟨rfl, rfl⟩)) | (go_at_call 39; refine (HM.out _).mono ?_; rintro e w' ⟨rfl, rfl⟩) | (go_at_call 40; refine (HV.out _).mono ?_; rintro e w' ⟨rfl, ⟨nd, rfl⟩⟩))
    refine bodyPost_ret (v := .tuple #[.int .i64 0, .iface 76 (.pointer (some ⟨w.heap.size, 0, none⟩))]) (by simp [results, Tryd.results34, go_sem]) rfl ?_
    exact RatioEnd.no (ba_ (pd_ (Below.refl _ _) _) _) w.heap.size rfl (fx_new (w.drewN _) _ _)
   ·rw [if_neg c3] at h
    have cb3 : decide ((1099511627776 : Int) < Q) = false := df_ c3
    have ci : IntKind.i64.wrap Q = Q := by simp only [IntKind.wrap_i64]; omega
    have cm : wrap64 (-Q) = -Q := by unfold wrap64; omega
    cases hng : fix_neg a n d with
    | true =>
     rw [hng, if_pos rfl] at h
     obtain ⟨rfl, rfl⟩ : -Q = r1 ∧ 0 = r2 := by simpa using h
     unfold fix_neg bne at hng
     clear h c3 hneg
     go_enter Tryd.func34, Tryd.ntmps34
     go_wp2_with (first | (go_at_call 38; first | ((with_reducible refine (HA.out _).mono ?_); rintro e w' ⟨rfl, rfl⟩) | ((with_reducible refine (HN.out _).mono ?_); rintro e w' ⟨rfl, rfl⟩) | ((with_reducible refine (HD.out _).mono ?_); rintro e w' ⟨rfl, rfl⟩)) | (go_at_call 39; refine (HM.out _).mono ?_; rintro e w' ⟨rfl, rfl⟩) | (go_at_call 40; refine (HV.out _).mono ?_; rintro e w' ⟨rfl, ⟨nd, rfl⟩⟩))
     go_ret2
     exact RatioEnd.yes (pd_ (Below.refl _ _) _) (by first | rfl | (rw [cm]; rfl))
    | false =>
     rw [hng, if_neg (by decide)] at h
     obtain ⟨rfl, rfl⟩ : Q = r1 ∧ 0 = r2 := by simpa using h
     unfold fix_neg bne at hng
     clear h c3 hneg
     go_enter Tryd.func34, Tryd.ntmps34
     go_wp2_with (first | (go_at_call 38; first | ((with_reducible refine (HA.out _).mono ?_); rintro e w' ⟨rfl, rfl⟩) | ((with_reducible refine (HN.out _).mono ?_); rintro e w' ⟨rfl, rfl⟩) | ((with_reducible refine (HD.out _).mono ?_); rintro e w' ⟨rfl, rfl⟩)) | (go_at_call 39; refine (HM.out _).mono ?_; rintro e w' ⟨rfl, rfl⟩) | (go_at_call 40; refine (HV.out _).mono ?_; rintro e w' ⟨rfl, ⟨nd, rfl⟩⟩))
     go_ret2
     exact RatioEnd.yes (pd_ (Below.refl _ _) _) rfl
/-- out(ratio(..)). -/
def fix_rat.f (a n d : Int) : Option (Int × Int) := (fix_ratio.f a n d).bind fun r => if r.2 = 0 then fix_out.f r.1 else some (0, r.2)
theorem fix_rat_two {a n d r1 r2 : Int} (ha : -1099511627776 ≤ a ∧ a ≤ 1099511627776) (hn : -1099511627776 ≤ n ∧ n ≤ 1099511627776) (hd : -1099511627776 ≤ d ∧ d ≤ 1099511627776 ∧ d ≠ 0) (h : fix_rat.f a n d = some (r1, r2)) :
  (∃ s, (∀ W, Calls Tryd.prog 34 #[.int .i64 a, .int .i64 n, .int .i64 d] W fun e w' => e = .returned (.tuple #[.int .i64 s, .nilIface]) ∧ Below W.heap.size W w') ∧ ∀ W, LaidE W → Calls Tryd.prog 33 #[.int .i64 s, .nilIface] W fun e w' => e = .returned (.tuple #[.int .i64 r1, .int .i64 r2]) ∧ Below W.heap.size W w') ∨
  ((∀ W, Calls Tryd.prog 34 #[.int .i64 a, .int .i64 n, .int .i64 d] W fun e w' => ∃ g : Nat, e = .returned (.tuple #[.int .i64 0, .iface 76 (.pointer (some ⟨g, 0, none⟩))]) ∧ w'.cell? ⟨g, 0, none⟩ = some (.int .i64 r2) ∧ Below W.heap.size W w') ∧ ∀ W (g : Nat), LaidE W → W.cell? ⟨g, 0, none⟩ = some (.int .i64 r2) → Calls Tryd.prog 33 #[.int .i64 0, .iface 76 (.pointer (some ⟨g, 0, none⟩))] W fun e w' => e = .returned (.tuple #[.int .i64 r1, .int .i64 r2]) ∧ Below W.heap.size W w') := by
 unfold fix_rat.f at h
 obtain ⟨⟨s1, s2⟩, hs, h⟩ := ob_ h
 have hc := fun W => fix_ratio.calls a n d s1 s2 W ha hn hd hs
 by_cases c : s2 = 0
 ·left
  subst c
  replace h : fix_out.f s1 = some (r1, r2) := by simpa using h
  refine ⟨s1, fun W => (hc W).mono ?_, fun W hE => fix_out_nil s1 r1 r2 W hE h⟩
  rintro e w' ⟨hb, hx | hx⟩
  ·exact ⟨hx.2, hb⟩
  ·exact absurd rfl hx.1
 ·right
  obtain ⟨rfl, rfl⟩ : 0 = r1 ∧ s2 = r2 := by simpa [c] using h
  refine ⟨fun W => (hc W).mono ?_, fun W g hE hg => fix_out_err 0 g s2 W hE hg⟩
  rintro e w' ⟨hb, hx | hx⟩
  ·exact absurd hx.1 c
  ·obtain ⟨_, _, g, he, hg⟩ := hx
   exact ⟨g, he, hg, hb⟩

/-! ### fix_Scale: function 29 -/
def fix_Scale.f (a n d : Int) : Option (Int × Int) := if fx_ok a = true then (if n < -1048576 ∨ n > 1048576 ∨ d < 1 ∨ d > 1048576 then some (0, 2) else fix_rat.f a n d) else some (0, 3)
set_option maxHeartbeats 4000000 in
theorem fix_Scale.calls (a n d r1 r2 : Int) (w : World) (hE : Aside0 (LaidE w)) (h : fix_Scale.f a n d = some (r1, r2)) :
  Calls Tryd.prog 29 #[.int .i64 a, .int .i64 n, .int .i64 d] w fun e w' => e = .returned (.tuple #[.int .i64 r1, .int .i64 r2]) ∧ Below w.heap.size w w' := by
 have hC : Kd.C (Kd.int .i64) (w.alloc (.cells #[.int .i64 a] 3)) (some ⟨w.heap.size, 0, none⟩) 1 [a] := fx_C w [a] (by simp)
 have hb1 : Below w.heap.size w (w.alloc (.cells #[.int .i64 a] 3)) := ba_ (Below.refl _ _) _
 unfold fix_Scale.f at h
 by_cases c : fx_ok a = true
 ·rw [if_pos c] at h
  have HA := sd_ (fix_all_ok _ 1 [a] _ hC (by simp [c]))
  have HB1 := sd_ hb1
  have ba : -1099511627776 ≤ a ∧ a ≤ 1099511627776 := od_ c
  by_cases c2 : n < -1048576 ∨ n > 1048576 ∨ d < 1 ∨ d > 1048576
  ·rw [if_pos c2] at h
   clear HB1 ba
   have cc : decide (n < -1048576) = true ∨ (decide (n < -1048576) = false ∧ decide ((1048576 : Int) < n) = true) ∨ (decide (n < -1048576) = false ∧ decide ((1048576 : Int) < n) = false ∧ decide (d < 1) = true) ∨ (decide (n < -1048576) = false ∧ decide ((1048576 : Int) < n) = false ∧ decide (d < 1) = false ∧ decide ((1048576 : Int) < d) = true) := by
    simp only [decide_eq_true_eq, decide_eq_false_iff_not]
    omega
   clear c2
   obtain ⟨rfl, rfl⟩ : 0 = r1 ∧ 2 = r2 := by simpa using h
   have hb2 : Below w.heap.size w ((w.alloc (.cells #[.int .i64 a] 3)).alloc (.cells #[.int .i64 2] 78)) := ba_ hb1 _
   have HO := sd_ (fix_out_err 0 (w.heap.size + 1) 2 _ (hE.out.below hb2) (by simp))
   have HB1 := sd_ hb2
   clear h hC hE hb1 hb2 c
   rcases cc with c1 | ⟨c1, c2⟩ | ⟨c1, c2, c3⟩ | ⟨c1, c2, c3, c4⟩
   all_goals
    go_enter Tryd.func29, Tryd.ntmps29
    go_wp2_with (first | (go_at_call 32; refine HA.out.mono ?_; rintro e w' ⟨rfl, rfl⟩) | (go_at_call 33; refine HO.out.mono ?_; rintro e w' ⟨rfl, hb⟩; have HB := sd_ (below_then HB1.out HB1.out.size hb); clear hb))
    go_ret2
    exact ⟨rfl, HB.out⟩
  ·rw [if_neg c2] at h
   have c21 : decide (n < -1048576) = false := df_ (by omega)
   have c22 : decide ((1048576 : Int) < n) = false := df_ (by omega)
   have c23 : decide (d < 1) = false := df_ (by omega)
   have c24 : decide ((1048576 : Int) < d) = false := df_ (by omega)
   have bn : -1099511627776 ≤ n ∧ n ≤ 1099511627776 := by omega
   have bd : -1099511627776 ≤ d ∧ d ≤ 1099511627776 ∧ d ≠ 0 := by omega
   rcases fix_rat_two ba bn bd h with ⟨s, hR, hO⟩ | ⟨hR, hO⟩
   ·have HR := sd_ hR
    have HO := sd_ hO
    clear hR hO h hC hb1 c ba bn bd c2
    go_enter Tryd.func29, Tryd.ntmps29
    go_wp2_with (first | (go_at_call 32; refine HA.out.mono ?_; rintro e w' ⟨rfl, rfl⟩) | (go_at_call 34; refine (HR.out _).mono ?_; rintro e w' ⟨rfl, hb⟩; have HB2 := sd_ (below_then HB1.out HB1.out.size hb); clear hb) | (go_at_call 33; refine (HO.out _ (hE.out.below HB2.out)).mono ?_; rintro e w' ⟨rfl, hb⟩; have HB := sd_ (below_then HB2.out HB2.out.size hb); clear hb))
    go_ret2
    exact ⟨rfl, HB.out⟩
   ·have HR := sd_ hR
    have HO := sd_ hO
    clear hR hO h hC hb1 c ba bn bd c2
    go_enter Tryd.func29, Tryd.ntmps29
    go_wp2_with (first | (go_at_call 32; refine HA.out.mono ?_; rintro e w' ⟨rfl, rfl⟩) | (go_at_call 34; refine (HR.out _).mono ?_; rintro e w' ⟨g, rfl, hg, hb⟩; have HG := sd_ hg; have HB2 := sd_ (below_then HB1.out HB1.out.size hb); clear hg hb) | (go_at_call 33; refine (HO.out _ _ (hE.out.below HB2.out) HG.out).mono ?_; rintro e w' ⟨rfl, hb⟩; have HB := sd_ (below_then HB2.out HB2.out.size hb); clear hb))
    go_ret2
    exact ⟨rfl, HB.out⟩
 ·rw [if_neg c] at h
  obtain ⟨rfl, rfl⟩ : 0 = r1 ∧ 3 = r2 := by simpa using h
  have hb2 : Below w.heap.size w ((w.alloc (.cells #[.int .i64 a] 3)).alloc (.cells #[.int .i64 3] 78)) := ba_ hb1 _
  have HA := sd_ (fix_all_bad _ 1 [a] _ hC (by simp [c]))
  have HO := sd_ (fix_out_err 0 (w.heap.size + 1) 3 _ (hE.out.below hb2) (by simp))
  have HB1 := sd_ hb2
  clear h hC hE hb1 hb2 c
  go_enter Tryd.func29, Tryd.ntmps29
  go_wp2_with (first | (go_at_call 32; refine HA.out.mono ?_; rintro e w' ⟨rfl, rfl⟩) | (go_at_call 33; refine HO.out.mono ?_; rintro e w' ⟨rfl, hb⟩; have HB := sd_ (below_then HB1.out HB1.out.size hb); clear hb))
  go_ret2
  exact ⟨rfl, HB.out⟩

/-! ### glyph_less: function 20 -/
def glyph_less.f (a0 : Int) : Option (Int) := (fix_Scale.f a0 2 3).bind fun bt127 => (some bt127.1)
set_option maxHeartbeats 8000000 in
set_option maxRecDepth 100000 in
theorem glyph_less.calls (a0 : Int) (r : Int) (w : World) (hE : Aside0 (LaidE w)) (h : glyph_less.f a0 = some r) :
  Calls Tryd.prog 20 #[.int .i64 a0] w fun e w' => e = .returned (.int .i64 r) ∧ Below w.heap.size w w' := by
 have HB := sd_ (Below.refl w.heap.size w)
 have H : ((fix_Scale.f a0 2 3).bind fun bt127 => (some bt127.1)) = some r := h
 clear h
 replace H := ob_ H
 obtain ⟨⟨t127, t128⟩, A20, H⟩ := H
 replace H : (some t127) = some r := H
 have A2 := sd_ A20
 clear A20
 obtain rfl := Option.some.inj H
 go_enter Tryd.func20, Tryd.ntmps20
 go_wp2_with (first | ((with_reducible refine gate_callee (f := 29) rfl ?_); refine goesL_ (some 7) rfl rfl Tryd.func29 (by kernel_rfl) rfl #[.int .i64 a0, .int .i64 2, .int .i64 3] rfl (by (try simp only [lm_, lq_, lx_]); first | done | rfl | (simp only [ld_, lt_]; rfl)) ?_; (with_reducible refine (fix_Scale.calls a0 2 3 t127 t128 _ ?side1 A2.out).mono ?_); (case side1 => first | (with_reducible exact hE) | exact sd_ (LaidE.below hE.out (bb_ HB.out e0_))); rintro e w3 ⟨rfl, hb⟩; refine ⟨_, rfl, ?_⟩; replace HB := hb_ HB e0_ hb; (try clear hb); (try clear hb2); (try clear hk); (try clear hi)))
 go_ret
 exact ⟨by first | rfl | (simp [errW_none, errW_some] <;> rfl) | (simp [*, errW_none, errW_some] <;> rfl), by repeat (first | (with_reducible first | exact HB.out | apply ba_ | apply pd_ | apply d1_) | exact HB.out)⟩

/-! ### box_Check: function 21 -/
def box_ok (x0 x1 x2 x3 : Int) : Bool := fx_ok x0 && fx_ok x1 && fx_ok x2 && fx_ok x3 && decide (x0 ≤ x2) && decide (x1 ≤ x3)
def box_Check.f (x0 x1 x2 x3 : Int) : Option Bool := some (box_ok x0 x1 x2 x3)
def box_nth (x0 x1 x2 x3 i : Int) : Int := if i = 0 then x0 else if i = 1 then x1 else if i = 2 then x2 else x3
theorem bx_ret {a b : Bool} (h : a = b) : Ending.returned (.bool a) = .returned (.bool b) := by rw [h]
set_option maxHeartbeats 4000000 in
set_option maxRecDepth 100000 in
theorem box_Check.calls (x0 x1 x2 x3 : Int) (r : Bool) (w : World) (h : box_Check.f x0 x1 x2 x3 = some r) :
  Calls Tryd.prog 21 #[.agg #[.int .i64 x0, .int .i64 x1, .int .i64 x2, .int .i64 x3]] w fun e w' => e = .returned (.bool r) ∧ Below w.heap.size w w' := by
 have hu := Tryd.underlying30
 have k : ∀ W : World, ∀ i x : Int, 0 ≤ i → i < 4 → box_nth x0 x1 x2 x3 i = x → (Instr.index 58 (.agg #[.int .i64 x0, .int .i64 x1, .int .i64 x2, .int .i64 x3]) (.int .i64 i)).run Tryd.prog W = .ok (.int .i64 x) W := by
  intro W i x h0 h4 hx
  obtain rfl | rfl | rfl | rfl : i = 0 ∨ i = 1 ∨ i = 2 ∨ i = 3 := by omega
  all_goals (subst hx; kernel_rfl)
 have H := sd_ (show box_ok x0 x1 x2 x3 = r from Option.some.inj h)
 have HK := sd_ k
 clear h k
 go_enter Tryd.func21, Tryd.ntmps21
 go_wp2
 go_loop [14] (fun v14 => ∃ i : Int, 0 ≤ i ∧ i ≤ 4 ∧ v14 = .int .i64 i ∧ Aside0 (∀ j : Int, 0 ≤ j → j < i → fx_ok (box_nth x0 x1 x2 x3 j) = true)) (fun v14 => (4 - intOf v14).toNat)
 case atStart => exact ⟨0, by omega, by omega, rfl, ⟨fun j h0 h1 => by omega⟩⟩
 case round =>
  obtain ⟨i, hi0, hi4, rfl, hA⟩ := hrel
  by_cases hlt : i < 4
  ·obtain ⟨x, hx⟩ : ∃ x, box_nth x0 x1 x2 x3 i = x := ⟨_, rfl⟩
   have ki := fun W => HK.out W i x hi0 hlt hx
   have HO := sd_ (fx_Ok x)
   have HX := sd_ hx
   clear hx
   cases hb : fx_ok x with
   | true =>
    have HA := sd_ (show ∀ j : Int, 0 ≤ j → j < i + 1 → fx_ok (box_nth x0 x1 x2 x3 j) = true from fun j h0 h1 => by
     by_cases e : j = i
     ·rw [e, HX.out, hb]
     ·exact hA.out j h0 (by omega))
    rw [hb] at HO
    clear hb hA HX HK
    go_wp2_with (go_at_call 30; refine (HO.out _).mono ?_; rintro e w' ⟨rfl, rfl⟩)
    go_round
    case rel => exact ⟨i + 1, by omega, by omega, by go_num, HA⟩
    case measure => simp [intOf]; omega
   | false =>
    have HR := sd_ (show false = r by
     rw [← H.out]
     unfold box_ok
     have q := HX.out
     unfold box_nth at q
     obtain rfl | rfl | rfl | rfl : i = 0 ∨ i = 1 ∨ i = 2 ∨ i = 3 := by omega
     all_goals
      simp at q
      subst q
      rw [hb]
      simp)
    rw [hb] at HO
    clear hb hA HX HK H
    go_wp2_with (go_at_call 30; refine (HO.out _).mono ?_; rintro e w' ⟨rfl, rfl⟩)
    go_ret
    exact ⟨bx_ret HR.out, ba_ (Below.refl _ _) _⟩
  ·obtain rfl : i = 4 := by omega
   have HR := sd_ (show (decide (x0 ≤ x2) && decide (x1 ≤ x3)) = r by
    rw [← H.out]
    unfold box_ok
    have q0 : fx_ok x0 = true := hA.out 0 (by omega) (by omega)
    have q1 : fx_ok x1 = true := hA.out 1 (by omega) (by omega)
    have q2 : fx_ok x2 = true := hA.out 2 (by omega) (by omega)
    have q3 : fx_ok x3 = true := hA.out 3 (by omega) (by omega)
    rw [q0, q1, q2, q3]
    simp)
   clear hA HK H
   by_cases c : x0 ≤ x2
   ·have cb : decide (x0 ≤ x2) = true := dt_ c
    rw [cb] at HR
    go_wp2
    go_ret
    exact ⟨bx_ret (by rw [← HR.out, Bool.true_and]), ba_ (Below.refl _ _) _⟩
   ·have cb : decide (x0 ≤ x2) = false := df_ c
    rw [cb] at HR
    go_wp2
    go_ret
    exact ⟨bx_ret (by rw [← HR.out, Bool.false_and]), ba_ (Below.refl _ _) _⟩

end Go.Proofs.YtbinlfichkdhlaaDoor.P
