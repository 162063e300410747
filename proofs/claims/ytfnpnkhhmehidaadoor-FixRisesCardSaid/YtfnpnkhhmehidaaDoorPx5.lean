-- Written by a program of this session (wip/tools/xprint.py, over the kit's print): Lean checks it.
import Derived.Test.YtfnpnkhhmehidaaDoorPx0
import Derived.Test.YtfnpnkhhmehidaaDoorPx1
import Derived.Test.YtfnpnkhhmehidaaDoorPx2
import Derived.Test.YtfnpnkhhmehidaaDoorPx4
namespace Go.Proofs.YtfnpnkhhmehidaaDoor.P
open Go.RowKit Go.Proofs.YtfnpnkhhmehidaaDoorW.PrintWords Go.Proofs.YtfnpnkhhmehidaaDoorW.PrintLast Go.Proofs.YtfnpnkhhmehidaaDoorW.PrintMore
attribute [local go_sem] max2_int min2_int max_two min_two max_three min_three max_four min_four   -- for this text's walks alone
set_option linter.unusedVariables false
set_option linter.unusedSimpArgs false

/-! ### fix_Div: function 16 -/
theorem fd_all2 {a b : Int} (h : fx_ok a = true) (h' : fx_ok b = true) : [a, b].all fx_ok = true := by simp [h, h']
theorem fd_bad2 {a b : Int} (h : ¬ (fx_ok a = true ∧ fx_ok b = true)) : [a, b].all fx_ok = false := by
 cases ha : fx_ok a <;> cases hb : fx_ok b <;> simp_all
theorem fd_bd {a : Int} (h : fx_ok a = true) : -1099511627776 ≤ a ∧ a ≤ 1099511627776 := od_ h
def fix_Div.f (a b : Int) : Option (Int × Int) := if fx_ok a = true ∧ fx_ok b = true then (if b = 0 then some (0, 2) else fix_rat.f a 1024 b) else some (0, 3)
set_option maxHeartbeats 2000000 in
theorem fix_Div.calls (a b r1 r2 : Int) (w : World) (hE : Aside0 (LaidE w)) (h : fix_Div.f a b = some (r1, r2)) :
  Calls Tryd.prog 16 #[.int .i64 a, .int .i64 b] w fun e w' => e = .returned (.tuple #[.int .i64 r1, .int .i64 r2]) ∧ Below w.heap.size w w' := by
 have hC : Kd.C (Kd.int .i64) (w.alloc (.cells #[.int .i64 a, .int .i64 b] 3)) (some ⟨w.heap.size, 0, none⟩) 2 [a, b] := fx_C w [a, b] (by simp)
 have hb1 : Below w.heap.size w (w.alloc (.cells #[.int .i64 a, .int .i64 b] 3)) := ba_ (Below.refl _ _) _
 unfold fix_Div.f at h
 by_cases c : fx_ok a = true ∧ fx_ok b = true
 ·rw [if_pos c] at h
  have HA := sd_ (fix_all_ok _ 2 [a, b] _ hC (fd_all2 c.1 c.2))
  have HB1 := sd_ hb1
  have ba := fd_bd c.1
  have bb := fd_bd c.2
  by_cases c2 : b = 0
  ·rw [if_pos c2] at h
   clear HB1 ba bb
   subst c2
   obtain ⟨rfl, rfl⟩ : 0 = r1 ∧ 2 = r2 := by simpa using h
   have hb2 : Below w.heap.size w ((w.alloc (.cells #[.int .i64 a, .int .i64 0] 3)).alloc (.cells #[.int .i64 2] 45)) := ba_ hb1 _
   have HO := sd_ (fix_out_err 0 (w.heap.size + 1) 2 _ (hE.out.below hb2) (by simp))
   have HB1 := sd_ hb2
   clear h hC hE hb1 hb2 c
   go_enter Tryd.func16, Tryd.ntmps16
   go_wp2_with (first | (go_at_call 27; refine HA.out.mono ?_; rintro e w' ⟨rfl, rfl⟩) | (go_at_call 28; refine HO.out.mono ?_; rintro e w' ⟨rfl, hb⟩; have HB := sd_ (below_then HB1.out HB1.out.size hb); clear hb))
   go_ret2
   exact ⟨rfl, HB.out⟩
  ·rw [if_neg c2] at h
   have cb2 : (b == 0) = false := beq_eq_false_iff_ne.mpr c2
   rcases fix_rat_two ba (show (-1099511627776 : Int) ≤ 1024 ∧ (1024 : Int) ≤ 1099511627776 by decide) ⟨bb.1, bb.2, c2⟩ h with ⟨s, hR, hO⟩ | ⟨hR, hO⟩
   ·have HR := sd_ hR
    have HO := sd_ hO
    clear hR hO h hC hb1 c ba bb c2
    go_enter Tryd.func16, Tryd.ntmps16
    go_wp2_with (first | (go_at_call 27; refine HA.out.mono ?_; rintro e w' ⟨rfl, rfl⟩) | (go_at_call 30; refine (HR.out _).mono ?_; rintro e w' ⟨rfl, hb⟩; have HB2 := sd_ (below_then HB1.out HB1.out.size hb); clear hb) | (go_at_call 28; refine (HO.out _ (hE.out.below HB2.out)).mono ?_; rintro e w' ⟨rfl, hb⟩; have HB := sd_ (below_then HB2.out HB2.out.size hb); clear hb))
    go_ret2
    exact ⟨rfl, HB.out⟩
   ·have HR := sd_ hR
    have HO := sd_ hO
    clear hR hO h hC hb1 c ba bb c2
    go_enter Tryd.func16, Tryd.ntmps16
    go_wp2_with (first | (go_at_call 27; refine HA.out.mono ?_; rintro e w' ⟨rfl, rfl⟩) | (go_at_call 30; refine (HR.out _).mono ?_; rintro e w' ⟨g, rfl, hg, hb⟩; have HG := sd_ hg; have HB2 := sd_ (below_then HB1.out HB1.out.size hb); clear hg hb) | (go_at_call 28; refine (HO.out _ _ (hE.out.below HB2.out) HG.out).mono ?_; rintro e w' ⟨rfl, hb⟩; have HB := sd_ (below_then HB2.out HB2.out.size hb); clear hb))
    go_ret2
    exact ⟨rfl, HB.out⟩
 ·rw [if_neg c] at h
  obtain ⟨rfl, rfl⟩ : 0 = r1 ∧ 3 = r2 := by simpa using h
  have hb2 : Below w.heap.size w ((w.alloc (.cells #[.int .i64 a, .int .i64 b] 3)).alloc (.cells #[.int .i64 3] 45)) := ba_ hb1 _
  have HA := sd_ (fix_all_bad _ 2 [a, b] _ hC (fd_bad2 c))
  have HO := sd_ (fix_out_err 0 (w.heap.size + 1) 3 _ (hE.out.below hb2) (by simp))
  have HB1 := sd_ hb2
  clear h hC hE hb1 hb2 c
  go_enter Tryd.func16, Tryd.ntmps16
  go_wp2_with (first | (go_at_call 27; refine HA.out.mono ?_; rintro e w' ⟨rfl, rfl⟩) | (go_at_call 28; refine HO.out.mono ?_; rintro e w' ⟨rfl, hb⟩; have HB := sd_ (below_then HB1.out HB1.out.size hb); clear hb))
  go_ret2
  exact ⟨rfl, HB.out⟩

/-! ### fix_Scale: function 18 -/
def fix_Scale.f (a n d : Int) : Option (Int × Int) := if fx_ok a = true then (if n < -1048576 ∨ n > 1048576 ∨ d < 1 ∨ d > 1048576 then some (0, 2) else fix_rat.f a n d) else some (0, 3)
set_option maxHeartbeats 4000000 in
theorem fix_Scale.calls (a n d r1 r2 : Int) (w : World) (hE : Aside0 (LaidE w)) (h : fix_Scale.f a n d = some (r1, r2)) :
  Calls Tryd.prog 18 #[.int .i64 a, .int .i64 n, .int .i64 d] w fun e w' => e = .returned (.tuple #[.int .i64 r1, .int .i64 r2]) ∧ Below w.heap.size w w' := by
 have hC : Kd.C (Kd.int .i64) (w.alloc (.cells #[.int .i64 a] 3)) (some ⟨w.heap.size, 0, none⟩) 1 [a] := fx_C w [a] (by simp)
 have hb1 : Below w.heap.size w (w.alloc (.cells #[.int .i64 a] 3)) := ba_ (Below.refl _ _) _
 unfold fix_Scale.f at h
 by_cases c : fx_ok a = true
 ·rw [if_pos c] at h
  have HA := sd_ (fix_all_ok _ 1 [a] _ hC (by simp [c]))
  have HB1 := sd_ hb1
  have ba : -1099511627776 ≤ a ∧ a ≤ 1099511627776 := od_ c
  by_cases c2 : n < -1048576 ∨ n > 1048576 ∨ d < 1 ∨ d > 1048576
  ·rw [if_pos c2] at h
   clear HB1 ba
   have cc : decide (n < -1048576) = true ∨ (decide (n < -1048576) = false ∧ decide ((1048576 : Int) < n) = true) ∨ (decide (n < -1048576) = false ∧ decide ((1048576 : Int) < n) = false ∧ decide (d < 1) = true) ∨ (decide (n < -1048576) = false ∧ decide ((1048576 : Int) < n) = false ∧ decide (d < 1) = false ∧ decide ((1048576 : Int) < d) = true) := by
    simp only [decide_eq_true_eq, decide_eq_false_iff_not]
    omega
   clear c2
   obtain ⟨rfl, rfl⟩ : 0 = r1 ∧ 2 = r2 := by simpa using h
   have hb2 : Below w.heap.size w ((w.alloc (.cells #[.int .i64 a] 3)).alloc (.cells #[.int .i64 2] 45)) := ba_ hb1 _
   have HO := sd_ (fix_out_err 0 (w.heap.size + 1) 2 _ (hE.out.below hb2) (by simp))
   have HB1 := sd_ hb2
   clear h hC hE hb1 hb2 c
   rcases cc with c1 | ⟨c1, c2⟩ | ⟨c1, c2, c3⟩ | ⟨c1, c2, c3, c4⟩
   all_goals
    go_enter Tryd.func18, Tryd.ntmps18
    go_wp2_with (first | (go_at_call 27; refine HA.out.mono ?_; rintro e w' ⟨rfl, rfl⟩) | (go_at_call 28; refine HO.out.mono ?_; rintro e w' ⟨rfl, hb⟩; have HB := sd_ (below_then HB1.out HB1.out.size hb); clear hb))
    go_ret2
    exact ⟨rfl, HB.out⟩
  ·rw [if_neg c2] at h
   have c21 : decide (n < -1048576) = false := df_ (by omega)
   have c22 : decide ((1048576 : Int) < n) = false := df_ (by omega)
   have c23 : decide (d < 1) = false := df_ (by omega)
   have c24 : decide ((1048576 : Int) < d) = false := df_ (by omega)
   have bn : -1099511627776 ≤ n ∧ n ≤ 1099511627776 := by omega
   have bd : -1099511627776 ≤ d ∧ d ≤ 1099511627776 ∧ d ≠ 0 := by omega
   rcases fix_rat_two ba bn bd h with ⟨s, hR, hO⟩ | ⟨hR, hO⟩
   ·have HR := sd_ hR
    have HO := sd_ hO
    clear hR hO h hC hb1 c ba bn bd c2
    go_enter Tryd.func18, Tryd.ntmps18
    go_wp2_with (first | (go_at_call 27; refine HA.out.mono ?_; rintro e w' ⟨rfl, rfl⟩) | (go_at_call 30; refine (HR.out _).mono ?_; rintro e w' ⟨rfl, hb⟩; have HB2 := sd_ (below_then HB1.out HB1.out.size hb); clear hb) | (go_at_call 28; refine (HO.out _ (hE.out.below HB2.out)).mono ?_; rintro e w' ⟨rfl, hb⟩; have HB := sd_ (below_then HB2.out HB2.out.size hb); clear hb))
    go_ret2
    exact ⟨rfl, HB.out⟩
   ·have HR := sd_ hR
    have HO := sd_ hO
    clear hR hO h hC hb1 c ba bn bd c2
    go_enter Tryd.func18, Tryd.ntmps18
    go_wp2_with (first | (go_at_call 27; refine HA.out.mono ?_; rintro e w' ⟨rfl, rfl⟩) | (go_at_call 30; refine (HR.out _).mono ?_; rintro e w' ⟨g, rfl, hg, hb⟩; have HG := sd_ hg; have HB2 := sd_ (below_then HB1.out HB1.out.size hb); clear hg hb) | (go_at_call 28; refine (HO.out _ _ (hE.out.below HB2.out) HG.out).mono ?_; rintro e w' ⟨rfl, hb⟩; have HB := sd_ (below_then HB2.out HB2.out.size hb); clear hb))
    go_ret2
    exact ⟨rfl, HB.out⟩
 ·rw [if_neg c] at h
  obtain ⟨rfl, rfl⟩ : 0 = r1 ∧ 3 = r2 := by simpa using h
  have hb2 : Below w.heap.size w ((w.alloc (.cells #[.int .i64 a] 3)).alloc (.cells #[.int .i64 3] 45)) := ba_ hb1 _
  have HA := sd_ (fix_all_bad _ 1 [a] _ hC (by simp [c]))
  have HO := sd_ (fix_out_err 0 (w.heap.size + 1) 3 _ (hE.out.below hb2) (by simp))
  have HB1 := sd_ hb2
  clear h hC hE hb1 hb2 c
  go_enter Tryd.func18, Tryd.ntmps18
  go_wp2_with (first | (go_at_call 27; refine HA.out.mono ?_; rintro e w' ⟨rfl, rfl⟩) | (go_at_call 28; refine HO.out.mono ?_; rintro e w' ⟨rfl, hb⟩; have HB := sd_ (below_then HB1.out HB1.out.size hb); clear hb))
  go_ret2
  exact ⟨rfl, HB.out⟩

/-! ### neumelaw01_heads: function 20 -/
def neumelaw01_heads.f (k : Nat)  : Option (Bool) := (fix_Mul.f 1536 1024).bind fun bt106 => ((fix_Div.f 1024 2048).bind fun bt108 => ((fix_Scale.f 10 1 4).bind fun bt110 => ((fix_Add.f 1099511627776 1).bind fun bt112 => ((fix_Div.f 1 0).bind fun bt114 => ((fix_Sub.f 3 5).bind fun bt116 => ((fix_Ok.f 5).bind fun t118 => (if t118 = true then ((fix_Ok.f 1099511627777).bind fun t119 => (if t119 = true then (some false) else (if bt106.1 = 1536 then (if bt106.2 = 0 then (if bt108.1 = 512 then (if bt108.2 = 0 then (if bt110.1 = 3 then (if bt110.2 = 0 then (if bt112.2 = 3 then (if bt114.2 = 2 then (if bt116.1 = (-2) then (if bt116.2 = 0 then ((fix_Cost.f 1125899906842624 7).bind fun t120 => (if t120 = 1125899906842624 then ((fix_Square.f (-5)).bind fun t121 => (if t121 = 25 then ((fix_Root.f k 26).bind fun t122 => (some (t122 == 5))) else (some false))) else (some false))) else (some false)) else (some false)) else (some false)) else (some false)) else (some false)) else (some false)) else (some false)) else (some false)) else (some false)) else (some false)))) else (some false))))))))
theorem neumelaw01_heads.mono : ∀ k, LeO (neumelaw01_heads.f k ) (neumelaw01_heads.f (k + 1) ) := by
 intro  k
 unfold neumelaw01_heads.f
 repeat' first
   | (with_reducible exact fix_Root.mono _ _)
   | (with_reducible exact LeO.refl _)
   | (with_reducible exact LeO.none _)
   | (with_reducible refine LeO.ite ?_ ?_)
   | (with_reducible refine LeO.bind ?_ (fun _ => ?_))
   | exact fix_Root.mono _ _
   | exact LeO.none _
   | refine LeO.ite ?_ ?_
   | refine LeO.bind ?_ (fun _ => ?_)
set_option maxHeartbeats 8000000 in
set_option maxRecDepth 100000 in
theorem neumelaw01_heads.callsT (k : Nat)  (r : Bool) (w : World) (hE : Aside0 (LaidE w)) (hxt : Aside0 (r = true)) (h : neumelaw01_heads.f k  = some r) :
  Calls Tryd.prog 20 #[] w fun e w' => e = .returned (.bool r) ∧ Below w.heap.size w w' := by
 have HB := sd_ (Below.refl w.heap.size w)
 have H : ((fix_Mul.f 1536 1024).bind fun bt106 => ((fix_Div.f 1024 2048).bind fun bt108 => ((fix_Scale.f 10 1 4).bind fun bt110 => ((fix_Add.f 1099511627776 1).bind fun bt112 => ((fix_Div.f 1 0).bind fun bt114 => ((fix_Sub.f 3 5).bind fun bt116 => ((fix_Ok.f 5).bind fun t118 => (if t118 = true then ((fix_Ok.f 1099511627777).bind fun t119 => (if t119 = true then (some false) else (if bt106.1 = 1536 then (if bt106.2 = 0 then (if bt108.1 = 512 then (if bt108.2 = 0 then (if bt110.1 = 3 then (if bt110.2 = 0 then (if bt112.2 = 3 then (if bt114.2 = 2 then (if bt116.1 = (-2) then (if bt116.2 = 0 then ((fix_Cost.f 1125899906842624 7).bind fun t120 => (if t120 = 1125899906842624 then ((fix_Square.f (-5)).bind fun t121 => (if t121 = 25 then ((fix_Root.f k 26).bind fun t122 => (some (t122 == 5))) else (some false))) else (some false))) else (some false)) else (some false)) else (some false)) else (some false)) else (some false)) else (some false)) else (some false)) else (some false)) else (some false)) else (some false)))) else (some false))))))))) = some r := h
 clear h
 replace H := ob_ H
 obtain ⟨⟨t106, t107⟩, A10, H⟩ := H
 replace H : ((fix_Div.f 1024 2048).bind fun bt108 => ((fix_Scale.f 10 1 4).bind fun bt110 => ((fix_Add.f 1099511627776 1).bind fun bt112 => ((fix_Div.f 1 0).bind fun bt114 => ((fix_Sub.f 3 5).bind fun bt116 => ((fix_Ok.f 5).bind fun t118 => (if t118 = true then ((fix_Ok.f 1099511627777).bind fun t119 => (if t119 = true then (some false) else (if t106 = 1536 then (if t107 = 0 then (if bt108.1 = 512 then (if bt108.2 = 0 then (if bt110.1 = 3 then (if bt110.2 = 0 then (if bt112.2 = 3 then (if bt114.2 = 2 then (if bt116.1 = (-2) then (if bt116.2 = 0 then ((fix_Cost.f 1125899906842624 7).bind fun t120 => (if t120 = 1125899906842624 then ((fix_Square.f (-5)).bind fun t121 => (if t121 = 25 then ((fix_Root.f k 26).bind fun t122 => (some (t122 == 5))) else (some false))) else (some false))) else (some false)) else (some false)) else (some false)) else (some false)) else (some false)) else (some false)) else (some false)) else (some false)) else (some false)) else (some false)))) else (some false)))))))) = some r := H
 have A1 := sd_ A10
 clear A10
 replace H := ob_ H
 obtain ⟨⟨t108, t109⟩, A20, H⟩ := H
 replace H : ((fix_Scale.f 10 1 4).bind fun bt110 => ((fix_Add.f 1099511627776 1).bind fun bt112 => ((fix_Div.f 1 0).bind fun bt114 => ((fix_Sub.f 3 5).bind fun bt116 => ((fix_Ok.f 5).bind fun t118 => (if t118 = true then ((fix_Ok.f 1099511627777).bind fun t119 => (if t119 = true then (some false) else (if t106 = 1536 then (if t107 = 0 then (if t108 = 512 then (if t109 = 0 then (if bt110.1 = 3 then (if bt110.2 = 0 then (if bt112.2 = 3 then (if bt114.2 = 2 then (if bt116.1 = (-2) then (if bt116.2 = 0 then ((fix_Cost.f 1125899906842624 7).bind fun t120 => (if t120 = 1125899906842624 then ((fix_Square.f (-5)).bind fun t121 => (if t121 = 25 then ((fix_Root.f k 26).bind fun t122 => (some (t122 == 5))) else (some false))) else (some false))) else (some false)) else (some false)) else (some false)) else (some false)) else (some false)) else (some false)) else (some false)) else (some false)) else (some false)) else (some false)))) else (some false))))))) = some r := H
 have A2 := sd_ A20
 clear A20
 replace H := ob_ H
 obtain ⟨⟨t110, t111⟩, A30, H⟩ := H
 replace H : ((fix_Add.f 1099511627776 1).bind fun bt112 => ((fix_Div.f 1 0).bind fun bt114 => ((fix_Sub.f 3 5).bind fun bt116 => ((fix_Ok.f 5).bind fun t118 => (if t118 = true then ((fix_Ok.f 1099511627777).bind fun t119 => (if t119 = true then (some false) else (if t106 = 1536 then (if t107 = 0 then (if t108 = 512 then (if t109 = 0 then (if t110 = 3 then (if t111 = 0 then (if bt112.2 = 3 then (if bt114.2 = 2 then (if bt116.1 = (-2) then (if bt116.2 = 0 then ((fix_Cost.f 1125899906842624 7).bind fun t120 => (if t120 = 1125899906842624 then ((fix_Square.f (-5)).bind fun t121 => (if t121 = 25 then ((fix_Root.f k 26).bind fun t122 => (some (t122 == 5))) else (some false))) else (some false))) else (some false)) else (some false)) else (some false)) else (some false)) else (some false)) else (some false)) else (some false)) else (some false)) else (some false)) else (some false)))) else (some false)))))) = some r := H
 have A3 := sd_ A30
 clear A30
 replace H := ob_ H
 obtain ⟨⟨t112, t113⟩, A40, H⟩ := H
 replace H : ((fix_Div.f 1 0).bind fun bt114 => ((fix_Sub.f 3 5).bind fun bt116 => ((fix_Ok.f 5).bind fun t118 => (if t118 = true then ((fix_Ok.f 1099511627777).bind fun t119 => (if t119 = true then (some false) else (if t106 = 1536 then (if t107 = 0 then (if t108 = 512 then (if t109 = 0 then (if t110 = 3 then (if t111 = 0 then (if t113 = 3 then (if bt114.2 = 2 then (if bt116.1 = (-2) then (if bt116.2 = 0 then ((fix_Cost.f 1125899906842624 7).bind fun t120 => (if t120 = 1125899906842624 then ((fix_Square.f (-5)).bind fun t121 => (if t121 = 25 then ((fix_Root.f k 26).bind fun t122 => (some (t122 == 5))) else (some false))) else (some false))) else (some false)) else (some false)) else (some false)) else (some false)) else (some false)) else (some false)) else (some false)) else (some false)) else (some false)) else (some false)))) else (some false))))) = some r := H
 have A4 := sd_ A40
 clear A40
 replace H := ob_ H
 obtain ⟨⟨t114, t115⟩, A50, H⟩ := H
 replace H : ((fix_Sub.f 3 5).bind fun bt116 => ((fix_Ok.f 5).bind fun t118 => (if t118 = true then ((fix_Ok.f 1099511627777).bind fun t119 => (if t119 = true then (some false) else (if t106 = 1536 then (if t107 = 0 then (if t108 = 512 then (if t109 = 0 then (if t110 = 3 then (if t111 = 0 then (if t113 = 3 then (if t115 = 2 then (if bt116.1 = (-2) then (if bt116.2 = 0 then ((fix_Cost.f 1125899906842624 7).bind fun t120 => (if t120 = 1125899906842624 then ((fix_Square.f (-5)).bind fun t121 => (if t121 = 25 then ((fix_Root.f k 26).bind fun t122 => (some (t122 == 5))) else (some false))) else (some false))) else (some false)) else (some false)) else (some false)) else (some false)) else (some false)) else (some false)) else (some false)) else (some false)) else (some false)) else (some false)))) else (some false)))) = some r := H
 have A5 := sd_ A50
 clear A50
 replace H := ob_ H
 obtain ⟨⟨t116, t117⟩, A60, H⟩ := H
 replace H : ((fix_Ok.f 5).bind fun t118 => (if t118 = true then ((fix_Ok.f 1099511627777).bind fun t119 => (if t119 = true then (some false) else (if t106 = 1536 then (if t107 = 0 then (if t108 = 512 then (if t109 = 0 then (if t110 = 3 then (if t111 = 0 then (if t113 = 3 then (if t115 = 2 then (if t116 = (-2) then (if t117 = 0 then ((fix_Cost.f 1125899906842624 7).bind fun t120 => (if t120 = 1125899906842624 then ((fix_Square.f (-5)).bind fun t121 => (if t121 = 25 then ((fix_Root.f k 26).bind fun t122 => (some (t122 == 5))) else (some false))) else (some false))) else (some false)) else (some false)) else (some false)) else (some false)) else (some false)) else (some false)) else (some false)) else (some false)) else (some false)) else (some false)))) else (some false))) = some r := H
 have A6 := sd_ A60
 clear A60
 replace H := ob_ H
 obtain ⟨t118, A70, H⟩ := H
 replace H : (if t118 = true then ((fix_Ok.f 1099511627777).bind fun t119 => (if t119 = true then (some false) else (if t106 = 1536 then (if t107 = 0 then (if t108 = 512 then (if t109 = 0 then (if t110 = 3 then (if t111 = 0 then (if t113 = 3 then (if t115 = 2 then (if t116 = (-2) then (if t117 = 0 then ((fix_Cost.f 1125899906842624 7).bind fun t120 => (if t120 = 1125899906842624 then ((fix_Square.f (-5)).bind fun t121 => (if t121 = 25 then ((fix_Root.f k 26).bind fun t122 => (some (t122 == 5))) else (some false))) else (some false))) else (some false)) else (some false)) else (some false)) else (some false)) else (some false)) else (some false)) else (some false)) else (some false)) else (some false)) else (some false)))) else (some false)) = some r := H
 have A7 := sd_ A70
 clear A70
 by_cases c8 : t118 = true
 ·subst c8
  have H1 : ((fix_Ok.f 1099511627777).bind fun t119 => (if t119 = true then (some false) else (if t106 = 1536 then (if t107 = 0 then (if t108 = 512 then (if t109 = 0 then (if t110 = 3 then (if t111 = 0 then (if t113 = 3 then (if t115 = 2 then (if t116 = (-2) then (if t117 = 0 then ((fix_Cost.f 1125899906842624 7).bind fun t120 => (if t120 = 1125899906842624 then ((fix_Square.f (-5)).bind fun t121 => (if t121 = 25 then ((fix_Root.f k 26).bind fun t122 => (some (t122 == 5))) else (some false))) else (some false))) else (some false)) else (some false)) else (some false)) else (some false)) else (some false)) else (some false)) else (some false)) else (some false)) else (some false)) else (some false)))) = some r := by rw [if_pos rfl] at H; exact H
  clear H; have H := H1; clear H1
  replace H := ob_ H
  obtain ⟨t119, A90, H⟩ := H
  replace H : (if t119 = true then (some false) else (if t106 = 1536 then (if t107 = 0 then (if t108 = 512 then (if t109 = 0 then (if t110 = 3 then (if t111 = 0 then (if t113 = 3 then (if t115 = 2 then (if t116 = (-2) then (if t117 = 0 then ((fix_Cost.f 1125899906842624 7).bind fun t120 => (if t120 = 1125899906842624 then ((fix_Square.f (-5)).bind fun t121 => (if t121 = 25 then ((fix_Root.f k 26).bind fun t122 => (some (t122 == 5))) else (some false))) else (some false))) else (some false)) else (some false)) else (some false)) else (some false)) else (some false)) else (some false)) else (some false)) else (some false)) else (some false)) else (some false))) = some r := H
  have A9 := sd_ A90
  clear A90
  by_cases c10 : t119 = true
  ·subst c10
   have H1 : (some false) = some r := by rw [if_pos rfl] at H; exact H
   clear H; have H := H1; clear H1
   exact absurd ((Option.some.inj H).trans hxt.out) (by decide)
  ·replace c10 := bf_ c10
   subst c10
   have H1 : (if t106 = 1536 then (if t107 = 0 then (if t108 = 512 then (if t109 = 0 then (if t110 = 3 then (if t111 = 0 then (if t113 = 3 then (if t115 = 2 then (if t116 = (-2) then (if t117 = 0 then ((fix_Cost.f 1125899906842624 7).bind fun t120 => (if t120 = 1125899906842624 then ((fix_Square.f (-5)).bind fun t121 => (if t121 = 25 then ((fix_Root.f k 26).bind fun t122 => (some (t122 == 5))) else (some false))) else (some false))) else (some false)) else (some false)) else (some false)) else (some false)) else (some false)) else (some false)) else (some false)) else (some false)) else (some false)) else (some false)) = some r := by rw [if_neg (show ¬ (false = true) by decide)] at H; exact H
   clear H; have H := H1; clear H1
   by_cases c11 : t106 = 1536
   ·rw [if_pos c11] at H
    have c11b0 : (t106 == 1536) = true := beq_iff_eq.mpr c11
    have c11b1 : (t106 != 1536) = false := bne_eq_false_iff_eq.mpr c11
    clear c11
    by_cases c12 : t107 = 0
    ·rw [if_pos c12] at H
     have c12b0 : (t107 == 0) = true := beq_iff_eq.mpr c12
     have c12b1 : (t107 != 0) = false := bne_eq_false_iff_eq.mpr c12
     clear c12
     by_cases c13 : t108 = 512
     ·rw [if_pos c13] at H
      have c13b0 : (t108 == 512) = true := beq_iff_eq.mpr c13
      have c13b1 : (t108 != 512) = false := bne_eq_false_iff_eq.mpr c13
      clear c13
      by_cases c14 : t109 = 0
      ·rw [if_pos c14] at H
       have c14b0 : (t109 == 0) = true := beq_iff_eq.mpr c14
       have c14b1 : (t109 != 0) = false := bne_eq_false_iff_eq.mpr c14
       clear c14
       by_cases c15 : t110 = 3
       ·rw [if_pos c15] at H
        have c15b0 : (t110 == 3) = true := beq_iff_eq.mpr c15
        have c15b1 : (t110 != 3) = false := bne_eq_false_iff_eq.mpr c15
        clear c15
        by_cases c16 : t111 = 0
        ·rw [if_pos c16] at H
         have c16b0 : (t111 == 0) = true := beq_iff_eq.mpr c16
         have c16b1 : (t111 != 0) = false := bne_eq_false_iff_eq.mpr c16
         clear c16
         by_cases c17 : t113 = 3
         ·rw [if_pos c17] at H
          have c17b0 : (t113 == 3) = true := beq_iff_eq.mpr c17
          have c17b1 : (t113 != 3) = false := bne_eq_false_iff_eq.mpr c17
          clear c17
          by_cases c18 : t115 = 2
          ·rw [if_pos c18] at H
           have c18b0 : (t115 == 2) = true := beq_iff_eq.mpr c18
           have c18b1 : (t115 != 2) = false := bne_eq_false_iff_eq.mpr c18
           clear c18
           by_cases c19 : t116 = (-2)
           ·rw [if_pos c19] at H
            have c19b0 : (t116 == (-2)) = true := beq_iff_eq.mpr c19
            have c19b1 : (t116 != (-2)) = false := bne_eq_false_iff_eq.mpr c19
            clear c19
            by_cases c20 : t117 = 0
            ·rw [if_pos c20] at H
             have c20b0 : (t117 == 0) = true := beq_iff_eq.mpr c20
             have c20b1 : (t117 != 0) = false := bne_eq_false_iff_eq.mpr c20
             clear c20
             replace H := ob_ H
             obtain ⟨t120, A210, H⟩ := H
             replace H : (if t120 = 1125899906842624 then ((fix_Square.f (-5)).bind fun t121 => (if t121 = 25 then ((fix_Root.f k 26).bind fun t122 => (some (t122 == 5))) else (some false))) else (some false)) = some r := H
             have A21 := sd_ A210
             clear A210
             by_cases c22 : t120 = 1125899906842624
             ·rw [if_pos c22] at H
              have c22b0 : (t120 == 1125899906842624) = true := beq_iff_eq.mpr c22
              have c22b1 : (t120 != 1125899906842624) = false := bne_eq_false_iff_eq.mpr c22
              clear c22
              replace H := ob_ H
              obtain ⟨t121, A230, H⟩ := H
              replace H : (if t121 = 25 then ((fix_Root.f k 26).bind fun t122 => (some (t122 == 5))) else (some false)) = some r := H
              have A23 := sd_ A230
              clear A230
              by_cases c24 : t121 = 25
              ·rw [if_pos c24] at H
               have c24b0 : (t121 == 25) = true := beq_iff_eq.mpr c24
               have c24b1 : (t121 != 25) = false := bne_eq_false_iff_eq.mpr c24
               clear c24
               replace H := ob_ H
               obtain ⟨t122, A250, H⟩ := H
               replace H : (some (t122 == 5)) = some r := H
               have A25 := sd_ A250
               clear A250
               obtain rfl := Option.some.inj H
               go_enter Tryd.func20, Tryd.ntmps20
               go_wp2_with (first | ((with_reducible refine gate_callee (f := 14) rfl ?_); refine goesL_ (some 14) rfl rfl Tryd.func14 (by kernel_rfl) rfl #[.int .i64 1536, .int .i64 1024] rfl (by (try simp only [lm_, lq_, lx_]); first | done | rfl | (simp only [ld_, lt_]; rfl)) ?_; (with_reducible refine (fix_Mul.calls 1536 1024 t106 t107 _ ?side1 A1.out).mono ?_); (case side1 => first | exact hE | exact sd_ (LaidE.below hE.out (by repeat first | exact HB.out | apply ba_ | apply pd_ | apply d1_))); rintro e w26 ⟨rfl, hb⟩; refine ⟨_, rfl, ?_⟩; have n0_ := sd_ (bt_ (by repeat first | exact HB.out | apply ba_ | apply pd_ | apply d1_) hb); clear HB; have HB := n0_; clear n0_; (try clear hb); (try clear hb2); (try clear hk); (try clear hi)) | ((with_reducible refine gate_callee (f := 16) rfl ?_); refine goesL_ (some 18) rfl rfl Tryd.func16 (by kernel_rfl) rfl #[.int .i64 1024, .int .i64 2048] rfl (by (try simp only [lm_, lq_, lx_]); first | done | rfl | (simp only [ld_, lt_]; rfl)) ?_; (with_reducible refine (fix_Div.calls 1024 2048 t108 t109 _ ?side1 A2.out).mono ?_); (case side1 => first | exact hE | exact sd_ (LaidE.below hE.out (by repeat first | exact HB.out | apply ba_ | apply pd_ | apply d1_))); rintro e w27 ⟨rfl, hb⟩; refine ⟨_, rfl, ?_⟩; have n0_ := sd_ (bt_ (by repeat first | exact HB.out | apply ba_ | apply pd_ | apply d1_) hb); clear HB; have HB := n0_; clear n0_; (try clear hb); (try clear hb2); (try clear hk); (try clear hi)) | ((with_reducible refine gate_callee (f := 18) rfl ?_); refine goesL_ (some 22) rfl rfl Tryd.func18 (by kernel_rfl) rfl #[.int .i64 10, .int .i64 1, .int .i64 4] rfl (by (try simp only [lm_, lq_, lx_]); first | done | rfl | (simp only [ld_, lt_]; rfl)) ?_; (with_reducible refine (fix_Scale.calls 10 1 4 t110 t111 _ ?side1 A3.out).mono ?_); (case side1 => first | exact hE | exact sd_ (LaidE.below hE.out (by repeat first | exact HB.out | apply ba_ | apply pd_ | apply d1_))); rintro e w28 ⟨rfl, hb⟩; refine ⟨_, rfl, ?_⟩; have n0_ := sd_ (bt_ (by repeat first | exact HB.out | apply ba_ | apply pd_ | apply d1_) hb); clear HB; have HB := n0_; clear n0_; (try clear hb); (try clear hb2); (try clear hk); (try clear hi)) | ((with_reducible refine gate_callee (f := 8) rfl ?_); refine goesL_ (some 26) rfl rfl Tryd.func8 (by kernel_rfl) rfl #[.int .i64 1099511627776, .int .i64 1] rfl (by (try simp only [lm_, lq_, lx_]); first | done | rfl | (simp only [ld_, lt_]; rfl)) ?_; (with_reducible refine (fix_Add.calls 1099511627776 1 t112 t113 _ ?side1 A4.out).mono ?_); (case side1 => first | exact hE | exact sd_ (LaidE.below hE.out (by repeat first | exact HB.out | apply ba_ | apply pd_ | apply d1_))); rintro e w29 ⟨rfl, hb⟩; refine ⟨_, rfl, ?_⟩; have n0_ := sd_ (bt_ (by repeat first | exact HB.out | apply ba_ | apply pd_ | apply d1_) hb); clear HB; have HB := n0_; clear n0_; (try clear hb); (try clear hb2); (try clear hk); (try clear hi)) | ((with_reducible refine gate_callee (f := 16) rfl ?_); refine goesL_ (some 30) rfl rfl Tryd.func16 (by kernel_rfl) rfl #[.int .i64 1, .int .i64 0] rfl (by (try simp only [lm_, lq_, lx_]); first | done | rfl | (simp only [ld_, lt_]; rfl)) ?_; (with_reducible refine (fix_Div.calls 1 0 t114 t115 _ ?side1 A5.out).mono ?_); (case side1 => first | exact hE | exact sd_ (LaidE.below hE.out (by repeat first | exact HB.out | apply ba_ | apply pd_ | apply d1_))); rintro e w30 ⟨rfl, hb⟩; refine ⟨_, rfl, ?_⟩; have n0_ := sd_ (bt_ (by repeat first | exact HB.out | apply ba_ | apply pd_ | apply d1_) hb); clear HB; have HB := n0_; clear n0_; (try clear hb); (try clear hb2); (try clear hk); (try clear hi)) | ((with_reducible refine gate_callee (f := 10) rfl ?_); refine goesL_ (some 34) rfl rfl Tryd.func10 (by kernel_rfl) rfl #[.int .i64 3, .int .i64 5] rfl (by (try simp only [lm_, lq_, lx_]); first | done | rfl | (simp only [ld_, lt_]; rfl)) ?_; (with_reducible refine (fix_Sub.calls 3 5 t116 t117 _ ?side1 A6.out).mono ?_); (case side1 => first | exact hE | exact sd_ (LaidE.below hE.out (by repeat first | exact HB.out | apply ba_ | apply pd_ | apply d1_))); rintro e w31 ⟨rfl, hb⟩; refine ⟨_, rfl, ?_⟩; have n0_ := sd_ (bt_ (by repeat first | exact HB.out | apply ba_ | apply pd_ | apply d1_) hb); clear HB; have HB := n0_; clear n0_; (try clear hb); (try clear hb2); (try clear hk); (try clear hi)) | ((with_reducible refine gate_callee (f := 12) rfl ?_); refine goesL_ (some 37) rfl rfl Tryd.func12 (by kernel_rfl) rfl #[.int .i64 5] rfl (by (try simp only [lm_, lq_, lx_]); first | done | rfl | (simp only [ld_, lt_]; rfl)) ?_; (with_reducible refine (fix_Ok.calls 5 true _ A7.out).mono ?_); rintro e w' ⟨rfl, ⟨nd, rfl⟩⟩; refine ⟨_, rfl, ?_⟩) | (go_at_call 12; (with_reducible refine (fix_Ok.calls 1099511627777 false _ A9.out).mono ?_); rintro e w' ⟨rfl, ⟨nd, rfl⟩⟩) | (go_at_call 21; (with_reducible refine (fix_Cost.calls 1125899906842624 7 t120 _ A21.out).mono ?_); rintro e w32 ⟨rfl, hb⟩; have n0_ := sd_ (bt_ (by repeat first | exact HB.out | apply ba_ | apply pd_ | apply d1_) hb); clear HB; have HB := n0_; clear n0_; (try clear hb); (try clear hb2); (try clear hk); (try clear hi)) | (go_at_call 23; (with_reducible refine (fix_Square.calls (-5) t121 _ A23.out).mono ?_); rintro e w33 ⟨rfl, hb⟩; have n0_ := sd_ (bt_ (by repeat first | exact HB.out | apply ba_ | apply pd_ | apply d1_) hb); clear HB; have HB := n0_; clear n0_; (try clear hb); (try clear hb2); (try clear hk); (try clear hi)) | (go_at_call 25; (with_reducible refine (fix_Root.calls k 26 t122 _ A25.out).mono ?_); rintro e w' ⟨rfl, ⟨nd, rfl⟩⟩))
               go_ret
               exact ⟨by first | rfl | (simp [errW_none, errW_some] <;> rfl) | (simp [*, errW_none, errW_some] <;> rfl), by repeat first | exact HB.out | apply ba_ | apply pd_ | apply d1_⟩
              ·rw [if_neg c24] at H
               have c24b0 : (t121 == 25) = false := beq_eq_false_iff_ne.mpr c24
               have c24b1 : (t121 != 25) = true := bne_iff_ne.mpr c24
               exact absurd ((Option.some.inj H).trans hxt.out) (by decide)
             ·rw [if_neg c22] at H
              have c22b0 : (t120 == 1125899906842624) = false := beq_eq_false_iff_ne.mpr c22
              have c22b1 : (t120 != 1125899906842624) = true := bne_iff_ne.mpr c22
              exact absurd ((Option.some.inj H).trans hxt.out) (by decide)
            ·rw [if_neg c20] at H
             have c20b0 : (t117 == 0) = false := beq_eq_false_iff_ne.mpr c20
             have c20b1 : (t117 != 0) = true := bne_iff_ne.mpr c20
             exact absurd ((Option.some.inj H).trans hxt.out) (by decide)
           ·rw [if_neg c19] at H
            have c19b0 : (t116 == (-2)) = false := beq_eq_false_iff_ne.mpr c19
            have c19b1 : (t116 != (-2)) = true := bne_iff_ne.mpr c19
            exact absurd ((Option.some.inj H).trans hxt.out) (by decide)
          ·rw [if_neg c18] at H
           have c18b0 : (t115 == 2) = false := beq_eq_false_iff_ne.mpr c18
           have c18b1 : (t115 != 2) = true := bne_iff_ne.mpr c18
           exact absurd ((Option.some.inj H).trans hxt.out) (by decide)
         ·rw [if_neg c17] at H
          have c17b0 : (t113 == 3) = false := beq_eq_false_iff_ne.mpr c17
          have c17b1 : (t113 != 3) = true := bne_iff_ne.mpr c17
          exact absurd ((Option.some.inj H).trans hxt.out) (by decide)
        ·rw [if_neg c16] at H
         have c16b0 : (t111 == 0) = false := beq_eq_false_iff_ne.mpr c16
         have c16b1 : (t111 != 0) = true := bne_iff_ne.mpr c16
         exact absurd ((Option.some.inj H).trans hxt.out) (by decide)
       ·rw [if_neg c15] at H
        have c15b0 : (t110 == 3) = false := beq_eq_false_iff_ne.mpr c15
        have c15b1 : (t110 != 3) = true := bne_iff_ne.mpr c15
        exact absurd ((Option.some.inj H).trans hxt.out) (by decide)
      ·rw [if_neg c14] at H
       have c14b0 : (t109 == 0) = false := beq_eq_false_iff_ne.mpr c14
       have c14b1 : (t109 != 0) = true := bne_iff_ne.mpr c14
       exact absurd ((Option.some.inj H).trans hxt.out) (by decide)
     ·rw [if_neg c13] at H
      have c13b0 : (t108 == 512) = false := beq_eq_false_iff_ne.mpr c13
      have c13b1 : (t108 != 512) = true := bne_iff_ne.mpr c13
      exact absurd ((Option.some.inj H).trans hxt.out) (by decide)
    ·rw [if_neg c12] at H
     have c12b0 : (t107 == 0) = false := beq_eq_false_iff_ne.mpr c12
     have c12b1 : (t107 != 0) = true := bne_iff_ne.mpr c12
     exact absurd ((Option.some.inj H).trans hxt.out) (by decide)
   ·rw [if_neg c11] at H
    have c11b0 : (t106 == 1536) = false := beq_eq_false_iff_ne.mpr c11
    have c11b1 : (t106 != 1536) = true := bne_iff_ne.mpr c11
    exact absurd ((Option.some.inj H).trans hxt.out) (by decide)
 ·replace c8 := bf_ c8
  subst c8
  have H1 : (some false) = some r := by rw [if_neg (show ¬ (false = true) by decide)] at H; exact H
  clear H; have H := H1; clear H1
  exact absurd ((Option.some.inj H).trans hxt.out) (by decide)
theorem neumelaw01_heads.at : neumelaw01_heads.f 60 = some true := by decide +kernel
theorem neumelaw01_heads.is : ∀ k r, neumelaw01_heads.f k = some r → r = true := by
 intro k r h
 exact Option.some.inj ((at_rounds neumelaw01_heads.mono (Nat.le_max_left k 60) h).symm.trans (at_rounds neumelaw01_heads.mono (Nat.le_max_right k 60) neumelaw01_heads.at))
theorem neumelaw01_heads.calls (k : Nat)  (r : Bool) (w : World) (hE : Aside0 (LaidE w)) (h : neumelaw01_heads.f k  = some r) :
  Calls Tryd.prog 20 #[] w fun e w' => e = .returned (.bool r) ∧ Below w.heap.size w w' := neumelaw01_heads.callsT k r w hE ⟨neumelaw01_heads.is k r h⟩ h

end Go.Proofs.YtfnpnkhhmehidaaDoor.P
