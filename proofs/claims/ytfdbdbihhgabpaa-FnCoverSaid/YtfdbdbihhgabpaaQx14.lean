-- Written by the program wip/tools/pr.py of this claim's session, over the kit's print.py.
import Derived.Test.YtfdbdbihhgabpaaQx0
import Derived.Test.YtfdbdbihhgabpaaQx2
import Derived.Test.YtfdbdbihhgabpaaQx3
import Derived.Test.YtfdbdbihhgabpaaQx4
import Derived.Test.YtfdbdbihhgabpaaQx5
import Derived.Test.YtfdbdbihhgabpaaQx6
import Derived.Test.YtfdbdbihhgabpaaQx10
import Derived.Test.YtfdbdbihhgabpaaQx11
namespace Go.Proofs.Ytfdbdbihhgabpaa.Q
open Go.RowKit Go.Proofs.YtfdbdbihhgabpaaW.PrintWords Go.Proofs.YtfdbdbihhgabpaaW.PrintLast Go.Proofs.YtfdbdbihhgabpaaW.PrintMore
attribute [local go_sem] max2_int min2_int max_two min_two max_three min_three max_four min_four   -- for this text's walks alone
set_option linter.unusedVariables false
set_option linter.unusedSimpArgs false

/-! ### impl_GoodTree: function 24 -/
def impl_GoodTree.f (k : Nat) (l0 : List Int) : Option (Bool) := (impl_isTree.f k l0).bind fun t563 => (some t563)
theorem impl_GoodTree.mono : ∀ a0 k, LeO (impl_GoodTree.f k a0) (impl_GoodTree.f (k + 1) a0) := by
 intro a0 k
 unfold impl_GoodTree.f
 repeat' first
   | with_reducible apply impl_isTree.mono
   | (with_reducible exact LeO.refl _)
   | (with_reducible exact LeO.none _)
   | (with_reducible refine LeO.ite ?_ ?_)
   | (with_reducible refine LeO.bind ?_ (fun _ => ?_))
   | apply impl_isTree.mono
   | exact LeO.none _
   | refine LeO.ite ?_ ?_
   | refine LeO.bind ?_ (fun _ => ?_)
set_option maxHeartbeats 8000000 in
set_option maxRecDepth 100000 in
theorem impl_GoodTree.calls (k : Nat) (A0 : Option Addr) (c0 : Nat) (l0 : List Int) (r : Bool) (w : World) (hr0 : Kd.C (Kd.int .i64) w A0 l0.length l0) (hc0 : l0.length ≤ c0) (h : impl_GoodTree.f k l0 = some r) :
  Calls Try.prog 24 #[.slice A0 l0.length c0] w fun e w' => e = .returned (.bool r) ∧ Drawn0 w w' := by
 have HR0 := Aside0.mk hr0
 have HC0 := Aside0.mk hc0
 clear hr0 hc0
 have H : ((impl_isTree.f k l0).bind fun t563 => (some t563)) = some r := h
 clear h
 replace H := lO H
 obtain ⟨t563, A2, H⟩ := H
 obtain rfl := Option.some.inj H
 go_enter Try.func24, Try.ntmps24
 go_wp2_with (first | ((with_reducible refine gate_callee (f := 35) rfl ?_); refine gl_ (some 4) (Try.func35) #[.slice A0 l0.length c0] ?_; (with_reducible refine (impl_isTree.calls k _ _ l0 t563 _ ?side1 ?side2 A2.out).mono ?_); (case side1 => repeat (first | exact HR0.out | (with_reducible refine Kd.C_alloc ?_ _) | (with_reducible refine Kd.C_drewN ?_ _) | (with_reducible refine Kd.C_drew ?_))); (case side2 => exact HC0.out); rintro e w' ⟨rfl, ⟨nd, rfl⟩⟩; refine ⟨_, rfl, ?_⟩))
 go_ret
 exact ⟨by first | rfl | (simp; done) | (simp [*]; done), by repeat (first | exact Drawn0.refl _ | apply Drawn0.step)⟩

/-! ### impl_GoodPatterns: function 26 -/
def impl_GoodPatterns.f (k : Nat) (l0 : List (S57)) : Option (Bool) := (impl_arePatterns.f k l0).bind fun t564 => (some t564)
theorem impl_GoodPatterns.mono : ∀ a0 k, LeO (impl_GoodPatterns.f k a0) (impl_GoodPatterns.f (k + 1) a0) := by
 intro a0 k
 unfold impl_GoodPatterns.f
 repeat' first
   | with_reducible apply impl_arePatterns.mono
   | (with_reducible exact LeO.refl _)
   | (with_reducible exact LeO.none _)
   | (with_reducible refine LeO.ite ?_ ?_)
   | (with_reducible refine LeO.bind ?_ (fun _ => ?_))
   | apply impl_arePatterns.mono
   | exact LeO.none _
   | refine LeO.ite ?_ ?_
   | refine LeO.bind ?_ (fun _ => ?_)
set_option maxHeartbeats 8000000 in
set_option maxRecDepth 100000 in
theorem impl_GoodPatterns.calls (k : Nat) (A0 : Option Addr) (c0 : Nat) (l0 : List (S57)) (r : Bool) (w : World) (hr0 : Kd.C k57 w A0 l0.length l0) (hc0 : l0.length ≤ c0) (h : impl_GoodPatterns.f k l0 = some r) :
  Calls Try.prog 26 #[.slice A0 l0.length c0] w fun e w' => e = .returned (.bool r) ∧ Below w.heap.size w w' := by
 have HR0 := Aside0.mk hr0
 have HC0 := Aside0.mk hc0
 clear hr0 hc0
 have HB := Aside0.mk (Below.refl w.heap.size w)
 have H : ((impl_arePatterns.f k l0).bind fun t564 => (some t564)) = some r := h
 clear h
 replace H := lO H
 obtain ⟨t564, A2, H⟩ := H
 obtain rfl := Option.some.inj H
 go_enter Try.func26, Try.ntmps26
 go_wp2_with (first | ((with_reducible refine gate_callee (f := 36) rfl ?_); refine gl_ (some 4) (Try.func36) #[.slice A0 l0.length c0] ?_; (with_reducible refine (impl_arePatterns.calls k _ _ l0 t564 _ ?side1 ?side2 A2.out).mono ?_); (case side1 => repeat (first | exact HR0.out | (with_reducible refine Kd.C_alloc ?_ _) | (with_reducible refine Kd.C_drewN ?_ _) | (with_reducible refine Kd.C_drew ?_))); (case side2 => exact HC0.out); rintro e w3 ⟨rfl, hb⟩; refine ⟨_, rfl, ?_⟩; have n0_ := Aside0.mk (below_step lB hb); clear HB; have HB := n0_; clear n0_; (try clear hb); (try clear hb2); (try clear hk); (try clear hi)))
 go_ret
 exact ⟨lE, lB⟩

/-! ### impl_CostAt: function 28 -/
def impl_CostAt.j0 : Nat → List Int → Int → List (S57) → Bool → Option (Int × Bool)
 | 0, _, _, _, _ => none
 | k + 1, x0, x1, x2, x25 => if x25 = true then (some (0, false)) else ((impl_covers.f k x0 x2).bind fun bt568 => (if 0 ≤ x1 then (if x1 < (bt568.2.length : Int) then (if (rd bt568.2 x1) < 0 then (some (0, false)) else (if x1 < (bt568.1.length : Int) then (some (rd bt568.1 x1, true)) else (none))) else (none)) else (none)))
def impl_CostAt.f (k : Nat) (l0 : List Int) (a1 : Int) (l2 : List (S57)) : Option (Int × Bool) := (impl_isTree.f k l0).bind fun t565 => (if t565 = true then ((impl_in.f a1 0 (wrap64 ((l0.length : Int) - 1))).bind fun t566 => (if t566 = true then ((impl_arePatterns.f k l2).bind fun t567 => (impl_CostAt.j0 k l0 a1 l2 (!t567))) else (impl_CostAt.j0 k l0 a1 l2 true))) else (impl_CostAt.j0 k l0 a1 l2 true))
theorem impl_CostAt.mono_l : ∀ k, (∀ y0 y1 y2 y3, LeO (impl_CostAt.j0 k y0 y1 y2 y3) (impl_CostAt.j0 (k + 1) y0 y1 y2 y3))
 | 0 => fun _ _ _ _ r h => by simp [impl_CostAt.j0] at h
 | k + 1 => by
  have ih0 := impl_CostAt.mono_l k
  ·intro y0 y1 y2 y3
   unfold impl_CostAt.j0
   repeat' first
   | with_reducible apply ih0
   | with_reducible apply impl_arePatterns.mono
   | with_reducible apply impl_covers.mono
   | with_reducible apply impl_isTree.mono
   | (with_reducible exact LeO.refl _)
   | (with_reducible exact LeO.none _)
   | (with_reducible refine LeO.ite ?_ ?_)
   | (with_reducible refine LeO.bind ?_ (fun _ => ?_))
   | apply ih0
   | apply impl_arePatterns.mono
   | apply impl_covers.mono
   | apply impl_isTree.mono
   | exact LeO.none _
   | refine LeO.ite ?_ ?_
   | refine LeO.bind ?_ (fun _ => ?_)
theorem impl_CostAt.mono : ∀ a0 a1 a2 k, LeO (impl_CostAt.f k a0 a1 a2) (impl_CostAt.f (k + 1) a0 a1 a2) := by
 intro a0 a1 a2 k
 have ih0 := impl_CostAt.mono_l k
 unfold impl_CostAt.f
 repeat' first
   | with_reducible apply ih0
   | with_reducible apply impl_arePatterns.mono
   | with_reducible apply impl_covers.mono
   | with_reducible apply impl_isTree.mono
   | (with_reducible exact LeO.refl _)
   | (with_reducible exact LeO.none _)
   | (with_reducible refine LeO.ite ?_ ?_)
   | (with_reducible refine LeO.bind ?_ (fun _ => ?_))
   | apply ih0
   | apply impl_arePatterns.mono
   | apply impl_covers.mono
   | apply impl_isTree.mono
   | exact LeO.none _
   | refine LeO.ite ?_ ?_
   | refine LeO.bind ?_ (fun _ => ?_)
set_option maxHeartbeats 8000000 in
set_option maxRecDepth 100000 in
theorem impl_CostAt.calls (k : Nat) (A0 : Option Addr) (c0 : Nat) (l0 : List Int) (a1 : Int) (A2 : Option Addr) (c2 : Nat) (l2 : List (S57)) (r1 : Int) (r2 : Bool) (w : World) (hr0 : Kd.C (Kd.int .i64) w A0 l0.length l0) (hc0 : l0.length ≤ c0) (hr2 : Kd.C k57 w A2 l2.length l2) (hc2 : l2.length ≤ c2) (h : impl_CostAt.f k l0 a1 l2 = some (r1, r2)) :
  Calls Try.prog 28 #[.slice A0 l0.length c0, .int .i64 a1, .slice A2 l2.length c2] w fun e w' => e = .returned (.tuple #[.int .i64 r1, .bool r2]) ∧ Below w.heap.size w w' := by
 have HR0 := Aside0.mk hr0
 have HC0 := Aside0.mk hc0
 clear hr0 hc0
 have HR2 := Aside0.mk hr2
 have HC2 := Aside0.mk hc2
 clear hr2 hc2
 have HB := Aside0.mk (Below.refl w.heap.size w)
 have H : ((impl_isTree.f k l0).bind fun t565 => (if t565 = true then ((impl_in.f a1 0 (wrap64 ((l0.length : Int) - 1))).bind fun t566 => (if t566 = true then ((impl_arePatterns.f k l2).bind fun t567 => (impl_CostAt.j0 k l0 a1 l2 (!t567))) else (impl_CostAt.j0 k l0 a1 l2 true))) else (impl_CostAt.j0 k l0 a1 l2 true))) = some (r1, r2) := h
 clear h
 have HC4 := Aside0.mk H
 clear H
 go_enter Try.func28, Try.ntmps28
 go_upto_region 1 with (fail)
 go_cut [25] (fun v25 wc => ∃ (kq : Nat) (x25_3 : Bool), v25 = .bool x25_3 ∧ Aside0 (impl_CostAt.j0 kq l0 a1 l2 x25_3 = some (r1, r2)) ∧ Aside0 (kq ≤ k) ∧ Aside0 (Below w.heap.size w wc))
 case first =>
  have H := HC4.out
  clear HC4
  replace H := lO H
  obtain ⟨t565, A5, H⟩ := H
  by_cases c6 : t565 = true
  ·subst c6
   rw [if_pos rfl] at H
   replace H := lO H
   obtain ⟨t566, A7, H⟩ := H
   by_cases c8 : t566 = true
   ·subst c8
    rw [if_pos rfl] at H
    replace H := lO H
    obtain ⟨t567, A9, H⟩ := H
    have H' := Aside0.mk H
    clear H
    go_wp2_with (first | ((with_reducible refine gate_callee (f := 35) rfl ?_); refine gl_ (some 11) (Try.func35) #[.slice A0 l0.length c0] ?_; (with_reducible refine (impl_isTree.calls k _ _ l0 true _ ?side1 ?side2 A5.out).mono ?_); (case side1 => exact lC (Kd.C_below HR0.out HB.out)); (case side2 => exact HC0.out); rintro e w' ⟨rfl, ⟨nd, rfl⟩⟩; refine ⟨_, rfl, ?_⟩) | (go_at_call 51; (with_reducible refine (impl_in.calls a1 0 (wrap64 ((l0.length : Int) - 1)) true _ A7.out).mono ?_); rintro e w' ⟨rfl, ⟨nd, rfl⟩⟩) | (go_at_call 36; (with_reducible refine (impl_arePatterns.calls k _ _ l2 t567 _ ?side1 ?side2 A9.out).mono ?_); (case side1 => repeat (first | exact (Kd.C_below HR2.out lB) | (with_reducible refine Kd.C_alloc ?_ _) | (with_reducible refine Kd.C_drewN ?_ _) | (with_reducible refine Kd.C_drew ?_))); (case side2 => exact HC2.out); rintro e w10 ⟨rfl, hb⟩; have n0_ := Aside0.mk (below_step lB hb); clear HB; have HB := n0_; clear n0_; (try clear hb); (try clear hb2); (try clear hk); (try clear hi)))
    go_meet
    case rel => exact ⟨_, (!t567), lF, H', ⟨lN⟩, ⟨lB⟩⟩
   ·replace c8 := Bool.eq_false_iff.mpr c8
    subst c8
    rw [if_neg (show ¬ (false = true) by decide)] at H
    have H' := Aside0.mk H
    clear H
    go_wp2_with (first | ((with_reducible refine gate_callee (f := 35) rfl ?_); refine gl_ (some 11) (Try.func35) #[.slice A0 l0.length c0] ?_; (with_reducible refine (impl_isTree.calls k _ _ l0 true _ ?side1 ?side2 A5.out).mono ?_); (case side1 => exact lC (Kd.C_below HR0.out HB.out)); (case side2 => exact HC0.out); rintro e w' ⟨rfl, ⟨nd, rfl⟩⟩; refine ⟨_, rfl, ?_⟩) | (go_at_call 51; (with_reducible refine (impl_in.calls a1 0 (wrap64 ((l0.length : Int) - 1)) false _ A7.out).mono ?_); rintro e w' ⟨rfl, ⟨nd, rfl⟩⟩))
    go_meet
    case rel => exact ⟨_, (true), lF, H', ⟨lN⟩, ⟨lB⟩⟩
  ·replace c6 := Bool.eq_false_iff.mpr c6
   subst c6
   rw [if_neg (show ¬ (false = true) by decide)] at H
   have H' := Aside0.mk H
   clear H
   go_wp2_with (first | ((with_reducible refine gate_callee (f := 35) rfl ?_); refine gl_ (some 11) (Try.func35) #[.slice A0 l0.length c0] ?_; (with_reducible refine (impl_isTree.calls k _ _ l0 false _ ?side1 ?side2 A5.out).mono ?_); (case side1 => exact lC (Kd.C_below HR0.out HB.out)); (case side2 => exact HC0.out); rintro e w' ⟨rfl, ⟨nd, rfl⟩⟩; refine ⟨_, rfl, ?_⟩))
   go_meet
   case rel => exact ⟨_, (true), lF, H', ⟨lN⟩, ⟨lB⟩⟩
 case rest =>
  clear HC4
  try clear c2
  try clear p2
  try clear c3
  try clear c6
  try clear p6
  try clear c8
  obtain ⟨kq, x25_3, rfl, HA, HJ3, HB⟩ := hcut
  cases kq with
  | zero => exact absurd HA.out (by simp [impl_CostAt.j0])
  | succ kj3 =>
   have H := HA.out
   clear HA
   simp only [impl_CostAt.j0] at H
   by_cases c11 : x25_3 = true
   ·subst c11
    rw [if_pos rfl] at H
    simp only [Option.some.injEq, Prod.mk.injEq] at H
    obtain ⟨rfl, rfl⟩ := H
    go_wp2
    go_ret2
    exact ⟨lE, lB⟩
   ·replace c11 := Bool.eq_false_iff.mpr c11
    subst c11
    rw [if_neg (show ¬ (false = true) by decide)] at H
    replace H := Option.bind_eq_some_iff.mp H
    obtain ⟨⟨t568, t569⟩, A120, H⟩ := H
    replace H : (if 0 ≤ a1 then (if a1 < (t569.length : Int) then (if (rd t569 a1) < 0 then (some (0, false)) else (if a1 < (t568.length : Int) then (some (rd t568 a1, true)) else (none))) else (none)) else (none)) = some (r1, r2) := H
    have A12 := Aside0.mk A120
    clear A120
    by_cases c13 : 0 ≤ a1
    ·rw [if_pos c13] at H
     have c13b0 : decide (0 ≤ a1) = true := decide_eq_true c13
     clear c13
     by_cases c14 : a1 < (t569.length : Int)
     ·rw [if_pos c14] at H
      have c14b0 : decide (a1 < (t569.length : Int)) = true := decide_eq_true c14
      clear c14
      by_cases c15 : (rd t569 a1) < 0
      ·rw [if_pos c15] at H
       have c15b0 : decide ((rd t569 a1) < 0) = true := decide_eq_true c15
       clear c15
       simp only [Option.some.injEq, Prod.mk.injEq] at H
       obtain ⟨rfl, rfl⟩ := H
       go_wp2_with (first | ((with_reducible refine gate_callee (f := 37) rfl ?_); refine gl_ (some 29) (Try.func37) #[.slice A0 l0.length c0, .slice A2 l2.length c2] ?_; (with_reducible refine (impl_covers.calls kj3 _ _ l0 _ _ l2 t568 t569 _ ?side1 ?side2 ?side3 ?side4 A12.out).mono ?_); (case side1 => exact lC (Kd.C_below HR0.out HB.out)); (case side2 => exact HC0.out); (case side3 => exact lC (Kd.C_below HR2.out HB.out)); (case side4 => exact HC2.out); rintro e w16 ⟨v570, v572, rfl, ho0, ho1, hb⟩; refine ⟨_, rfl, ?_⟩; have n0_ := Aside0.mk (Kd.R_lower ho0 (below_size lB)); have n1_ := Aside0.mk (Kd.R_lower ho1 (below_size lB)); have n2_ := Aside0.mk (below_step lB hb); clear HB; have HO571 := n0_; have HO573 := n1_; have HB := n2_; clear n0_ n1_ n2_; (try clear hb); (try clear hb2); (try clear hk); (try clear hi); (try clear ho0); (try clear ho1); obtain ⟨Ao17, co17, eo17⟩ := Kd.R_slice HO573.out; subst eo17; have p574 : 0 ≤ (a1 : Int) := lD; have q574 : a1 < (t569.length : Int) := lD; obtain ⟨ad574, e574, hx574_0⟩ := Kd.at_int (Kd.R_reads' HO573.out).2.2 a1 p574 q574; cases e574; replace p574 := eq_true p574; replace q574 := eq_true q574))
       go_ret2
       exact ⟨lE, lB⟩
      ·rw [if_neg c15] at H
       have c15b0 : decide ((rd t569 a1) < 0) = false := decide_eq_false c15
       clear c15
       by_cases c18 : a1 < (t568.length : Int)
       ·rw [if_pos c18] at H
        have c18b0 : decide (a1 < (t568.length : Int)) = true := decide_eq_true c18
        clear c18
        simp only [Option.some.injEq, Prod.mk.injEq] at H
        obtain ⟨rfl, rfl⟩ := H
        go_wp2_with (first | ((with_reducible refine gate_callee (f := 37) rfl ?_); refine gl_ (some 29) (Try.func37) #[.slice A0 l0.length c0, .slice A2 l2.length c2] ?_; (with_reducible refine (impl_covers.calls kj3 _ _ l0 _ _ l2 t568 t569 _ ?side1 ?side2 ?side3 ?side4 A12.out).mono ?_); (case side1 => exact lC (Kd.C_below HR0.out HB.out)); (case side2 => exact HC0.out); (case side3 => exact lC (Kd.C_below HR2.out HB.out)); (case side4 => exact HC2.out); rintro e w19 ⟨v570, v572, rfl, ho0, ho1, hb⟩; refine ⟨_, rfl, ?_⟩; have n0_ := Aside0.mk (Kd.R_lower ho0 (below_size lB)); have n1_ := Aside0.mk (Kd.R_lower ho1 (below_size lB)); have n2_ := Aside0.mk (below_step lB hb); clear HB; have HO571 := n0_; have HO573 := n1_; have HB := n2_; clear n0_ n1_ n2_; (try clear hb); (try clear hb2); (try clear hk); (try clear hi); (try clear ho0); (try clear ho1); obtain ⟨Ao20, co20, eo20⟩ := Kd.R_slice HO573.out; subst eo20; have p574 : 0 ≤ (a1 : Int) := lD; have q574 : a1 < (t569.length : Int) := lD; obtain ⟨ad574, e574, hx574_0⟩ := Kd.at_int (Kd.R_reads' HO573.out).2.2 a1 p574 q574; cases e574; replace p574 := eq_true p574; replace q574 := eq_true q574; obtain ⟨Ao21, co21, eo21⟩ := Kd.R_slice HO571.out; subst eo21; have p575 : 0 ≤ (a1 : Int) := lD; have q575 : a1 < (t568.length : Int) := lD; obtain ⟨ad575, e575, hx575_0⟩ := Kd.at_int (Kd.R_reads' HO571.out).2.2 a1 p575 q575; cases e575; replace p575 := eq_true p575; replace q575 := eq_true q575))
        go_ret2
        exact ⟨lE, lB⟩
       ·rw [if_neg c18] at H
        exact absurd H (by simp)
     ·rw [if_neg c14] at H
      exact absurd H (by simp)
    ·rw [if_neg c13] at H
     exact absurd H (by simp)

/-! ### spec_DrawCostAt: function 29 -/
def spec_DrawCostAt.f (k : Nat) (l0 : List Int) : Option (List Int × Int × (List (S57))) := (spec_l1Cur_opTree.f k l0 0 0).bind fun bt577 => ((spec_l1Cur_pick.f l0 bt577.2.1 bt577.2.2 (wrap64 ((bt577.1.length : Int) + 2))).bind fun bt582 => ((spec_l1Cur_patterns.f k l0 bt582.2.1 bt582.2.2).bind fun bt585 => (some (bt577.1, wrap64 (bt582.1 - 1), bt585.1))))
theorem spec_DrawCostAt.mono : ∀ a0 k, LeO (spec_DrawCostAt.f k a0) (spec_DrawCostAt.f (k + 1) a0) := by
 intro a0 k
 unfold spec_DrawCostAt.f
 repeat' first
   | with_reducible apply spec_l1Cur_opTree.mono
   | with_reducible apply spec_l1Cur_patterns.mono
   | (with_reducible exact LeO.refl _)
   | (with_reducible exact LeO.none _)
   | (with_reducible refine LeO.ite ?_ ?_)
   | (with_reducible refine LeO.bind ?_ (fun _ => ?_))
   | apply spec_l1Cur_opTree.mono
   | apply spec_l1Cur_patterns.mono
   | exact LeO.none _
   | refine LeO.ite ?_ ?_
   | refine LeO.bind ?_ (fun _ => ?_)
set_option maxHeartbeats 8000000 in
set_option maxRecDepth 100000 in
theorem spec_DrawCostAt.calls (k : Nat) (A0 : Option Addr) (c0 : Nat) (l0 : List Int) (r1 : List Int) (r2 : Int) (r3 : List (S57)) (w : World) (hr0 : Kd.C (Kd.int .u8) w A0 l0.length l0) (hc0 : l0.length ≤ c0) (h : spec_DrawCostAt.f k l0 = some (r1, r2, r3)) :
  Calls Try.prog 29 #[.slice A0 l0.length c0] w fun e w' => ∃ v0_ v2_ : Value, e = .returned (.tuple #[v0_, .int .i64 r2, v2_]) ∧ Kd.R (Kd.int .i64) 3 w' w.heap.size (fun k_ => (w.heap.size ≤ k_)) v0_ r1 ∧ Kd.N k57 57 w' w.heap.size (fun k_ => (w.heap.size ≤ k_) ∧ some k_ ≠ (v0_ : Value).ownBlock) v2_ r3 ∧ Below w.heap.size w w' := by
 have hu75 := Try.underlying75
 have HR0 := Aside0.mk hr0
 have HC0 := Aside0.mk hc0
 clear hr0 hc0
 have HB := Aside0.mk (Below.refl w.heap.size w)
 have H : ((spec_l1Cur_opTree.f k l0 0 0).bind fun bt577 => ((spec_l1Cur_pick.f l0 bt577.2.1 bt577.2.2 (wrap64 ((bt577.1.length : Int) + 2))).bind fun bt582 => ((spec_l1Cur_patterns.f k l0 bt582.2.1 bt582.2.2).bind fun bt585 => (some (bt577.1, wrap64 (bt582.1 - 1), bt585.1))))) = some (r1, r2, r3) := h
 clear h
 replace H := Option.bind_eq_some_iff.mp H
 obtain ⟨⟨t577, t580, t581⟩, A20, H⟩ := H
 replace H : ((spec_l1Cur_pick.f l0 t580 t581 (wrap64 ((t577.length : Int) + 2))).bind fun bt582 => ((spec_l1Cur_patterns.f k l0 bt582.2.1 bt582.2.2).bind fun bt585 => (some (t577, wrap64 (bt582.1 - 1), bt585.1)))) = some (r1, r2, r3) := H
 have A2 := Aside0.mk A20
 clear A20
 replace H := Option.bind_eq_some_iff.mp H
 obtain ⟨⟨t582, t583, t584⟩, A30, H⟩ := H
 replace H : ((spec_l1Cur_patterns.f k l0 t583 t584).bind fun bt585 => (some (t577, wrap64 (t582 - 1), bt585.1))) = some (r1, r2, r3) := H
 have A3 := Aside0.mk A30
 clear A30
 replace H := Option.bind_eq_some_iff.mp H
 obtain ⟨⟨t585, t588, t589⟩, A40, H⟩ := H
 replace H : (some (t577, wrap64 (t582 - 1), t585)) = some (r1, r2, r3) := H
 have A4 := Aside0.mk A40
 clear A40
 simp only [Option.some.injEq, Prod.mk.injEq] at H
 obtain ⟨rfl, rfl, rfl⟩ := H
 go_enter Try.func29, Try.ntmps29
 go_wp2_with (first | ((with_reducible refine gate_dst (N := 9) rfl ?_); refine bxe 9 #[.slice A0 l0.length c0, .int .i64 0, .int .u64 0] 75 ?_; intro gb576 hg w5 hbox hb; have n0_ := Aside0.mk (below_step lB hb); have n1_ := lG w hg; have n2_ := lG w hg; have n3_ := Aside0.mk ((show IsS75 w _ gb576 l0 0 0 from ⟨_, _, hbox, (by rw [hg]; exact (below_size lB)), HR0.out⟩)); clear HB; have HB := n0_; have GW576 := n1_; have GE576 := n2_; have HI576 := n3_; clear n0_ n1_ n2_ n3_; clear hb hbox hg) | ((with_reducible refine gate_callee (f := 56) rfl ?_); refine gl_ (some 11) (Try.func56) #[.pointer (some ⟨gb576, 0, none⟩)] ?_; (with_reducible refine (spec_l1Cur_opTree.calls k gb576 l0 0 0 t577 t580 t581 w _ ?side1 ?side2 A2.out).mono ?_); (case side1 => repeat (first | (with_reducible first | exact HI576.out | apply IsS75.alloc | apply IsS75.drewN | apply IsS75.drew | apply IsS75.set_1 | apply IsS75.set_2) | exact HI576.out)); (case side2 => repeat (first | (with_reducible first | exact HB.out | apply below_alloc | apply pw_below_drewN | apply below_drew1 | refine below_set ?_ (IsS75.ge HI576.out)) | exact HB.out)); rintro e w6 ⟨v578, rfl, ho0, hi, hb, hk⟩; refine ⟨_, rfl, ?_⟩; have n0_ := Aside0.mk (Kd.R_lower (Kd.R_newM (M := fun k_ => (w.heap.size ≤ k_)) ho0 (below_size (by repeat (first | (with_reducible first | exact HB.out | apply below_alloc | apply pw_below_drewN | apply below_drew1 | refine below_set ?_ (IsS75.ge HI576.out)) | exact HB.out))) (fun k_ h_ => h_)) (below_size (by repeat (first | (with_reducible first | exact HB.out | apply below_alloc | apply pw_below_drewN | apply below_drew1 | refine below_set ?_ (IsS75.ge HI576.out)) | exact HB.out)))); have n1_ := Aside0.mk (hb); have n2_ := Aside0.mk (hi); clear HB; clear HI576; have HO579 := n0_; have HB := n1_; have HI576 := n2_; clear n0_ n1_ n2_; (try clear hb); (try clear hb2); (try clear hk); (try clear hi); (try clear ho0); obtain ⟨Ao7, co7, eo7⟩ := Kd.R_slice HO579.out; subst eo7) | ((with_reducible refine gate_callee (f := 50) rfl ?_); refine gl_ (some 17) (Try.func50) #[.pointer (some ⟨gb576, 0, none⟩), .int .i64 (wrap64 ((t577.length : Int) + 2))] ?_; (with_reducible refine (spec_l1Cur_pick.calls gb576 l0 t580 t581 (wrap64 ((t577.length : Int) + 2)) t582 t583 t584 w _ ?side1 ?side2 A3.out).mono ?_); (case side1 => repeat (first | (with_reducible first | exact HI576.out | apply IsS75.alloc | apply IsS75.drewN | apply IsS75.drew | apply IsS75.set_1 | apply IsS75.set_2) | exact HI576.out)); (case side2 => repeat (first | (with_reducible first | exact HB.out | apply below_alloc | apply pw_below_drewN | apply below_drew1 | refine below_set ?_ (IsS75.ge HI576.out)) | exact HB.out)); rintro e w8 ⟨rfl, hi, hb, hk⟩; refine ⟨_, rfl, ?_⟩; have n0_ := Aside0.mk (Kd.R_mono (Kd.R_keep (IsS75.apart (show IsS75 w _ gb576 l0 t580 t581 from by repeat (first | (with_reducible first | exact HI576.out | apply IsS75.alloc | apply IsS75.drewN | apply IsS75.drew | apply IsS75.set_1 | apply IsS75.set_2) | exact HI576.out)) (lR HO579.out) (by decide)) hk (fun _ h => h.2)) (fun _ h => h.1)); have n1_ := Aside0.mk (hb); have n2_ := Aside0.mk (hi); clear HO579; clear HB; clear HI576; have HO579 := n0_; have HB := n1_; have HI576 := n2_; clear n0_ n1_ n2_; (try clear hb); (try clear hb2); (try clear hk); (try clear hi)) | ((with_reducible refine gate_callee (f := 57) rfl ?_); refine gl_ (some 20) (Try.func57) #[.pointer (some ⟨gb576, 0, none⟩)] ?_; (with_reducible refine (spec_l1Cur_patterns.calls k gb576 l0 t583 t584 t585 t588 t589 w _ ?side1 ?side2 A4.out).mono ?_); (case side1 => repeat (first | (with_reducible first | exact HI576.out | apply IsS75.alloc | apply IsS75.drewN | apply IsS75.drew | apply IsS75.set_1 | apply IsS75.set_2) | exact HI576.out)); (case side2 => repeat (first | (with_reducible first | exact HB.out | apply below_alloc | apply pw_below_drewN | apply below_drew1 | refine below_set ?_ (IsS75.ge HI576.out)) | exact HB.out)); rintro e w9 ⟨v586, rfl, ho0, hi, hb, hk⟩; refine ⟨_, rfl, ?_⟩; have n0_ := Aside0.mk (Kd.R_mono (Kd.R_keep (IsS75.apart (show IsS75 w _ gb576 l0 t583 t584 from by repeat (first | (with_reducible first | exact HI576.out | apply IsS75.alloc | apply IsS75.drewN | apply IsS75.drew | apply IsS75.set_1 | apply IsS75.set_2) | exact HI576.out)) (lR HO579.out) (by decide)) hk (fun _ h => h.2)) (fun _ h => h.1)); have n1_ := Aside0.mk (Kd.N_lower (Kd.N_mono (ok' := fun k_ => (w.heap.size ≤ k_) ∧ some k_ ≠ (.slice Ao7 t577.length co7 : Value).ownBlock ∧ k_ ≠ gb576) ho0 (fun k_ hk_ => ⟨(Nat.le_trans (below_size (by repeat (first | (with_reducible first | exact HB.out | apply below_alloc | apply pw_below_drewN | apply below_drew1 | refine below_set ?_ (IsS75.ge HI576.out)) | exact HB.out))) hk_), (Kd.fresh' (Kd.R_lt (lR HO579.out)) k_ hk_), (IsS75.fresh (by repeat (first | (with_reducible first | exact HI576.out | apply IsS75.alloc | apply IsS75.drewN | apply IsS75.drew | apply IsS75.set_1 | apply IsS75.set_2) | exact HI576.out)) k_ hk_)⟩)) (below_size (by repeat (first | (with_reducible first | exact HB.out | apply below_alloc | apply pw_below_drewN | apply below_drew1 | refine below_set ?_ (IsS75.ge HI576.out)) | exact HB.out)))); have n2_ := Aside0.mk (hb); have n3_ := Aside0.mk (hi); clear HO579; clear HB; clear HI576; have HO579 := n0_; have HO587 := n1_; have HB := n2_; have HI576 := n3_; clear n0_ n1_ n2_ n3_; (try clear hb); (try clear hb2); (try clear hk); (try clear hi); (try clear ho0)))
 go_ret3
 exact ⟨_, _, lE, by (with_reducible repeat (first | apply Kd.R_alloc | apply Kd.R_drewN | apply Kd.R_drew)); exact Kd.R_mono HO579.out (fun _ hk => hk.1), by (with_reducible repeat (first | apply Kd.N_alloc | apply Kd.N_drewN | apply Kd.N_drew)); exact Kd.N_mono HO587.out (fun _ hk => ⟨hk.1, hk.2.1⟩), by repeat (first | (with_reducible first | exact HB.out | apply below_alloc | apply pw_below_drewN | apply below_drew1 | refine below_set ?_ (IsS75.ge HI576.out)) | exact HB.out)⟩

/-! ### spec_CostAt: function 30 -/
def spec_CostAt.f (k : Nat) (l0 : List Int) (a1 : Int) (l2 : List (S57)) : Option (Int × Bool) := (spec_GoodTree.f k l0).bind fun t590 => (if t590 = true then ((spec_GoodPatterns.f k l2).bind fun t591 => (if t591 = true then (if a1 < 0 then (some (0, false)) else (if a1 ≥ (l0.length : Int) then (some (0, false)) else ((spec_l9Best.f k l0 l2).bind fun bt592 => (if 0 ≤ a1 then (if a1 < (bt592.1.length : Int) then (if a1 < (bt592.2.length : Int) then (some (rd bt592.1 a1, decide ((rd bt592.2 a1) ≥ 0))) else (none)) else (none)) else (none))))) else (some (0, false)))) else (some (0, false)))
theorem spec_CostAt.mono : ∀ a0 a1 a2 k, LeO (spec_CostAt.f k a0 a1 a2) (spec_CostAt.f (k + 1) a0 a1 a2) := by
 intro a0 a1 a2 k
 unfold spec_CostAt.f
 repeat' first
   | with_reducible apply spec_GoodPatterns.mono
   | with_reducible apply spec_GoodTree.mono
   | with_reducible apply spec_l9Best.mono
   | (with_reducible exact LeO.refl _)
   | (with_reducible exact LeO.none _)
   | (with_reducible refine LeO.ite ?_ ?_)
   | (with_reducible refine LeO.bind ?_ (fun _ => ?_))
   | apply spec_GoodPatterns.mono
   | apply spec_GoodTree.mono
   | apply spec_l9Best.mono
   | exact LeO.none _
   | refine LeO.ite ?_ ?_
   | refine LeO.bind ?_ (fun _ => ?_)
set_option maxHeartbeats 8000000 in
set_option maxRecDepth 100000 in
theorem spec_CostAt.calls (k : Nat) (A0 : Option Addr) (c0 : Nat) (l0 : List Int) (a1 : Int) (A2 : Option Addr) (c2 : Nat) (l2 : List (S57)) (r1 : Int) (r2 : Bool) (w : World) (hr0 : Kd.C (Kd.int .i64) w A0 l0.length l0) (hc0 : l0.length ≤ c0) (hr2 : Kd.C k57 w A2 l2.length l2) (hc2 : l2.length ≤ c2) (h : spec_CostAt.f k l0 a1 l2 = some (r1, r2)) :
  Calls Try.prog 30 #[.slice A0 l0.length c0, .int .i64 a1, .slice A2 l2.length c2] w fun e w' => e = .returned (.tuple #[.int .i64 r1, .bool r2]) ∧ Below w.heap.size w w' := by
 have HR0 := Aside0.mk hr0
 have HC0 := Aside0.mk hc0
 clear hr0 hc0
 have HR2 := Aside0.mk hr2
 have HC2 := Aside0.mk hc2
 clear hr2 hc2
 have HB := Aside0.mk (Below.refl w.heap.size w)
 have H : ((spec_GoodTree.f k l0).bind fun t590 => (if t590 = true then ((spec_GoodPatterns.f k l2).bind fun t591 => (if t591 = true then (if a1 < 0 then (some (0, false)) else (if a1 ≥ (l0.length : Int) then (some (0, false)) else ((spec_l9Best.f k l0 l2).bind fun bt592 => (if 0 ≤ a1 then (if a1 < (bt592.1.length : Int) then (if a1 < (bt592.2.length : Int) then (some (rd bt592.1 a1, decide ((rd bt592.2 a1) ≥ 0))) else (none)) else (none)) else (none))))) else (some (0, false)))) else (some (0, false)))) = some (r1, r2) := h
 clear h
 replace H := lO H
 obtain ⟨t590, A4, H⟩ := H
 by_cases c5 : t590 = true
 ·subst c5
  rw [if_pos rfl] at H
  replace H := lO H
  obtain ⟨t591, A6, H⟩ := H
  by_cases c7 : t591 = true
  ·subst c7
   rw [if_pos rfl] at H
   by_cases c8 : a1 < 0
   ·rw [if_pos c8] at H
    have c8b0 : decide (a1 < 0) = true := decide_eq_true c8
    clear c8
    simp only [Option.some.injEq, Prod.mk.injEq] at H
    obtain ⟨rfl, rfl⟩ := H
    go_enter Try.func30, Try.ntmps30
    go_wp2_with (first | (go_at_call 25; (with_reducible refine (spec_GoodTree.calls k _ _ l0 true _ ?side1 ?side2 A4.out).mono ?_); (case side1 => repeat (first | exact HR0.out | (with_reducible refine Kd.C_alloc ?_ _) | (with_reducible refine Kd.C_drewN ?_ _) | (with_reducible refine Kd.C_drew ?_))); (case side2 => exact HC0.out); rintro e w' ⟨rfl, ⟨nd, rfl⟩⟩; (try first | exact ⟨rfl, _, World.drewN_drewN _ _ _⟩ | exact ⟨rfl, _, Eq.trans (World.drewN_drewN _ _ _) (congrArg (World.drewN _) (Nat.add_assoc _ _ _))⟩)) | (go_at_call 27; (with_reducible refine (spec_GoodPatterns.calls k _ _ l2 true _ ?side1 ?side2 A6.out).mono ?_); (case side1 => repeat (first | exact HR2.out | (with_reducible refine Kd.C_alloc ?_ _) | (with_reducible refine Kd.C_drewN ?_ _) | (with_reducible refine Kd.C_drew ?_))); (case side2 => exact HC2.out); rintro e w9 ⟨rfl, hb⟩; have n0_ := Aside0.mk (below_step lB hb); clear HB; have HB := n0_; clear n0_; (try clear hb); (try clear hb2); (try clear hk); (try clear hi)))
    repeat (go_quiet (first | (go_at_call 25; (with_reducible refine (spec_GoodTree.calls k _ _ l0 true _ ?side1 ?side2 A4.out).mono ?_); (case side1 => repeat (first | exact HR0.out | (with_reducible refine Kd.C_alloc ?_ _) | (with_reducible refine Kd.C_drewN ?_ _) | (with_reducible refine Kd.C_drew ?_))); (case side2 => exact HC0.out); rintro e w' ⟨rfl, ⟨nd, rfl⟩⟩; (try first | exact ⟨rfl, _, World.drewN_drewN _ _ _⟩ | exact ⟨rfl, _, Eq.trans (World.drewN_drewN _ _ _) (congrArg (World.drewN _) (Nat.add_assoc _ _ _))⟩))); try go_wp2_with (first | (go_at_call 25; (with_reducible refine (spec_GoodTree.calls k _ _ l0 true _ ?side1 ?side2 A4.out).mono ?_); (case side1 => repeat (first | exact HR0.out | (with_reducible refine Kd.C_alloc ?_ _) | (with_reducible refine Kd.C_drewN ?_ _) | (with_reducible refine Kd.C_drew ?_))); (case side2 => exact HC0.out); rintro e w' ⟨rfl, ⟨nd, rfl⟩⟩; (try first | exact ⟨rfl, _, World.drewN_drewN _ _ _⟩ | exact ⟨rfl, _, Eq.trans (World.drewN_drewN _ _ _) (congrArg (World.drewN _) (Nat.add_assoc _ _ _))⟩)) | (go_at_call 27; (with_reducible refine (spec_GoodPatterns.calls k _ _ l2 true _ ?side1 ?side2 A6.out).mono ?_); (case side1 => repeat (first | exact HR2.out | (with_reducible refine Kd.C_alloc ?_ _) | (with_reducible refine Kd.C_drewN ?_ _) | (with_reducible refine Kd.C_drew ?_))); (case side2 => exact HC2.out); rintro e w9 ⟨rfl, hb⟩; have n0_ := Aside0.mk (below_step lB hb); clear HB; have HB := n0_; clear n0_; (try clear hb); (try clear hb2); (try clear hk); (try clear hi))))
    go_ret2
    exact ⟨lE, lB⟩
   ·rw [if_neg c8] at H
    have c8b0 : decide (a1 < 0) = false := decide_eq_false c8
    clear c8
    by_cases c10 : a1 ≥ (l0.length : Int)
    ·rw [if_pos c10] at H
     have c10b0 : decide ((l0.length : Int) ≤ a1) = true := decide_eq_true c10
     clear c10
     simp only [Option.some.injEq, Prod.mk.injEq] at H
     obtain ⟨rfl, rfl⟩ := H
     go_enter Try.func30, Try.ntmps30
     go_wp2_with (first | (go_at_call 25; (with_reducible refine (spec_GoodTree.calls k _ _ l0 true _ ?side1 ?side2 A4.out).mono ?_); (case side1 => repeat (first | exact HR0.out | (with_reducible refine Kd.C_alloc ?_ _) | (with_reducible refine Kd.C_drewN ?_ _) | (with_reducible refine Kd.C_drew ?_))); (case side2 => exact HC0.out); rintro e w' ⟨rfl, ⟨nd, rfl⟩⟩; (try first | exact ⟨rfl, _, World.drewN_drewN _ _ _⟩ | exact ⟨rfl, _, Eq.trans (World.drewN_drewN _ _ _) (congrArg (World.drewN _) (Nat.add_assoc _ _ _))⟩)) | (go_at_call 27; (with_reducible refine (spec_GoodPatterns.calls k _ _ l2 true _ ?side1 ?side2 A6.out).mono ?_); (case side1 => repeat (first | exact HR2.out | (with_reducible refine Kd.C_alloc ?_ _) | (with_reducible refine Kd.C_drewN ?_ _) | (with_reducible refine Kd.C_drew ?_))); (case side2 => exact HC2.out); rintro e w11 ⟨rfl, hb⟩; have n0_ := Aside0.mk (below_step lB hb); clear HB; have HB := n0_; clear n0_; (try clear hb); (try clear hb2); (try clear hk); (try clear hi)))
     repeat (go_quiet (first | (go_at_call 25; (with_reducible refine (spec_GoodTree.calls k _ _ l0 true _ ?side1 ?side2 A4.out).mono ?_); (case side1 => repeat (first | exact HR0.out | (with_reducible refine Kd.C_alloc ?_ _) | (with_reducible refine Kd.C_drewN ?_ _) | (with_reducible refine Kd.C_drew ?_))); (case side2 => exact HC0.out); rintro e w' ⟨rfl, ⟨nd, rfl⟩⟩; (try first | exact ⟨rfl, _, World.drewN_drewN _ _ _⟩ | exact ⟨rfl, _, Eq.trans (World.drewN_drewN _ _ _) (congrArg (World.drewN _) (Nat.add_assoc _ _ _))⟩))); try go_wp2_with (first | (go_at_call 25; (with_reducible refine (spec_GoodTree.calls k _ _ l0 true _ ?side1 ?side2 A4.out).mono ?_); (case side1 => repeat (first | exact HR0.out | (with_reducible refine Kd.C_alloc ?_ _) | (with_reducible refine Kd.C_drewN ?_ _) | (with_reducible refine Kd.C_drew ?_))); (case side2 => exact HC0.out); rintro e w' ⟨rfl, ⟨nd, rfl⟩⟩; (try first | exact ⟨rfl, _, World.drewN_drewN _ _ _⟩ | exact ⟨rfl, _, Eq.trans (World.drewN_drewN _ _ _) (congrArg (World.drewN _) (Nat.add_assoc _ _ _))⟩)) | (go_at_call 27; (with_reducible refine (spec_GoodPatterns.calls k _ _ l2 true _ ?side1 ?side2 A6.out).mono ?_); (case side1 => repeat (first | exact HR2.out | (with_reducible refine Kd.C_alloc ?_ _) | (with_reducible refine Kd.C_drewN ?_ _) | (with_reducible refine Kd.C_drew ?_))); (case side2 => exact HC2.out); rintro e w11 ⟨rfl, hb⟩; have n0_ := Aside0.mk (below_step lB hb); clear HB; have HB := n0_; clear n0_; (try clear hb); (try clear hb2); (try clear hk); (try clear hi))))
     go_ret2
     exact ⟨lE, lB⟩
    ·rw [if_neg c10] at H
     have c10b0 : decide ((l0.length : Int) ≤ a1) = false := decide_eq_false c10
     clear c10
     replace H := Option.bind_eq_some_iff.mp H
     obtain ⟨⟨t592, t593⟩, A120, H⟩ := H
     replace H : (if 0 ≤ a1 then (if a1 < (t592.length : Int) then (if a1 < (t593.length : Int) then (some (rd t592 a1, decide ((rd t593 a1) ≥ 0))) else (none)) else (none)) else (none)) = some (r1, r2) := H
     have A12 := Aside0.mk A120
     clear A120
     by_cases c13 : 0 ≤ a1
     ·rw [if_pos c13] at H
      have c13b0 : decide (0 ≤ a1) = true := decide_eq_true c13
      clear c13
      by_cases c14 : a1 < (t592.length : Int)
      ·rw [if_pos c14] at H
       have c14b0 : decide (a1 < (t592.length : Int)) = true := decide_eq_true c14
       clear c14
       by_cases c15 : a1 < (t593.length : Int)
       ·rw [if_pos c15] at H
        have c15b0 : decide (a1 < (t593.length : Int)) = true := decide_eq_true c15
        clear c15
        simp only [Option.some.injEq, Prod.mk.injEq] at H
        obtain ⟨rfl, rfl⟩ := H
        go_enter Try.func30, Try.ntmps30
        go_wp2_with (first | (go_at_call 25; (with_reducible refine (spec_GoodTree.calls k _ _ l0 true _ ?side1 ?side2 A4.out).mono ?_); (case side1 => repeat (first | exact HR0.out | (with_reducible refine Kd.C_alloc ?_ _) | (with_reducible refine Kd.C_drewN ?_ _) | (with_reducible refine Kd.C_drew ?_))); (case side2 => exact HC0.out); rintro e w' ⟨rfl, ⟨nd, rfl⟩⟩; (try first | exact ⟨rfl, _, World.drewN_drewN _ _ _⟩ | exact ⟨rfl, _, Eq.trans (World.drewN_drewN _ _ _) (congrArg (World.drewN _) (Nat.add_assoc _ _ _))⟩)) | (go_at_call 27; (with_reducible refine (spec_GoodPatterns.calls k _ _ l2 true _ ?side1 ?side2 A6.out).mono ?_); (case side1 => repeat (first | exact HR2.out | (with_reducible refine Kd.C_alloc ?_ _) | (with_reducible refine Kd.C_drewN ?_ _) | (with_reducible refine Kd.C_drew ?_))); (case side2 => exact HC2.out); rintro e w16 ⟨rfl, hb⟩; have n0_ := Aside0.mk (below_step lB hb); clear HB; have HB := n0_; clear n0_; (try clear hb); (try clear hb2); (try clear hk); (try clear hi)) | (go_at_call 32; (with_reducible refine (spec_l9Best.calls k _ _ l0 _ _ l2 t592 t593 _ ?side1 ?side2 ?side3 ?side4 A12.out).mono ?_); (case side1 => exact lC (Kd.C_below HR0.out HB.out)); (case side2 => exact HC0.out); (case side3 => exact lC (Kd.C_below HR2.out HB.out)); (case side4 => exact HC2.out); rintro e w17 ⟨v594, v596, rfl, ho0, ho1, hb⟩; have n0_ := Aside0.mk (Kd.R_lower ho0 (below_size lB)); have n1_ := Aside0.mk (Kd.R_lower ho1 (below_size lB)); have n2_ := Aside0.mk (below_step lB hb); clear HB; have HO595 := n0_; have HO597 := n1_; have HB := n2_; clear n0_ n1_ n2_; (try clear hb); (try clear hb2); (try clear hk); (try clear hi); (try clear ho0); (try clear ho1); obtain ⟨Ao18, co18, eo18⟩ := Kd.R_slice HO595.out; subst eo18; have p598 : 0 ≤ (a1 : Int) := lD; have q598 : a1 < (t592.length : Int) := lD; obtain ⟨ad598, e598, hx598_0⟩ := Kd.at_int (Kd.R_reads' HO595.out).2.2 a1 p598 q598; cases e598; replace p598 := eq_true p598; replace q598 := eq_true q598; obtain ⟨Ao19, co19, eo19⟩ := Kd.R_slice HO597.out; subst eo19; have p599 : 0 ≤ (a1 : Int) := lD; have q599 : a1 < (t593.length : Int) := lD; obtain ⟨ad599, e599, hx599_0⟩ := Kd.at_int (Kd.R_reads' HO597.out).2.2 a1 p599 q599; cases e599; replace p599 := eq_true p599; replace q599 := eq_true q599))
        repeat (go_quiet (first | (go_at_call 25; (with_reducible refine (spec_GoodTree.calls k _ _ l0 true _ ?side1 ?side2 A4.out).mono ?_); (case side1 => repeat (first | exact HR0.out | (with_reducible refine Kd.C_alloc ?_ _) | (with_reducible refine Kd.C_drewN ?_ _) | (with_reducible refine Kd.C_drew ?_))); (case side2 => exact HC0.out); rintro e w' ⟨rfl, ⟨nd, rfl⟩⟩; (try first | exact ⟨rfl, _, World.drewN_drewN _ _ _⟩ | exact ⟨rfl, _, Eq.trans (World.drewN_drewN _ _ _) (congrArg (World.drewN _) (Nat.add_assoc _ _ _))⟩))); try go_wp2_with (first | (go_at_call 25; (with_reducible refine (spec_GoodTree.calls k _ _ l0 true _ ?side1 ?side2 A4.out).mono ?_); (case side1 => repeat (first | exact HR0.out | (with_reducible refine Kd.C_alloc ?_ _) | (with_reducible refine Kd.C_drewN ?_ _) | (with_reducible refine Kd.C_drew ?_))); (case side2 => exact HC0.out); rintro e w' ⟨rfl, ⟨nd, rfl⟩⟩; (try first | exact ⟨rfl, _, World.drewN_drewN _ _ _⟩ | exact ⟨rfl, _, Eq.trans (World.drewN_drewN _ _ _) (congrArg (World.drewN _) (Nat.add_assoc _ _ _))⟩)) | (go_at_call 27; (with_reducible refine (spec_GoodPatterns.calls k _ _ l2 true _ ?side1 ?side2 A6.out).mono ?_); (case side1 => repeat (first | exact HR2.out | (with_reducible refine Kd.C_alloc ?_ _) | (with_reducible refine Kd.C_drewN ?_ _) | (with_reducible refine Kd.C_drew ?_))); (case side2 => exact HC2.out); rintro e w16 ⟨rfl, hb⟩; have n0_ := Aside0.mk (below_step lB hb); clear HB; have HB := n0_; clear n0_; (try clear hb); (try clear hb2); (try clear hk); (try clear hi)) | (go_at_call 32; (with_reducible refine (spec_l9Best.calls k _ _ l0 _ _ l2 t592 t593 _ ?side1 ?side2 ?side3 ?side4 A12.out).mono ?_); (case side1 => exact lC (Kd.C_below HR0.out HB.out)); (case side2 => exact HC0.out); (case side3 => exact lC (Kd.C_below HR2.out HB.out)); (case side4 => exact HC2.out); rintro e w17 ⟨v594, v596, rfl, ho0, ho1, hb⟩; have n0_ := Aside0.mk (Kd.R_lower ho0 (below_size lB)); have n1_ := Aside0.mk (Kd.R_lower ho1 (below_size lB)); have n2_ := Aside0.mk (below_step lB hb); clear HB; have HO595 := n0_; have HO597 := n1_; have HB := n2_; clear n0_ n1_ n2_; (try clear hb); (try clear hb2); (try clear hk); (try clear hi); (try clear ho0); (try clear ho1); obtain ⟨Ao18, co18, eo18⟩ := Kd.R_slice HO595.out; subst eo18; have p598 : 0 ≤ (a1 : Int) := lD; have q598 : a1 < (t592.length : Int) := lD; obtain ⟨ad598, e598, hx598_0⟩ := Kd.at_int (Kd.R_reads' HO595.out).2.2 a1 p598 q598; cases e598; replace p598 := eq_true p598; replace q598 := eq_true q598; obtain ⟨Ao19, co19, eo19⟩ := Kd.R_slice HO597.out; subst eo19; have p599 : 0 ≤ (a1 : Int) := lD; have q599 : a1 < (t593.length : Int) := lD; obtain ⟨ad599, e599, hx599_0⟩ := Kd.at_int (Kd.R_reads' HO597.out).2.2 a1 p599 q599; cases e599; replace p599 := eq_true p599; replace q599 := eq_true q599)))
        go_ret2
        exact ⟨lE, lB⟩
       ·rw [if_neg c15] at H
        exact absurd H (by simp)
      ·rw [if_neg c14] at H
       exact absurd H (by simp)
     ·rw [if_neg c13] at H
      exact absurd H (by simp)
  ·replace c7 := Bool.eq_false_iff.mpr c7
   subst c7
   rw [if_neg (show ¬ (false = true) by decide)] at H
   simp only [Option.some.injEq, Prod.mk.injEq] at H
   obtain ⟨rfl, rfl⟩ := H
   go_enter Try.func30, Try.ntmps30
   go_wp2_with (first | (go_at_call 25; (with_reducible refine (spec_GoodTree.calls k _ _ l0 true _ ?side1 ?side2 A4.out).mono ?_); (case side1 => repeat (first | exact HR0.out | (with_reducible refine Kd.C_alloc ?_ _) | (with_reducible refine Kd.C_drewN ?_ _) | (with_reducible refine Kd.C_drew ?_))); (case side2 => exact HC0.out); rintro e w' ⟨rfl, ⟨nd, rfl⟩⟩; (try first | exact ⟨rfl, _, World.drewN_drewN _ _ _⟩ | exact ⟨rfl, _, Eq.trans (World.drewN_drewN _ _ _) (congrArg (World.drewN _) (Nat.add_assoc _ _ _))⟩)) | (go_at_call 27; (with_reducible refine (spec_GoodPatterns.calls k _ _ l2 false _ ?side1 ?side2 A6.out).mono ?_); (case side1 => repeat (first | exact HR2.out | (with_reducible refine Kd.C_alloc ?_ _) | (with_reducible refine Kd.C_drewN ?_ _) | (with_reducible refine Kd.C_drew ?_))); (case side2 => exact HC2.out); rintro e w20 ⟨rfl, hb⟩; have n0_ := Aside0.mk (below_step lB hb); clear HB; have HB := n0_; clear n0_; (try clear hb); (try clear hb2); (try clear hk); (try clear hi)))
   repeat (go_quiet (first | (go_at_call 25; (with_reducible refine (spec_GoodTree.calls k _ _ l0 true _ ?side1 ?side2 A4.out).mono ?_); (case side1 => repeat (first | exact HR0.out | (with_reducible refine Kd.C_alloc ?_ _) | (with_reducible refine Kd.C_drewN ?_ _) | (with_reducible refine Kd.C_drew ?_))); (case side2 => exact HC0.out); rintro e w' ⟨rfl, ⟨nd, rfl⟩⟩; (try first | exact ⟨rfl, _, World.drewN_drewN _ _ _⟩ | exact ⟨rfl, _, Eq.trans (World.drewN_drewN _ _ _) (congrArg (World.drewN _) (Nat.add_assoc _ _ _))⟩))); try go_wp2_with (first | (go_at_call 25; (with_reducible refine (spec_GoodTree.calls k _ _ l0 true _ ?side1 ?side2 A4.out).mono ?_); (case side1 => repeat (first | exact HR0.out | (with_reducible refine Kd.C_alloc ?_ _) | (with_reducible refine Kd.C_drewN ?_ _) | (with_reducible refine Kd.C_drew ?_))); (case side2 => exact HC0.out); rintro e w' ⟨rfl, ⟨nd, rfl⟩⟩; (try first | exact ⟨rfl, _, World.drewN_drewN _ _ _⟩ | exact ⟨rfl, _, Eq.trans (World.drewN_drewN _ _ _) (congrArg (World.drewN _) (Nat.add_assoc _ _ _))⟩)) | (go_at_call 27; (with_reducible refine (spec_GoodPatterns.calls k _ _ l2 false _ ?side1 ?side2 A6.out).mono ?_); (case side1 => repeat (first | exact HR2.out | (with_reducible refine Kd.C_alloc ?_ _) | (with_reducible refine Kd.C_drewN ?_ _) | (with_reducible refine Kd.C_drew ?_))); (case side2 => exact HC2.out); rintro e w20 ⟨rfl, hb⟩; have n0_ := Aside0.mk (below_step lB hb); clear HB; have HB := n0_; clear n0_; (try clear hb); (try clear hb2); (try clear hk); (try clear hi))))
   go_ret2
   exact ⟨lE, lB⟩
 ·replace c5 := Bool.eq_false_iff.mpr c5
  subst c5
  rw [if_neg (show ¬ (false = true) by decide)] at H
  simp only [Option.some.injEq, Prod.mk.injEq] at H
  obtain ⟨rfl, rfl⟩ := H
  go_enter Try.func30, Try.ntmps30
  go_wp2_with (first | (go_at_call 25; (with_reducible refine (spec_GoodTree.calls k _ _ l0 false _ ?side1 ?side2 A4.out).mono ?_); (case side1 => repeat (first | exact HR0.out | (with_reducible refine Kd.C_alloc ?_ _) | (with_reducible refine Kd.C_drewN ?_ _) | (with_reducible refine Kd.C_drew ?_))); (case side2 => exact HC0.out); rintro e w' ⟨rfl, ⟨nd, rfl⟩⟩; (try first | exact ⟨rfl, _, World.drewN_drewN _ _ _⟩ | exact ⟨rfl, _, Eq.trans (World.drewN_drewN _ _ _) (congrArg (World.drewN _) (Nat.add_assoc _ _ _))⟩)))
  repeat (go_quiet (first | (go_at_call 25; (with_reducible refine (spec_GoodTree.calls k _ _ l0 false _ ?side1 ?side2 A4.out).mono ?_); (case side1 => repeat (first | exact HR0.out | (with_reducible refine Kd.C_alloc ?_ _) | (with_reducible refine Kd.C_drewN ?_ _) | (with_reducible refine Kd.C_drew ?_))); (case side2 => exact HC0.out); rintro e w' ⟨rfl, ⟨nd, rfl⟩⟩; (try first | exact ⟨rfl, _, World.drewN_drewN _ _ _⟩ | exact ⟨rfl, _, Eq.trans (World.drewN_drewN _ _ _) (congrArg (World.drewN _) (Nat.add_assoc _ _ _))⟩))); try go_wp2_with (first | (go_at_call 25; (with_reducible refine (spec_GoodTree.calls k _ _ l0 false _ ?side1 ?side2 A4.out).mono ?_); (case side1 => repeat (first | exact HR0.out | (with_reducible refine Kd.C_alloc ?_ _) | (with_reducible refine Kd.C_drewN ?_ _) | (with_reducible refine Kd.C_drew ?_))); (case side2 => exact HC0.out); rintro e w' ⟨rfl, ⟨nd, rfl⟩⟩; (try first | exact ⟨rfl, _, World.drewN_drewN _ _ _⟩ | exact ⟨rfl, _, Eq.trans (World.drewN_drewN _ _ _) (congrArg (World.drewN _) (Nat.add_assoc _ _ _))⟩))))
  go_ret2
  exact ⟨lE, lB⟩

end Go.Proofs.Ytfdbdbihhgabpaa.Q
