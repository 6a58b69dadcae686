-- Written by the program wip/tools/pr.py of this claim's session, over the kit's print.py.
import Derived.Test.YtgjojppbichaiaaQx0
import Derived.Test.YtgjojppbichaiaaQx1
namespace Go.Proofs.Ytgjojppbichaiaa.Q
open Go.RowKit Go.Proofs.YtgjojppbichaiaaW.PrintWords Go.Proofs.YtgjojppbichaiaaW.PrintLast Go.Proofs.YtgjojppbichaiaaW.PrintMore
attribute [local go_sem] max2_int min2_int max_two min_two max_three min_three max_four min_four   -- for this text's walks alone
set_option linter.unusedVariables false
set_option linter.unusedSimpArgs false

/-! ### spec_l16Arity: function 93 -/
mutual
def spec_l16Arity.j0 : Nat → Int → Bool → Option (Int)
 | 0, _, _ => none
 | k + 1, x3, x4 => if x4 = true then (some 0) else (if x3 = 3 then (spec_l16Arity.j1 k x3 (x3 == 3)) else (if x3 = 4 then (spec_l16Arity.j1 k x3 (x3 == 4)) else (spec_l16Arity.j1 k x3 (x3 == 5))))
def spec_l16Arity.j1 : Nat → Int → Bool → Option (Int)
 | 0, _, _ => none
 | k + 1, x3, x7 => if x7 = true then (some 2) else (if x3 = 6 then (some 1) else (some (-1)))
end
def spec_l16Arity.f (k : Nat) (a0 : Int) : Option (Int) := if a0 = 1 then (spec_l16Arity.j0 k a0 (a0 == 1)) else (spec_l16Arity.j0 k a0 (a0 == 2))
theorem spec_l16Arity.mono_l : ∀ k, (∀ y0 y1, LeO (spec_l16Arity.j0 k y0 y1) (spec_l16Arity.j0 (k + 1) y0 y1)) ∧ (∀ y0 y1, LeO (spec_l16Arity.j1 k y0 y1) (spec_l16Arity.j1 (k + 1) y0 y1))
 | 0 => ⟨fun _ _ r h => by simp [spec_l16Arity.j0] at h, fun _ _ r h => by simp [spec_l16Arity.j1] at h⟩
 | k + 1 => by
  obtain ⟨ih0, ih1⟩ := spec_l16Arity.mono_l k
  refine ⟨?_, ?_⟩
  ·intro y0 y1
   unfold spec_l16Arity.j0
   repeat' first
   | with_reducible apply ih0
   | with_reducible apply ih1
   | (with_reducible exact LeO.refl _)
   | (with_reducible exact LeO.none _)
   | (with_reducible refine LeO.ite ?_ ?_)
   | (with_reducible refine LeO.bind ?_ (fun _ => ?_))
   | apply ih0
   | apply ih1
   | exact LeO.none _
   | refine LeO.ite ?_ ?_
   | refine LeO.bind ?_ (fun _ => ?_)
  ·intro y0 y1
   unfold spec_l16Arity.j1
   repeat' first
   | with_reducible apply ih0
   | with_reducible apply ih1
   | (with_reducible exact LeO.refl _)
   | (with_reducible exact LeO.none _)
   | (with_reducible refine LeO.ite ?_ ?_)
   | (with_reducible refine LeO.bind ?_ (fun _ => ?_))
   | apply ih0
   | apply ih1
   | exact LeO.none _
   | refine LeO.ite ?_ ?_
   | refine LeO.bind ?_ (fun _ => ?_)
theorem spec_l16Arity.mono : ∀ a0 k, LeO (spec_l16Arity.f k a0) (spec_l16Arity.f (k + 1) a0) := by
 intro a0 k
 obtain ⟨ih0, ih1⟩ := spec_l16Arity.mono_l k
 unfold spec_l16Arity.f
 repeat' first
   | with_reducible apply ih0
   | with_reducible apply ih1
   | (with_reducible exact LeO.refl _)
   | (with_reducible exact LeO.none _)
   | (with_reducible refine LeO.ite ?_ ?_)
   | (with_reducible refine LeO.bind ?_ (fun _ => ?_))
   | apply ih0
   | apply ih1
   | exact LeO.none _
   | refine LeO.ite ?_ ?_
   | refine LeO.bind ?_ (fun _ => ?_)
set_option maxHeartbeats 8000000 in
set_option maxRecDepth 100000 in
theorem spec_l16Arity.calls (k : Nat) (a0 : Int) (r : Int) (w : World) (h : spec_l16Arity.f k a0 = some r) :
  Calls Try.prog 93 #[.int .i64 a0] w fun e w' => e = .returned (.int .i64 r) ∧ Drawn0 w w' := by
 have H : (if a0 = 1 then (spec_l16Arity.j0 k a0 (a0 == 1)) else (spec_l16Arity.j0 k a0 (a0 == 2))) = some r := h
 clear h
 have HC2 := Aside0.mk H
 clear H
 go_enter Try.func93, Try.ntmps93
 go_upto_if 4 with (fail)
 go_cut [4] (fun v4 wc => ∃ (kq : Nat) (x4_1 : Bool), v4 = .bool x4_1 ∧ Aside0 (spec_l16Arity.j0 kq a0 x4_1 = some r) ∧ Aside0 (kq ≤ k) ∧ Drawn0 w wc)
 case first =>
  have H := HC2.out
  clear HC2
  by_cases c3 : a0 = 1
  ·rw [if_pos c3] at H
   have c3b0 : (a0 == 1) = true := beq_iff_eq.mpr c3
   have c3b1 : (a0 != 1) = false := bne_eq_false_iff_eq.mpr c3
   clear c3
   (first | rw [c3b0] | (simp only [i64_w, i32_w]; rw [c3b0]) | skip)
   have H' := Aside0.mk H
   clear H
   go_wp2
   go_meet
   case rel => exact ⟨_, ((a0 == 1)), lF, H', ⟨lN⟩, by repeat (first | exact Drawn0.refl _ | apply Drawn0.step)⟩
  ·rw [if_neg c3] at H
   have c3b0 : (a0 == 1) = false := beq_eq_false_iff_ne.mpr c3
   have c3b1 : (a0 != 1) = true := bne_iff_ne.mpr c3
   (first | rw [c3b0] | (simp only [i64_w, i32_w]; rw [c3b0]) | skip)
   have H' := Aside0.mk H
   clear H
   go_wp2
   go_meet
   case rel => exact ⟨_, ((a0 == 2)), lF, H', ⟨lN⟩, by repeat (first | exact Drawn0.refl _ | apply Drawn0.step)⟩
 case rest =>
  clear HC2
  try clear p2
  try clear c3
  try clear c3b0
  try clear c3b1
  obtain ⟨kq, x4_1, rfl, HA, HJ1, ⟨mc1, rfl⟩⟩ := hcut
  cases kq with
  | zero => exact absurd HA.out (by simp [spec_l16Arity.j0])
  | succ kj1 =>
   have H := HA.out
   clear HA
   simp only [spec_l16Arity.j0] at H
   by_cases c4 : x4_1 = true
   ·subst c4
    rw [if_pos rfl] at H
    obtain rfl := Option.some.inj H
    first | (go_wp2; go_ret; exact ⟨by first | rfl | (simp; done) | (simp [*]; done), by repeat (first | exact Drawn0.refl _ | apply Drawn0.step)⟩) | (exfalso; simp only [decide_eq_false_iff_not, decide_eq_true_eq] at *; omega)
   ·replace c4 := Bool.eq_false_iff.mpr c4
    subst c4
    rw [if_neg (show ¬ (false = true) by decide)] at H
    have HC5 := Aside0.mk H
    clear H
    go_upto_if 7 with (fail)
    go_cut [7] (fun v7 wc => ∃ (kq : Nat) (x7_4 : Bool), v7 = .bool x7_4 ∧ Aside0 (spec_l16Arity.j1 kq a0 x7_4 = some r) ∧ Aside0 (kq ≤ kj1) ∧ Drawn0 w wc)
    case first =>
     have H := HC5.out
     clear HC5
     by_cases c6 : a0 = 3
     ·rw [if_pos c6] at H
      have c6b0 : (a0 == 3) = true := beq_iff_eq.mpr c6
      have c6b1 : (a0 != 3) = false := bne_eq_false_iff_eq.mpr c6
      clear c6
      (first | rw [c6b0] | (simp only [i64_w, i32_w]; rw [c6b0]) | skip)
      have H' := Aside0.mk H
      clear H
      go_wp2
      go_meet
      case rel => exact ⟨_, ((a0 == 3)), lF, H', ⟨by have := HJ1.out; first | omega | exact Nat.le_refl _⟩, by repeat (first | exact Drawn0.refl _ | apply Drawn0.step)⟩
     ·rw [if_neg c6] at H
      have c6b0 : (a0 == 3) = false := beq_eq_false_iff_ne.mpr c6
      have c6b1 : (a0 != 3) = true := bne_iff_ne.mpr c6
      (first | rw [c6b0] | (simp only [i64_w, i32_w]; rw [c6b0]) | skip)
      by_cases c7 : a0 = 4
      ·rw [if_pos c7] at H
       have c7b0 : (a0 == 4) = true := beq_iff_eq.mpr c7
       have c7b1 : (a0 != 4) = false := bne_eq_false_iff_eq.mpr c7
       clear c7
       have H' := Aside0.mk H
       clear H
       go_wp2
       go_meet
       case rel => exact ⟨_, ((a0 == 4)), lF, H', ⟨by have := HJ1.out; first | omega | exact Nat.le_refl _⟩, by repeat (first | exact Drawn0.refl _ | apply Drawn0.step)⟩
      ·rw [if_neg c7] at H
       have c7b0 : (a0 == 4) = false := beq_eq_false_iff_ne.mpr c7
       have c7b1 : (a0 != 4) = true := bne_iff_ne.mpr c7
       have H' := Aside0.mk H
       clear H
       go_wp2
       go_meet
       case rel => exact ⟨_, ((a0 == 5)), lF, H', ⟨by have := HJ1.out; first | omega | exact Nat.le_refl _⟩, by repeat (first | exact Drawn0.refl _ | apply Drawn0.step)⟩
    case rest =>
     clear HC5
     try clear c1
     try clear p2
     try clear c3
     try clear c3b0
     try clear c3b1
     try clear c4
     try clear c6
     try clear c6b0
     try clear c6b1
     try clear c7
     try clear c7b0
     try clear c7b1
     try clear p2
     obtain ⟨kq, x7_4, rfl, HA, HJ4, ⟨mc4, rfl⟩⟩ := hcut
     cases kq with
     | zero => exact absurd HA.out (by simp [spec_l16Arity.j1])
     | succ kj4 =>
      have H := HA.out
      clear HA
      simp only [spec_l16Arity.j1] at H
      by_cases c8 : x7_4 = true
      ·subst c8
       rw [if_pos rfl] at H
       obtain rfl := Option.some.inj H
       first | (go_wp2; go_ret; exact ⟨by first | rfl | (simp; done) | (simp [*]; done), by repeat (first | exact Drawn0.refl _ | apply Drawn0.step)⟩) | (exfalso; simp only [decide_eq_false_iff_not, decide_eq_true_eq] at *; omega)
      ·replace c8 := Bool.eq_false_iff.mpr c8
       subst c8
       rw [if_neg (show ¬ (false = true) by decide)] at H
       by_cases c9 : a0 = 6
       ·rw [if_pos c9] at H
        have c9b0 : (a0 == 6) = true := beq_iff_eq.mpr c9
        have c9b1 : (a0 != 6) = false := bne_eq_false_iff_eq.mpr c9
        clear c9
        obtain rfl := Option.some.inj H
        first | (go_wp2; go_ret; exact ⟨by first | rfl | (simp; done) | (simp [*]; done), by repeat (first | exact Drawn0.refl _ | apply Drawn0.step)⟩) | (exfalso; simp only [decide_eq_false_iff_not, decide_eq_true_eq] at *; omega)
       ·rw [if_neg c9] at H
        have c9b0 : (a0 == 6) = false := beq_eq_false_iff_ne.mpr c9
        have c9b1 : (a0 != 6) = true := bne_iff_ne.mpr c9
        obtain rfl := Option.some.inj H
        first | (go_wp2; go_ret; exact ⟨by first | rfl | (simp; done) | (simp [*]; done), by repeat (first | exact Drawn0.refl _ | apply Drawn0.step)⟩) | (exfalso; simp only [decide_eq_false_iff_not, decide_eq_true_eq] at *; omega)

/-! ### spec_l16Cell: function 92 -/
def spec_l16Cell.f (k : Nat) (a0_0 : Int) (a0_1 : Int) : Option (Bool) := if a0_0 = 1 then ((spec_l1In.f a0_1 0 99).bind fun t198 => (some t198)) else (if a0_0 = 2 then ((spec_l1In.f a0_1 1 9).bind fun t199 => (some t199)) else (if a0_0 = 4 then ((spec_l1In.f a0_1 0 9).bind fun t200 => (some t200)) else (if a0_0 = 6 then ((spec_l1In.f a0_1 0 5).bind fun t201 => (some t201)) else (if a0_1 = 0 then ((spec_l16Arity.f k a0_0).bind fun t202 => (some (decide (t202 > 0)))) else (some false)))))
theorem spec_l16Cell.mono : ∀ a0 a1 k, LeO (spec_l16Cell.f k a0 a1) (spec_l16Cell.f (k + 1) a0 a1) := by
 intro a0 a1 k
 unfold spec_l16Cell.f
 repeat' first
   | with_reducible apply spec_l16Arity.mono
   | (with_reducible exact LeO.refl _)
   | (with_reducible exact LeO.none _)
   | (with_reducible refine LeO.ite ?_ ?_)
   | (with_reducible refine LeO.bind ?_ (fun _ => ?_))
   | apply spec_l16Arity.mono
   | exact LeO.none _
   | refine LeO.ite ?_ ?_
   | refine LeO.bind ?_ (fun _ => ?_)
set_option maxHeartbeats 8000000 in
set_option maxRecDepth 100000 in
theorem spec_l16Cell.calls (k : Nat) (a0_0 : Int) (a0_1 : Int) (r : Bool) (w : World) (h : spec_l16Cell.f k a0_0 a0_1 = some r) :
  Calls Try.prog 92 #[.agg #[.int .i64 a0_0, .int .i64 a0_1]] w fun e w' => e = .returned (.bool r) ∧ Below w.heap.size w w' := by
 have hu76 := Try.underlying76
 have HB := Aside0.mk (Below.refl w.heap.size w)
 have H : (if a0_0 = 1 then ((spec_l1In.f a0_1 0 99).bind fun t198 => (some t198)) else (if a0_0 = 2 then ((spec_l1In.f a0_1 1 9).bind fun t199 => (some t199)) else (if a0_0 = 4 then ((spec_l1In.f a0_1 0 9).bind fun t200 => (some t200)) else (if a0_0 = 6 then ((spec_l1In.f a0_1 0 5).bind fun t201 => (some t201)) else (if a0_1 = 0 then ((spec_l16Arity.f k a0_0).bind fun t202 => (some (decide (t202 > 0)))) else (some false)))))) = some r := h
 clear h
 by_cases c2 : a0_0 = 1
 ·rw [if_pos c2] at H
  have c2b0 : (a0_0 == 1) = true := beq_iff_eq.mpr c2
  have c2b1 : (a0_0 != 1) = false := bne_eq_false_iff_eq.mpr c2
  clear c2
  replace H := lO H
  obtain ⟨t198, A3, H⟩ := H
  obtain rfl := Option.some.inj H
  go_enter Try.func92, Try.ntmps92
  go_wp2_with (first | ((with_reducible refine gate_dst (N := 1) rfl ?_); refine bxe 1 #[.int .i64 a0_0, .int .i64 a0_1] 76 ?_; intro gb197 hg w4 hbox hb; have n0_ := Aside0.mk (below_step lB hb); have n1_ := Aside0.mk (hbox); have n2_ := lG w hg; have n3_ := lG w hg; clear HB; have HB := n0_; have BK197 := n1_; have GW197 := n2_; have GE197 := n3_; clear n0_ n1_ n2_ n3_; clear hb hbox hg; obtain ⟨hcz5_0, hfz5_0, hcz5_1, hfz5_1⟩ := bk2 BK197.out) | ((with_reducible refine gate_callee (f := 51) rfl ?_); refine gl_ (some 9) (Try.func51) #[.int .i64 a0_1, .int .i64 0, .int .i64 99] ?_; (with_reducible refine (spec_l1In.calls a0_1 0 99 t198 _ A3.out).mono ?_); rintro e w' ⟨rfl, ⟨nd, rfl⟩⟩; refine ⟨_, rfl, ?_⟩))
  go_ret
  exact ⟨lE, lB⟩
 ·rw [if_neg c2] at H
  have c2b0 : (a0_0 == 1) = false := beq_eq_false_iff_ne.mpr c2
  have c2b1 : (a0_0 != 1) = true := bne_iff_ne.mpr c2
  by_cases c6 : a0_0 = 2
  ·rw [if_pos c6] at H
   have c6b0 : (a0_0 == 2) = true := beq_iff_eq.mpr c6
   have c6b1 : (a0_0 != 2) = false := bne_eq_false_iff_eq.mpr c6
   clear c6
   replace H := lO H
   obtain ⟨t199, A7, H⟩ := H
   obtain rfl := Option.some.inj H
   go_enter Try.func92, Try.ntmps92
   go_wp2_with (first | ((with_reducible refine gate_dst (N := 1) rfl ?_); refine bxe 1 #[.int .i64 a0_0, .int .i64 a0_1] 76 ?_; intro gb197 hg w8 hbox hb; have n0_ := Aside0.mk (below_step lB hb); have n1_ := Aside0.mk (hbox); have n2_ := lG w hg; have n3_ := lG w hg; clear HB; have HB := n0_; have BK197 := n1_; have GW197 := n2_; have GE197 := n3_; clear n0_ n1_ n2_ n3_; clear hb hbox hg; obtain ⟨hcz9_0, hfz9_0, hcz9_1, hfz9_1⟩ := bk2 BK197.out) | ((with_reducible refine gate_callee (f := 51) rfl ?_); refine gl_ (some 14) (Try.func51) #[.int .i64 a0_1, .int .i64 1, .int .i64 9] ?_; (with_reducible refine (spec_l1In.calls a0_1 1 9 t199 _ A7.out).mono ?_); rintro e w' ⟨rfl, ⟨nd, rfl⟩⟩; refine ⟨_, rfl, ?_⟩))
   go_ret
   exact ⟨lE, lB⟩
  ·rw [if_neg c6] at H
   have c6b0 : (a0_0 == 2) = false := beq_eq_false_iff_ne.mpr c6
   have c6b1 : (a0_0 != 2) = true := bne_iff_ne.mpr c6
   by_cases c10 : a0_0 = 4
   ·rw [if_pos c10] at H
    have c10b0 : (a0_0 == 4) = true := beq_iff_eq.mpr c10
    have c10b1 : (a0_0 != 4) = false := bne_eq_false_iff_eq.mpr c10
    clear c10
    replace H := lO H
    obtain ⟨t200, A11, H⟩ := H
    obtain rfl := Option.some.inj H
    go_enter Try.func92, Try.ntmps92
    go_wp2_with (first | ((with_reducible refine gate_dst (N := 1) rfl ?_); refine bxe 1 #[.int .i64 a0_0, .int .i64 a0_1] 76 ?_; intro gb197 hg w12 hbox hb; have n0_ := Aside0.mk (below_step lB hb); have n1_ := Aside0.mk (hbox); have n2_ := lG w hg; have n3_ := lG w hg; clear HB; have HB := n0_; have BK197 := n1_; have GW197 := n2_; have GE197 := n3_; clear n0_ n1_ n2_ n3_; clear hb hbox hg; obtain ⟨hcz13_0, hfz13_0, hcz13_1, hfz13_1⟩ := bk2 BK197.out) | ((with_reducible refine gate_callee (f := 51) rfl ?_); refine gl_ (some 19) (Try.func51) #[.int .i64 a0_1, .int .i64 0, .int .i64 9] ?_; (with_reducible refine (spec_l1In.calls a0_1 0 9 t200 _ A11.out).mono ?_); rintro e w' ⟨rfl, ⟨nd, rfl⟩⟩; refine ⟨_, rfl, ?_⟩))
    go_ret
    exact ⟨lE, lB⟩
   ·rw [if_neg c10] at H
    have c10b0 : (a0_0 == 4) = false := beq_eq_false_iff_ne.mpr c10
    have c10b1 : (a0_0 != 4) = true := bne_iff_ne.mpr c10
    by_cases c14 : a0_0 = 6
    ·rw [if_pos c14] at H
     have c14b0 : (a0_0 == 6) = true := beq_iff_eq.mpr c14
     have c14b1 : (a0_0 != 6) = false := bne_eq_false_iff_eq.mpr c14
     clear c14
     replace H := lO H
     obtain ⟨t201, A15, H⟩ := H
     obtain rfl := Option.some.inj H
     go_enter Try.func92, Try.ntmps92
     go_wp2_with (first | ((with_reducible refine gate_dst (N := 1) rfl ?_); refine bxe 1 #[.int .i64 a0_0, .int .i64 a0_1] 76 ?_; intro gb197 hg w16 hbox hb; have n0_ := Aside0.mk (below_step lB hb); have n1_ := Aside0.mk (hbox); have n2_ := lG w hg; have n3_ := lG w hg; clear HB; have HB := n0_; have BK197 := n1_; have GW197 := n2_; have GE197 := n3_; clear n0_ n1_ n2_ n3_; clear hb hbox hg; obtain ⟨hcz17_0, hfz17_0, hcz17_1, hfz17_1⟩ := bk2 BK197.out) | ((with_reducible refine gate_callee (f := 51) rfl ?_); refine gl_ (some 24) (Try.func51) #[.int .i64 a0_1, .int .i64 0, .int .i64 5] ?_; (with_reducible refine (spec_l1In.calls a0_1 0 5 t201 _ A15.out).mono ?_); rintro e w' ⟨rfl, ⟨nd, rfl⟩⟩; refine ⟨_, rfl, ?_⟩))
     go_ret
     exact ⟨lE, lB⟩
    ·rw [if_neg c14] at H
     have c14b0 : (a0_0 == 6) = false := beq_eq_false_iff_ne.mpr c14
     have c14b1 : (a0_0 != 6) = true := bne_iff_ne.mpr c14
     by_cases c18 : a0_1 = 0
     ·rw [if_pos c18] at H
      have c18b0 : (a0_1 == 0) = true := beq_iff_eq.mpr c18
      have c18b1 : (a0_1 != 0) = false := bne_eq_false_iff_eq.mpr c18
      clear c18
      replace H := lO H
      obtain ⟨t202, A19, H⟩ := H
      obtain rfl := Option.some.inj H
      go_enter Try.func92, Try.ntmps92
      go_wp2_with (first | ((with_reducible refine gate_dst (N := 1) rfl ?_); refine bxe 1 #[.int .i64 a0_0, .int .i64 a0_1] 76 ?_; intro gb197 hg w20 hbox hb; have n0_ := Aside0.mk (below_step lB hb); have n1_ := Aside0.mk (hbox); have n2_ := lG w hg; have n3_ := lG w hg; clear HB; have HB := n0_; have BK197 := n1_; have GW197 := n2_; have GE197 := n3_; clear n0_ n1_ n2_ n3_; clear hb hbox hg; obtain ⟨hcz21_0, hfz21_0, hcz21_1, hfz21_1⟩ := bk2 BK197.out) | (go_at_call 93; (with_reducible refine (spec_l16Arity.calls k a0_0 t202 _ A19.out).mono ?_); rintro e w' ⟨rfl, ⟨nd, rfl⟩⟩))
      go_ret
      exact ⟨lE, lB⟩
     ·rw [if_neg c18] at H
      have c18b0 : (a0_1 == 0) = false := beq_eq_false_iff_ne.mpr c18
      have c18b1 : (a0_1 != 0) = true := bne_iff_ne.mpr c18
      obtain rfl := Option.some.inj H
      go_enter Try.func92, Try.ntmps92
      go_wp2_with (first | ((with_reducible refine gate_dst (N := 1) rfl ?_); refine bxe 1 #[.int .i64 a0_0, .int .i64 a0_1] 76 ?_; intro gb197 hg w22 hbox hb; have n0_ := Aside0.mk (below_step lB hb); have n1_ := Aside0.mk (hbox); have n2_ := lG w hg; have n3_ := lG w hg; clear HB; have HB := n0_; have BK197 := n1_; have GW197 := n2_; have GE197 := n3_; clear n0_ n1_ n2_ n3_; clear hb hbox hg; obtain ⟨hcz23_0, hfz23_0, hcz23_1, hfz23_1⟩ := bk2 BK197.out))
      go_ret
      exact ⟨lE, lB⟩

/-! ### spec_l16Read: function 75 -/
mutual
def spec_l16Read.j0 : Nat → List (S76) → Int → Bool → Option (Int × Int × (List (S72)) × Int)
 | 0, _, _, _ => none
 | k + 1, x0, x1, x21 => if x21 = true then (some (0, 0, ([] : List (S72)), 0)) else (if 0 ≤ x1 then (if x1 < (x0.length : Int) then ((spec_l16Arity.f k ((rd_T76 x0 x1).f0)).bind fun t209 => (spec_l16Read.l0 k x0 (wrap64 (x1 + 1)) t209 ((rd_T76 x0 x1).f0) ((rd_T76 x0 x1).f1) ([] : List (S72)))) else (none)) else (none))
def spec_l16Read.l0 : Nat → List (S76) → Int → Int → Int → Int → List (S72) → Option (Int × Int × (List (S72)) × Int)
 | 0, _, _, _, _, _, _ => none
 | k + 1, x0, x1, x7, x209000, x209001, x209002 => if x7 > 0 then ((spec_l16Read.f k x0 x1).bind fun bt210 => (if bt210.2.2.2 = 0 then (some (0, 0, ([] : List (S72)), 0)) else (if x209002.length < 3518437208883 then (spec_l16Read.l0 k x0 bt210.2.2.2 (wrap64 (x7 - 1)) x209000 x209001 (x209002 ++ [(⟨bt210.1, bt210.2.1, bt210.2.2.1⟩ : S72)])) else (none)))) else (some (x209000, x209001, x209002, x1))
def spec_l16Read.f : Nat → List (S76) → Int → Option (Int × Int × (List (S72)) × Int)
 | 0, _, _ => none
 | k + 1, l0, a1 => if a1 ≥ (l0.length : Int) then (spec_l16Read.j0 k l0 a1 true) else (if 0 ≤ a1 then (if a1 < (l0.length : Int) then ((spec_l16Cell.f k ((rd_T76 l0 a1).f0) ((rd_T76 l0 a1).f1)).bind fun t205 => (spec_l16Read.j0 k l0 a1 (!t205))) else (none)) else (none))
end
theorem spec_l16Read.mono_l : ∀ k, (∀ y0 y1, LeO (spec_l16Read.f k y0 y1) (spec_l16Read.f (k + 1) y0 y1)) ∧ (∀ y0 y1 y2, LeO (spec_l16Read.j0 k y0 y1 y2) (spec_l16Read.j0 (k + 1) y0 y1 y2)) ∧ (∀ y0 y1 y2 y3 y4 y5, LeO (spec_l16Read.l0 k y0 y1 y2 y3 y4 y5) (spec_l16Read.l0 (k + 1) y0 y1 y2 y3 y4 y5))
 | 0 => ⟨fun _ _ r h => by simp [spec_l16Read.f] at h, fun _ _ _ r h => by simp [spec_l16Read.j0] at h, fun _ _ _ _ _ _ r h => by simp [spec_l16Read.l0] at h⟩
 | k + 1 => by
  obtain ⟨ih0, ih1, ih2⟩ := spec_l16Read.mono_l k
  refine ⟨?_, ?_, ?_⟩
  ·intro y0 y1
   unfold spec_l16Read.f
   repeat' first
   | with_reducible apply ih0
   | with_reducible apply ih1
   | with_reducible apply ih2
   | with_reducible apply spec_l16Arity.mono
   | with_reducible apply spec_l16Cell.mono
   | (with_reducible exact LeO.refl _)
   | (with_reducible exact LeO.none _)
   | (with_reducible refine LeO.ite ?_ ?_)
   | (with_reducible refine LeO.bind ?_ (fun _ => ?_))
   | apply ih0
   | apply ih1
   | apply ih2
   | apply spec_l16Arity.mono
   | apply spec_l16Cell.mono
   | exact LeO.none _
   | refine LeO.ite ?_ ?_
   | refine LeO.bind ?_ (fun _ => ?_)
  ·intro y0 y1 y2
   unfold spec_l16Read.j0
   repeat' first
   | with_reducible apply ih0
   | with_reducible apply ih1
   | with_reducible apply ih2
   | with_reducible apply spec_l16Arity.mono
   | with_reducible apply spec_l16Cell.mono
   | (with_reducible exact LeO.refl _)
   | (with_reducible exact LeO.none _)
   | (with_reducible refine LeO.ite ?_ ?_)
   | (with_reducible refine LeO.bind ?_ (fun _ => ?_))
   | apply ih0
   | apply ih1
   | apply ih2
   | apply spec_l16Arity.mono
   | apply spec_l16Cell.mono
   | exact LeO.none _
   | refine LeO.ite ?_ ?_
   | refine LeO.bind ?_ (fun _ => ?_)
  ·intro y0 y1 y2 y3 y4 y5
   unfold spec_l16Read.l0
   repeat' first
   | with_reducible apply ih0
   | with_reducible apply ih1
   | with_reducible apply ih2
   | with_reducible apply spec_l16Arity.mono
   | with_reducible apply spec_l16Cell.mono
   | (with_reducible exact LeO.refl _)
   | (with_reducible exact LeO.none _)
   | (with_reducible refine LeO.ite ?_ ?_)
   | (with_reducible refine LeO.bind ?_ (fun _ => ?_))
   | apply ih0
   | apply ih1
   | apply ih2
   | apply spec_l16Arity.mono
   | apply spec_l16Cell.mono
   | exact LeO.none _
   | refine LeO.ite ?_ ?_
   | refine LeO.bind ?_ (fun _ => ?_)
theorem spec_l16Read.mono : ∀ a0 a1 k, LeO (spec_l16Read.f k a0 a1) (spec_l16Read.f (k + 1) a0 a1) := by
 intro a0 a1 k
 obtain ⟨ih0, ih1, ih2⟩ := spec_l16Read.mono_l k
 exact ih0 a0 a1
def spec_l16Read.T3 : Bool × List (List Nat × List Nat) := (true, [([], []), ([], []), ([0, 1], [0, 1]), ([2], [2]), ([3], [3]), ([], []), ([], []), ([5, 6], [5, 6]), ([7], [7]), ([8], [8]), ([4, 9], [4, 9]), ([], []), ([11, 10, 0, 1, 2, 3, 4, 5, 6, 7, 8, 9, 10, 11], [10, 11])])
def spec_l16Read.B3 : List Nat := [0, 0, 3, 7, 15, 0, 0, 96, 224, 480, 1023, 0, 4095]
theorem spec_l16Read.tab3 : rtab .any (opsOf Try.f75 3) = spec_l16Read.T3 := by kernel_rfl
theorem spec_l16Read.bits3 : waitsOk spec_l16Read.T3.2 spec_l16Read.B3 = true := by kernel_rfl
set_option maxHeartbeats 8000000 in
set_option maxRecDepth 100000 in
theorem spec_l16Read.calls (k : Nat) : ∀ (A0 : Option Addr) (c0 : Nat) (l0 : List (S76)) (a1 : Int) (r1 : Int) (r2 : Int) (r3 : List (S72)) (r4 : Int) (w : World) (hr0 : Kd.C k76 w A0 l0.length l0) (hc0 : l0.length ≤ c0) (h : spec_l16Read.f k l0 a1 = some (r1, r2, r3, r4)),
  Calls Try.prog 75 #[.slice A0 l0.length c0, .int .i64 a1] w fun e w' => ∃ v2_ : Value, e = .returned (.tuple #[.agg #[.int .i64 r1, .int .i64 r2, v2_], .int .i64 r4]) ∧ Kd.R k72 72 w' w.heap.size (fun _ => True) v2_ r3 ∧ Below w.heap.size w w' := by
 induction k using Nat.strongRecOn with
 | _ k ih =>
 intro A0 c0 l0 a1 r1 r2 r3 r4 w hr0 hc0 h
 cases k with
 | zero => exact absurd h (by simp [spec_l16Read.f])
 | succ k =>
 simp only [spec_l16Read.f] at h
 have hu72 := Try.underlying72
 have hu76 := Try.underlying76
 have HR0 := Aside0.mk hr0
 have HC0 := Aside0.mk hc0
 clear hr0 hc0
 have HB := Aside0.mk (Below.refl w.heap.size w)
 have H : (if a1 ≥ (l0.length : Int) then (spec_l16Read.j0 k l0 a1 true) else (if 0 ≤ a1 then (if a1 < (l0.length : Int) then ((spec_l16Cell.f k ((rd_T76 l0 a1).f0) ((rd_T76 l0 a1).f1)).bind fun t205 => (spec_l16Read.j0 k l0 a1 (!t205))) else (none)) else (none))) = some (r1, r2, r3, r4) := h
 clear h
 have HC3 := Aside0.mk H
 clear H
 go_enter Try.func75, Try.ntmps75
 go_upto_region 1 with (first | ((with_reducible refine gate_dst (N := 4) rfl ?_); refine bxe 4 #[.int .i64 0, .int .i64 0, .slice none 0 0] 72 ?_; intro gb203 hg w4 hbox hb; have n0_ := Aside0.mk (below_step lB hb); have n1_ := Aside0.mk (hbox); have n2_ := lG w hg; have n3_ := lG w hg; clear HB; have HB := n0_; have BK203 := n1_; have GW203 := n2_; have GE203 := n3_; clear n0_ n1_ n2_ n3_; clear hb hbox hg))
 (try simp only [Act.put, List.setIfInBounds_toArray, List.set_cons_zero, List.set_cons_succ])
 go_cut [21] (fun v21 wc => ∃ (kq : Nat) (x21_2 : Bool), v21 = .bool x21_2 ∧ Aside0 (spec_l16Read.j0 kq l0 a1 x21_2 = some (r1, r2, r3, r4)) ∧ Aside0 (kq ≤ k) ∧ Aside0 (wc.heap[gb203]? = some (.cells #[.int .i64 0, .int .i64 0, (.slice none 0 0)] 72 (0, 0))) ∧ Aside0 (Below w.heap.size w wc))
 case first =>
  have H := HC3.out
  clear HC3
  by_cases c5 : a1 ≥ (l0.length : Int)
  ·rw [if_pos c5] at H
   have c5b0 : decide ((l0.length : Int) ≤ a1) = true := decide_eq_true c5
   clear c5
   (first | rw [c5b0] | (simp only [i64_w, i32_w]; rw [c5b0]) | skip)
   have H' := Aside0.mk H
   clear H
   go_wp2
   go_meet
   case rel => exact ⟨_, (true), lF, H', ⟨lN⟩, ⟨lK BK203.out⟩, ⟨lB⟩⟩
  ·rw [if_neg c5] at H
   have c5b0 : decide ((l0.length : Int) ≤ a1) = false := decide_eq_false c5
   clear c5
   (first | rw [c5b0] | (simp only [i64_w, i32_w]; rw [c5b0]) | skip)
   by_cases c6 : 0 ≤ a1
   ·rw [if_pos c6] at H
    have c6b0 : decide (0 ≤ a1) = true := decide_eq_true c6
    clear c6
    by_cases c7 : a1 < (l0.length : Int)
    ·rw [if_pos c7] at H
     have c7b0 : decide (a1 < (l0.length : Int)) = true := decide_eq_true c7
     clear c7
     replace H := lO H
     obtain ⟨t205, A8, H⟩ := H
     have H' := Aside0.mk H
     clear H
     have p204 : 0 ≤ (a1 : Int) := lD
     have q204 : a1 < (l0.length : Int) := lD
     obtain ⟨ad204, e204, hx204_0, hx204_1⟩ := at_T76 HR0.out a1 p204 q204
     cases e204
     replace hx204_0 := pw_cell_below HB.out hx204_0
     replace hx204_1 := pw_cell_below HB.out hx204_1
     replace p204 := eq_true p204
     replace q204 := eq_true q204
     go_wp2_with (first | (go_at_call 92; (with_reducible refine (spec_l16Cell.calls k ((rd_T76 l0 a1).f0) ((rd_T76 l0 a1).f1) t205 _ A8.out).mono ?_); rintro e w9 ⟨rfl, hb⟩; have n0_ := Aside0.mk (blk_below (lK BK203.out) hb); have n1_ := Aside0.mk (below_step lB hb); clear BK203; clear HB; have BK203 := n0_; have HB := n1_; clear n0_ n1_; (try clear hb); (try clear hb2); (try clear hk); (try clear hi)))
     go_meet
     case rel => exact ⟨_, (!t205), lF, H', ⟨lN⟩, ⟨lK BK203.out⟩, ⟨lB⟩⟩
    ·rw [if_neg c7] at H
     exact absurd H (by simp)
   ·rw [if_neg c6] at H
    exact absurd H (by simp)
 case rest =>
  clear HC3
  try clear p2
  try clear q2
  try clear hx2
  try clear c5
  try clear c5b0
  try clear c6
  try clear c6b0
  try clear c7
  try clear c7b0
  try clear hx204_0
  try clear hx204_1
  try clear p204
  try clear q204
  obtain ⟨kq, x21_2, rfl, HA, HJ2, BK203, HB⟩ := hcut
  cases kq with
  | zero => exact absurd HA.out (by simp [spec_l16Read.j0])
  | succ kj2 =>
   have H := HA.out
   clear HA
   simp only [spec_l16Read.j0] at H
   by_cases c10 : x21_2 = true
   ·subst c10
    rw [if_pos rfl] at H
    simp only [Option.some.injEq, Prod.mk.injEq] at H
    obtain ⟨rfl, rfl, rfl, rfl⟩ := H
    obtain ⟨hcz11_0, hfz11_0, hcz11_1, hfz11_1, hcz11_2, hfz11_2⟩ := bk3 BK203.out
    go_wp2
    refine bodyPost_ret (results_ct rfl _ _ gb203 72 #[.int .i64 0, .int .i64 0, .slice none 0 0] (0, 0) _ rfl (by (with_reducible repeat first | apply bN | apply bD | apply bA); refine blk_put (cs := #[.int .i64 0, .int .i64 0, .slice none 0 0]) ?_ 2 _ rfl; (with_reducible repeat first | apply bN | apply bD | apply bA); refine blk_put (cs := #[.int .i64 0, .int .i64 0, .slice none 0 0]) ?_ 1 _ rfl; (with_reducible repeat first | apply bN | apply bD | apply bA); refine blk_put (cs := #[.int .i64 0, .int .i64 0, .slice none 0 0]) ?_ 0 _ rfl; (with_reducible repeat first | apply bN | apply bD | apply bA); exact BK203.out) Try.underlying72 rfl (by kernel_rfl)) rfl ?_
    exact ⟨_, lE, by first | exact Kd.R_nil _ _ _ _ _ | exact Kd.N_nil _ _ _ _ _ | exact Kd.V_nil _ _ _ _ _ | exact Kd.Q_nil _ _ _ _ _ | exact Kd.S_nil _ _ _ _ _, lB⟩
   ·replace c10 := Bool.eq_false_iff.mpr c10
    subst c10
    rw [if_neg (show ¬ (false = true) by decide)] at H
    by_cases c12 : 0 ≤ a1
    ·rw [if_pos c12] at H
     have c12b0 : decide (0 ≤ a1) = true := decide_eq_true c12
     clear c12
     by_cases c13 : a1 < (l0.length : Int)
     ·rw [if_pos c13] at H
      have c13b0 : decide (a1 < (l0.length : Int)) = true := decide_eq_true c13
      clear c13
      replace H := lO H
      obtain ⟨t209, A14, H⟩ := H
      have H' := Aside0.mk H
      clear H
      try go_wp2
      have n0_ := Aside0.mk (blk_drew BK203.out)
      have n1_ := Aside0.mk (below_drew1 HB.out)
      clear BK203
      clear HB
      have BK203 := n0_
      have HB := n1_
      clear n0_ n1_
      have p206 : 0 ≤ (a1 : Int) := lD
      have q206 : a1 < (l0.length : Int) := lD
      obtain ⟨ad206, e206, hx206_0, hx206_1⟩ := at_T76 HR0.out a1 p206 q206
      have hw206_1 := hx206_1
      have hw206_0 := hx206_0
      cases e206
      replace hx206_0 := pw_cell_below HB.out hx206_0
      replace hx206_1 := pw_cell_below HB.out hx206_1
      replace p206 := eq_true p206
      replace q206 := eq_true q206
      have p207 : 0 ≤ (a1 : Int) := lD
      have q207 : a1 < (l0.length : Int) := lD
      obtain ⟨ad207, e207, hx207_0, hx207_1⟩ := at_T76 HR0.out a1 p207 q207
      have hw207_1 := hx207_1
      have hw207_0 := hx207_0
      obtain rfl : ad206 = ad207 := (by injection e207)
      replace hx207_0 := pw_cell_below HB.out hx207_0
      replace hx207_1 := pw_cell_below HB.out hx207_1
      replace p207 := eq_true p207
      replace q207 := eq_true q207
      refine start_ (n := 13) (S := fun w' => w'.cell? (ad206.add ((a1).toNat * 2)) = some (.int .i64 ((rd_T76 l0 a1).f0)) ∧ w'.cell? ⟨(ad206.add ((a1).toNat * 2)).block, (ad206.add ((a1).toNat * 2)).off + 1, none⟩ = some (.int .i64 ((rd_T76 l0 a1).f1)) ∧ w'.cell? (ad206.add ((a1).toNat * 2)) = some (.int .i64 ((rd_T76 l0 a1).f0)) ∧ w'.cell? ⟨(ad206.add ((a1).toNat * 2)).block, (ad206.add ((a1).toNat * 2)).off + 1, none⟩ = some (.int .i64 ((rd_T76 l0 a1).f1))) (ds := []) (bs 13 0) kR rfl kR ⟨((HB.out.cell (World.block_lt_of_cell? w _ hw206_0)).trans hw206_0), ((HB.out.cell (World.block_lt_of_cell? w _ hw206_1)).trans hw206_1), ((HB.out.cell (World.block_lt_of_cell? w _ hw207_0)).trans hw207_0), ((HB.out.cell (World.block_lt_of_cell? w _ hw207_1)).trans hw207_1)⟩ (fun hHeld => ?_); refine with_tabW spec_l16Read.tab3 spec_l16Read.bits3 (fun HT_ HW_ => ?_)
      generalize wc.drew = w15 at BK203 HB hx206_0 hx206_1 hx207_0 hx207_1 hHeld ⊢
      refine pur_ 0 23 (bs 13 1) (any_of HT_.out kR) ?_
      refine pur_ 1 24 (bs 13 3) (any_of HT_.out kR) ?_
      refine pur_ 2 25 (bs 13 7) (any_of HT_.out kR) ?_
      refine pur_ 3 26 (bs 13 15) (any_of HT_.out kR) ?_
      refine pur_ 5 28 (bs 13 47) (any_of HT_.out kR) ?_
      refine pur_ 6 29 (bs 13 111) (any_of HT_.out kR) ?_
      refine pur_ 7 30 (bs 13 239) (any_of HT_.out kR) ?_
      refine pur_ 8 31 (bs 13 495) (any_of HT_.out kR) ?_
      refine tak_ 4 27 (bs 13 511) (take_ofW HT_.out HW_.out kR) hHeld ?_
      refine tak_ 9 32 (bs 13 1023) (take_ofW HT_.out HW_.out kR) hHeld ?_
      refine pur_ 10 33 (bs 13 2047) (any_of HT_.out kR) ?_
      refine one_ (i := 11) (N := some 6) (bs 13 4095) rfl rfl (one_of HT_.out (by kernel_rfl)) (by decide) (fun K hK => ?_)
      refine box_step ?hg (N := 6) ?hd (cs := #[.int .i64 0, .int .i64 0, .slice none 0 0]) (t := 72) ?hr ?_; (case hd => rfl); (case hg => rfl); (case hr => first | (go_simp; done) | (go_simp; rfl))
      intro gb208 hg w16 hbox hb
      have n0_ := Aside0.mk (blk_below (lK BK203.out) hb)
      have n1_ := Aside0.mk (below_step lB hb)
      have n2_ := Aside0.mk (hbox)
      have n3_ := lG w hg
      have n4_ := lG w hg
      have n5_ := Aside0.mk ((by rw [hg]; exact Nat.ne_of_lt (blk_lt (lK BK203.out)) : gb203 ≠ gb208))
      have n6_ := Aside0.mk ((by rw [hg]; exact Nat.ne_of_gt (blk_lt (lK BK203.out)) : gb208 ≠ gb203))
      clear BK203
      clear HB
      have BK203 := n0_
      have HB := n1_
      have BK208 := n2_
      have GW208 := n3_
      have GE208 := n4_
      have NB203_208 := n5_
      have NB208_203 := n6_
      clear n0_ n1_ n2_ n3_ n4_ n5_ n6_
      clear hb hbox hg
      refine hK.out _ _ ⟨((HB.out.cell (World.block_lt_of_cell? w _ hw206_0)).trans hw206_0), ((HB.out.cell (World.block_lt_of_cell? w _ hw206_1)).trans hw206_1), ((HB.out.cell (World.block_lt_of_cell? w _ hw207_0)).trans hw207_0), ((HB.out.cell (World.block_lt_of_cell? w _ hw207_1)).trans hw207_1)⟩ (fun hHeld => ?_)
      clear hK K
      refine norm_ (a' := ?_) ?_ ?_
      rotate_left
      ·show Act.put _ (some 6) _ = _
       simp only [Act.put, List.setIfInBounds_toArray, List.set_cons_zero, List.set_cons_succ, i64_w, i32_w]
       rfl
      refine one_ (i := 12) (N := none) (bs 13 8191) rfl rfl (one_of HT_.out (by kernel_rfl)) (by decide) (fun K hK => ?_)
      have hs17 : w16.cell? ⟨gb208, 0, none⟩ = some (.int .i64 0) := bZ BK208.out 0
      have hfs17 := blk_frozen BK208.out 0
      have hns17_0 := NB203_208.out
      have hms17_0 := NB208_203.out
      have hs18 : w16.cell? ⟨gb208, 1, none⟩ = some (.int .i64 0) := bZ BK208.out 1
      have hfs18 := blk_frozen BK208.out 1
      have hns18_0 := NB203_208.out
      have hms18_0 := NB208_203.out
      have hs19 : w16.cell? ⟨gb208, 2, none⟩ = some (.slice none 0 0) := bZ BK208.out 2
      have hfs19 := blk_frozen BK208.out 2
      have hns19_0 := NB203_208.out
      have hms19_0 := NB208_203.out
      refine skip_ (w1 := ?_) (by rfl) rfl ?_ ?_
      rotate_left
      ·go_simp
       rfl
      refine hK.out _ _ ⟨((cell_far (p := ⟨gb208, _, none⟩) (by first | exact Nat.ne_of_lt (Nat.lt_of_lt_of_le (by have := World.block_lt_of_cell? _ _ hw206_0; first | rwa [add_block] at this | exact this) GW208.out) | (rw [add_block]; exact Nat.ne_of_lt (Nat.lt_of_lt_of_le (by have := World.block_lt_of_cell? _ _ hw206_0; first | rwa [add_block] at this | exact this) GW208.out)) | (show (Addr.add _ _).block ≠ _; rw [add_block]; exact Nat.ne_of_lt (Nat.lt_of_lt_of_le (by have := World.block_lt_of_cell? _ _ hw206_0; first | rwa [add_block] at this | exact this) GW208.out)) | (dsimp only; exact Nat.ne_of_lt (Nat.lt_of_lt_of_le (by have := World.block_lt_of_cell? _ _ hw206_0; first | rwa [add_block] at this | exact this) GW208.out))) _).trans (((cell_far (p := ⟨gb208, _, none⟩) (by first | exact Nat.ne_of_lt (Nat.lt_of_lt_of_le (by have := World.block_lt_of_cell? _ _ hw206_0; first | rwa [add_block] at this | exact this) GW208.out) | (rw [add_block]; exact Nat.ne_of_lt (Nat.lt_of_lt_of_le (by have := World.block_lt_of_cell? _ _ hw206_0; first | rwa [add_block] at this | exact this) GW208.out)) | (show (Addr.add _ _).block ≠ _; rw [add_block]; exact Nat.ne_of_lt (Nat.lt_of_lt_of_le (by have := World.block_lt_of_cell? _ _ hw206_0; first | rwa [add_block] at this | exact this) GW208.out)) | (dsimp only; exact Nat.ne_of_lt (Nat.lt_of_lt_of_le (by have := World.block_lt_of_cell? _ _ hw206_0; first | rwa [add_block] at this | exact this) GW208.out))) _).trans (((cell_far (p := ⟨gb208, _, none⟩) (by first | exact Nat.ne_of_lt (Nat.lt_of_lt_of_le (by have := World.block_lt_of_cell? _ _ hw206_0; first | rwa [add_block] at this | exact this) GW208.out) | (rw [add_block]; exact Nat.ne_of_lt (Nat.lt_of_lt_of_le (by have := World.block_lt_of_cell? _ _ hw206_0; first | rwa [add_block] at this | exact this) GW208.out)) | (show (Addr.add _ _).block ≠ _; rw [add_block]; exact Nat.ne_of_lt (Nat.lt_of_lt_of_le (by have := World.block_lt_of_cell? _ _ hw206_0; first | rwa [add_block] at this | exact this) GW208.out)) | (dsimp only; exact Nat.ne_of_lt (Nat.lt_of_lt_of_le (by have := World.block_lt_of_cell? _ _ hw206_0; first | rwa [add_block] at this | exact this) GW208.out))) _).trans (hHeld.1)))))), ((cell_far (p := ⟨gb208, _, none⟩) (by first | exact Nat.ne_of_lt (Nat.lt_of_lt_of_le (by have := World.block_lt_of_cell? _ _ hw206_1; first | rwa [add_block] at this | exact this) GW208.out) | (rw [add_block]; exact Nat.ne_of_lt (Nat.lt_of_lt_of_le (by have := World.block_lt_of_cell? _ _ hw206_1; first | rwa [add_block] at this | exact this) GW208.out)) | (show (Addr.add _ _).block ≠ _; rw [add_block]; exact Nat.ne_of_lt (Nat.lt_of_lt_of_le (by have := World.block_lt_of_cell? _ _ hw206_1; first | rwa [add_block] at this | exact this) GW208.out)) | (dsimp only; exact Nat.ne_of_lt (Nat.lt_of_lt_of_le (by have := World.block_lt_of_cell? _ _ hw206_1; first | rwa [add_block] at this | exact this) GW208.out))) _).trans (((cell_far (p := ⟨gb208, _, none⟩) (by first | exact Nat.ne_of_lt (Nat.lt_of_lt_of_le (by have := World.block_lt_of_cell? _ _ hw206_1; first | rwa [add_block] at this | exact this) GW208.out) | (rw [add_block]; exact Nat.ne_of_lt (Nat.lt_of_lt_of_le (by have := World.block_lt_of_cell? _ _ hw206_1; first | rwa [add_block] at this | exact this) GW208.out)) | (show (Addr.add _ _).block ≠ _; rw [add_block]; exact Nat.ne_of_lt (Nat.lt_of_lt_of_le (by have := World.block_lt_of_cell? _ _ hw206_1; first | rwa [add_block] at this | exact this) GW208.out)) | (dsimp only; exact Nat.ne_of_lt (Nat.lt_of_lt_of_le (by have := World.block_lt_of_cell? _ _ hw206_1; first | rwa [add_block] at this | exact this) GW208.out))) _).trans (((cell_far (p := ⟨gb208, _, none⟩) (by first | exact Nat.ne_of_lt (Nat.lt_of_lt_of_le (by have := World.block_lt_of_cell? _ _ hw206_1; first | rwa [add_block] at this | exact this) GW208.out) | (rw [add_block]; exact Nat.ne_of_lt (Nat.lt_of_lt_of_le (by have := World.block_lt_of_cell? _ _ hw206_1; first | rwa [add_block] at this | exact this) GW208.out)) | (show (Addr.add _ _).block ≠ _; rw [add_block]; exact Nat.ne_of_lt (Nat.lt_of_lt_of_le (by have := World.block_lt_of_cell? _ _ hw206_1; first | rwa [add_block] at this | exact this) GW208.out)) | (dsimp only; exact Nat.ne_of_lt (Nat.lt_of_lt_of_le (by have := World.block_lt_of_cell? _ _ hw206_1; first | rwa [add_block] at this | exact this) GW208.out))) _).trans (hHeld.2.1)))))), ((cell_far (p := ⟨gb208, _, none⟩) (by first | exact Nat.ne_of_lt (Nat.lt_of_lt_of_le (by have := World.block_lt_of_cell? _ _ hw207_0; first | rwa [add_block] at this | exact this) GW208.out) | (rw [add_block]; exact Nat.ne_of_lt (Nat.lt_of_lt_of_le (by have := World.block_lt_of_cell? _ _ hw207_0; first | rwa [add_block] at this | exact this) GW208.out)) | (show (Addr.add _ _).block ≠ _; rw [add_block]; exact Nat.ne_of_lt (Nat.lt_of_lt_of_le (by have := World.block_lt_of_cell? _ _ hw207_0; first | rwa [add_block] at this | exact this) GW208.out)) | (dsimp only; exact Nat.ne_of_lt (Nat.lt_of_lt_of_le (by have := World.block_lt_of_cell? _ _ hw207_0; first | rwa [add_block] at this | exact this) GW208.out))) _).trans (((cell_far (p := ⟨gb208, _, none⟩) (by first | exact Nat.ne_of_lt (Nat.lt_of_lt_of_le (by have := World.block_lt_of_cell? _ _ hw207_0; first | rwa [add_block] at this | exact this) GW208.out) | (rw [add_block]; exact Nat.ne_of_lt (Nat.lt_of_lt_of_le (by have := World.block_lt_of_cell? _ _ hw207_0; first | rwa [add_block] at this | exact this) GW208.out)) | (show (Addr.add _ _).block ≠ _; rw [add_block]; exact Nat.ne_of_lt (Nat.lt_of_lt_of_le (by have := World.block_lt_of_cell? _ _ hw207_0; first | rwa [add_block] at this | exact this) GW208.out)) | (dsimp only; exact Nat.ne_of_lt (Nat.lt_of_lt_of_le (by have := World.block_lt_of_cell? _ _ hw207_0; first | rwa [add_block] at this | exact this) GW208.out))) _).trans (((cell_far (p := ⟨gb208, _, none⟩) (by first | exact Nat.ne_of_lt (Nat.lt_of_lt_of_le (by have := World.block_lt_of_cell? _ _ hw207_0; first | rwa [add_block] at this | exact this) GW208.out) | (rw [add_block]; exact Nat.ne_of_lt (Nat.lt_of_lt_of_le (by have := World.block_lt_of_cell? _ _ hw207_0; first | rwa [add_block] at this | exact this) GW208.out)) | (show (Addr.add _ _).block ≠ _; rw [add_block]; exact Nat.ne_of_lt (Nat.lt_of_lt_of_le (by have := World.block_lt_of_cell? _ _ hw207_0; first | rwa [add_block] at this | exact this) GW208.out)) | (dsimp only; exact Nat.ne_of_lt (Nat.lt_of_lt_of_le (by have := World.block_lt_of_cell? _ _ hw207_0; first | rwa [add_block] at this | exact this) GW208.out))) _).trans (hHeld.2.2.1)))))), ((cell_far (p := ⟨gb208, _, none⟩) (by first | exact Nat.ne_of_lt (Nat.lt_of_lt_of_le (by have := World.block_lt_of_cell? _ _ hw207_1; first | rwa [add_block] at this | exact this) GW208.out) | (rw [add_block]; exact Nat.ne_of_lt (Nat.lt_of_lt_of_le (by have := World.block_lt_of_cell? _ _ hw207_1; first | rwa [add_block] at this | exact this) GW208.out)) | (show (Addr.add _ _).block ≠ _; rw [add_block]; exact Nat.ne_of_lt (Nat.lt_of_lt_of_le (by have := World.block_lt_of_cell? _ _ hw207_1; first | rwa [add_block] at this | exact this) GW208.out)) | (dsimp only; exact Nat.ne_of_lt (Nat.lt_of_lt_of_le (by have := World.block_lt_of_cell? _ _ hw207_1; first | rwa [add_block] at this | exact this) GW208.out))) _).trans (((cell_far (p := ⟨gb208, _, none⟩) (by first | exact Nat.ne_of_lt (Nat.lt_of_lt_of_le (by have := World.block_lt_of_cell? _ _ hw207_1; first | rwa [add_block] at this | exact this) GW208.out) | (rw [add_block]; exact Nat.ne_of_lt (Nat.lt_of_lt_of_le (by have := World.block_lt_of_cell? _ _ hw207_1; first | rwa [add_block] at this | exact this) GW208.out)) | (show (Addr.add _ _).block ≠ _; rw [add_block]; exact Nat.ne_of_lt (Nat.lt_of_lt_of_le (by have := World.block_lt_of_cell? _ _ hw207_1; first | rwa [add_block] at this | exact this) GW208.out)) | (dsimp only; exact Nat.ne_of_lt (Nat.lt_of_lt_of_le (by have := World.block_lt_of_cell? _ _ hw207_1; first | rwa [add_block] at this | exact this) GW208.out))) _).trans (((cell_far (p := ⟨gb208, _, none⟩) (by first | exact Nat.ne_of_lt (Nat.lt_of_lt_of_le (by have := World.block_lt_of_cell? _ _ hw207_1; first | rwa [add_block] at this | exact this) GW208.out) | (rw [add_block]; exact Nat.ne_of_lt (Nat.lt_of_lt_of_le (by have := World.block_lt_of_cell? _ _ hw207_1; first | rwa [add_block] at this | exact this) GW208.out)) | (show (Addr.add _ _).block ≠ _; rw [add_block]; exact Nat.ne_of_lt (Nat.lt_of_lt_of_le (by have := World.block_lt_of_cell? _ _ hw207_1; first | rwa [add_block] at this | exact this) GW208.out)) | (dsimp only; exact Nat.ne_of_lt (Nat.lt_of_lt_of_le (by have := World.block_lt_of_cell? _ _ hw207_1; first | rwa [add_block] at this | exact this) GW208.out))) _).trans (hHeld.2.2.2))))))⟩ (fun hHeld => ?_)
      clear hK K
      refine done_ (done_of HT_.out (by kernel_rfl)) ?_
      have hnb20 := NB208_203.out
      have hnc20 := NB203_208.out
      obtain ⟨hcz21_0, hfz21_0, hcz21_1, hfz21_1, hcz21_2, hfz21_2⟩ := bk3 BK208.out
      try go_wp2_with (first | ((with_reducible refine gate_callee (f := 93) rfl ?_); refine gl_ (some 38) (Try.func93) #[.int .i64 ((rd_T76 l0 a1).f0)] ?_; (with_reducible refine (spec_l16Arity.calls kj2 ((rd_T76 l0 a1).f0) t209 _ A14.out).mono ?_); rintro e w' ⟨rfl, ⟨nd, rfl⟩⟩; refine ⟨_, rfl, ?_⟩))
      go_loopg [1, 7] kj2 (fun kq v1 v7 w' => ∃ (x1_2 : Int) (x7_2 : Int) (x204000_2 : Int) (x204001_2 : Int) (x209002_2 : List (S72)) (u209002 : Value), v1 = .int .i64 x1_2 ∧ v7 = .int .i64 x7_2 ∧ Aside0 (spec_l16Read.l0 kq l0 x1_2 x7_2 ((rd_T76 l0 a1).f0) ((rd_T76 l0 a1).f1) x209002_2 = some (r1, r2, r3, r4)) ∧ Aside0 (kq ≤ kj2) ∧ Aside0 (Kd.R k72 72 w' w.heap.size (fun k_ => k_ ≠ gb203 ∧ k_ ≠ gb208) u209002 x209002_2) ∧ Aside0 (w'.heap[gb203]? = some (.cells #[.int .i64 x204000_2, .int .i64 x204001_2, (.slice none 0 0)] 72 (0, 0))) ∧ Aside0 (w'.heap[gb208]? = some (.cells #[.int .i64 ((rd_T76 l0 a1).f0), .int .i64 ((rd_T76 l0 a1).f1), u209002] 72 (0, 0))) ∧ Aside0 (Below w.heap.size w w'))
      case atStart => exact ⟨(wrap64 (a1 + 1)), (t209), (0), (0), (([] : List (S72))), (.slice none 0 0), lF, lF, H', ⟨Nat.le_refl _⟩, ⟨by first | exact Kd.R_nil _ _ _ _ _ | exact Kd.N_nil _ _ _ _ _ | exact Kd.V_nil _ _ _ _ _ | exact Kd.Q_nil _ _ _ _ _ | exact Kd.S_nil _ _ _ _ _⟩, ⟨lJ BK203.out⟩, ⟨by (with_reducible repeat first | apply bN | apply bD | apply bA); refine blk_put (cs := #[.int .i64 ((rd_T76 l0 a1).f0), .int .i64 ((rd_T76 l0 a1).f1), .slice none 0 0]) ?_ 2 _ rfl; (with_reducible repeat first | apply bN | apply bD | apply bA); refine blk_put (cs := #[.int .i64 ((rd_T76 l0 a1).f0), .int .i64 0, .slice none 0 0]) ?_ 1 _ rfl; (with_reducible repeat first | apply bN | apply bD | apply bA); refine blk_put (cs := #[.int .i64 0, .int .i64 0, .slice none 0 0]) ?_ 0 _ rfl; (with_reducible repeat first | apply bN | apply bD | apply bA); exact BK208.out⟩, ⟨lB⟩⟩
      case round =>
       clear H'
       try clear c1
       try clear c2
       try clear p2
       try clear q2
       try clear hx2
       try clear c5
       try clear c5b0
       try clear c6
       try clear c6b0
       try clear p6
       try clear c7
       try clear c7b0
       try clear c9
       try clear c10
       try clear c12
       try clear c12b0
       try clear c13
       try clear c13b0
       try clear c20
       try clear p20
       try clear q20
       try clear hx20
       try clear hcz11_0 hcz11_1 hcz11_2
       try clear hcz21_0 hcz21_1 hcz21_2
       try clear hfz11_0 hfz11_1 hfz11_2
       try clear hfz21_0 hfz21_1 hfz21_2
       try clear hx204_0
       try clear hx204_1
       try clear hx206_0
       try clear hx206_1
       try clear hx207_0
       try clear hx207_1
       try clear p2
       try clear p204
       try clear p206
       try clear p207
       try clear q2
       try clear q204
       try clear q206
       try clear q207
       obtain ⟨x1_2, x7_2, x204000_2, x204001_2, x209002_2, u209002, rfl, rfl, HA, HK2, HO_209002, BK203, BK208, HB⟩ := hrel
       cases gk with
       | zero => exact absurd HA.out (by simp [spec_l16Read.l0])
       | succ k2 =>
        have H := HA.out
        clear HA
        simp only [spec_l16Read.l0] at H
        by_cases c22 : x7_2 > 0
        ·rw [if_pos c22] at H
         have c22b0 : decide (0 < x7_2) = true := decide_eq_true c22
         clear c22
         replace H := Option.bind_eq_some_iff.mp H
         obtain ⟨⟨t210, t211, t212, t215⟩, A230, H⟩ := H
         replace H : (if t215 = 0 then (some (0, 0, ([] : List (S72)), 0)) else (if x209002_2.length < 3518437208883 then (spec_l16Read.l0 k2 l0 t215 (wrap64 (x7_2 - 1)) ((rd_T76 l0 a1).f0) ((rd_T76 l0 a1).f1) (x209002_2 ++ [(⟨t210, t211, t212⟩ : S72)])) else (none))) = some (r1, r2, r3, r4) := H
         have A23 := Aside0.mk A230
         clear A230
         by_cases c24 : t215 = 0
         ·rw [if_pos c24] at H
          have c24b0 : (t215 == 0) = true := beq_iff_eq.mpr c24
          have c24b1 : (t215 != 0) = false := bne_eq_false_iff_eq.mpr c24
          clear c24
          simp only [Option.some.injEq, Prod.mk.injEq] at H
          obtain ⟨rfl, rfl, rfl, rfl⟩ := H
          go_wp2_with (first | ((with_reducible refine gate_callee (f := 75) rfl ?_); refine gl_ (some 46) (Try.func75) #[.slice (some ad206) l0.length c0, .int .i64 x1_2] ?_; (with_reducible refine (ih k2 (by have := HJ2.out; have := HK2.out; omega) _ _ l0 x1_2 t210 t211 t212 t215 _ ?side1 ?side2 A23.out).mono ?_); (case side1 => exact lC (Kd.C_below HR0.out HB.out)); (case side2 => exact HC0.out); rintro e w25 ⟨v213, rfl, ho0, hb⟩; refine ⟨_, rfl, ?_⟩; have n0_ := Aside0.mk (Kd.R_elder' (lR HO_209002.out) (Kd.R_base ho0) hb); have n1_ := Aside0.mk (Kd.R_lower (Kd.R_newB (Kd.R_newB (Kd.R_new' ho0 (Kd.R_lt (lR HO_209002.out))) (lK BK203.out)) (lK BK208.out)) (below_size lB)); have n2_ := Aside0.mk (blk_below (lK BK203.out) hb); have n3_ := Aside0.mk (blk_below (lK BK208.out) hb); have n4_ := Aside0.mk (below_step lB hb); clear HO_209002; clear BK203; clear BK208; clear HB; have HO_209002 := n0_; have HO214 := n1_; have BK203 := n2_; have BK208 := n3_; have HB := n4_; clear n0_ n1_ n2_ n3_ n4_; (try clear hb); (try clear hb2); (try clear hk); (try clear hi); (try clear ho0)) | ((with_reducible refine gate_dst (N := 8) rfl ?_); refine bxe 8 #[.int .i64 0, .int .i64 0, .slice none 0 0] 72 ?_; intro gb216 hg w26 hbox hb; have n0_ := Aside0.mk (Kd.R_below (Kd.R_elderB (lR HO_209002.out) gb216 (Nat.le_of_eq hg.symm)) hb); have n1_ := Aside0.mk (Kd.R_below (Kd.R_elderB (lR HO214.out) gb216 (Nat.le_of_eq hg.symm)) hb); have n2_ := Aside0.mk (blk_below (lK BK203.out) hb); have n3_ := Aside0.mk (blk_below (lK BK208.out) hb); have n4_ := Aside0.mk (below_step lB hb); have n5_ := Aside0.mk (hbox); have n6_ := lG w hg; have n7_ := lG w hg; have n8_ := Aside0.mk ((by rw [hg]; exact Nat.ne_of_lt (blk_lt (lK BK203.out)) : gb203 ≠ gb216)); have n9_ := Aside0.mk ((by rw [hg]; exact Nat.ne_of_gt (blk_lt (lK BK203.out)) : gb216 ≠ gb203)); have n10_ := Aside0.mk ((by rw [hg]; exact Nat.ne_of_lt (blk_lt (lK BK208.out)) : gb208 ≠ gb216)); have n11_ := Aside0.mk ((by rw [hg]; exact Nat.ne_of_gt (blk_lt (lK BK208.out)) : gb216 ≠ gb208)); clear HO_209002; clear HO214; clear BK203; clear BK208; clear HB; have HO_209002 := n0_; have HO214 := n1_; have BK203 := n2_; have BK208 := n3_; have HB := n4_; have BK216 := n5_; have GW216 := n6_; have GE216 := n7_; have NB203_216 := n8_; have NB216_203 := n9_; have NB208_216 := n10_; have NB216_208 := n11_; clear n0_ n1_ n2_ n3_ n4_ n5_ n6_ n7_ n8_ n9_ n10_ n11_; clear hb hbox hg; have hnb27 := NB216_203.out; have hnc27 := NB203_216.out; have hnb28 := NB216_208.out; have hnc28 := NB208_216.out; obtain ⟨hcz29_0, hfz29_0, hcz29_1, hfz29_1, hcz29_2, hfz29_2⟩ := bk3 BK216.out; obtain ⟨Ao30, co30, eo30⟩ := Kd.R_slice HO214.out; subst eo30; have hnb31 := NB203_208.out; have hnc31 := NB208_203.out; obtain ⟨hcz32_0, hfz32_0, hcz32_1, hfz32_1, hcz32_2, hfz32_2⟩ := bk3 BK203.out))
          refine bodyPost_ret (results_ct rfl _ _ gb203 72 #[.int .i64 0, .int .i64 0, .slice none 0 0] (0, 0) _ rfl (by (with_reducible repeat first | apply bN | apply bD | apply bA); refine blk_put (cs := #[.int .i64 0, .int .i64 0, .slice none 0 0]) ?_ 2 _ rfl; (with_reducible repeat first | apply bN | apply bD | apply bA); refine blk_put (cs := #[.int .i64 0, .int .i64 x204001_2, .slice none 0 0]) ?_ 1 _ rfl; (with_reducible repeat first | apply bN | apply bD | apply bA); refine blk_put (cs := #[.int .i64 x204000_2, .int .i64 x204001_2, .slice none 0 0]) ?_ 0 _ rfl; (with_reducible repeat first | apply bN | apply bD | apply bA); refine blk_far ?_ NB203_216.out _; (with_reducible repeat first | apply bN | apply bD | apply bA); refine blk_far ?_ NB203_216.out _; (with_reducible repeat first | apply bN | apply bD | apply bA); refine blk_far ?_ NB203_216.out _; (with_reducible repeat first | apply bN | apply bD | apply bA); exact BK203.out) Try.underlying72 rfl (by kernel_rfl)) rfl ?_
          exact ⟨_, lE, by first | exact Kd.R_nil _ _ _ _ _ | exact Kd.N_nil _ _ _ _ _ | exact Kd.V_nil _ _ _ _ _ | exact Kd.Q_nil _ _ _ _ _ | exact Kd.S_nil _ _ _ _ _, lB⟩
         ·rw [if_neg c24] at H
          have c24b0 : (t215 == 0) = false := beq_eq_false_iff_ne.mpr c24
          have c24b1 : (t215 != 0) = true := bne_iff_ne.mpr c24
          by_cases c33 : x209002_2.length < 3518437208883
          ·rw [if_pos c33] at H
           have LMc33 := Aside0.mk c33
           clear c33
           obtain ⟨y217, hy217⟩ : ∃ y_ : List (S72), y_ = (x209002_2 ++ [(⟨t210, t211, t212⟩ : S72)]) := ⟨_, rfl⟩
           replace H : (spec_l16Read.l0 k2 l0 t215 (wrap64 (x7_2 - 1)) ((rd_T76 l0 a1).f0) ((rd_T76 l0 a1).f1) y217) = some (r1, r2, r3, r4) := by first | (rw [hy217]; with_reducible exact H) | (have H2_ := (Option.bind_some _ _).symm.trans H; rw [hy217]; with_reducible exact H2_) | (have H2_ := (Option.bind_some _ _).symm.trans H; with_reducible exact H2_) | with_reducible exact H | (rw [hy217]; exact H) | exact H
           have Ny217 := Aside0.mk hy217
           clear hy217
           have H' := Aside0.mk H
           clear H
           go_wp2_with (first | ((with_reducible refine gate_callee (f := 75) rfl ?_); refine gl_ (some 46) (Try.func75) #[.slice (some ad206) l0.length c0, .int .i64 x1_2] ?_; (with_reducible refine (ih k2 (by have := HJ2.out; have := HK2.out; omega) _ _ l0 x1_2 t210 t211 t212 t215 _ ?side1 ?side2 A23.out).mono ?_); (case side1 => exact lC (Kd.C_below HR0.out HB.out)); (case side2 => exact HC0.out); rintro e w34 ⟨v213, rfl, ho0, hb⟩; refine ⟨_, rfl, ?_⟩; have n0_ := Aside0.mk (Kd.R_elder' (lR HO_209002.out) (Kd.R_base ho0) hb); have n1_ := Aside0.mk (Kd.R_lower (Kd.R_newB (Kd.R_newB (Kd.R_new' ho0 (Kd.R_lt (lR HO_209002.out))) (lK BK203.out)) (lK BK208.out)) (below_size lB)); have n2_ := Aside0.mk (blk_below (lK BK203.out) hb); have n3_ := Aside0.mk (blk_below (lK BK208.out) hb); have n4_ := Aside0.mk (below_step lB hb); clear HO_209002; clear BK203; clear BK208; clear HB; have HO_209002 := n0_; have HO214 := n1_; have BK203 := n2_; have BK208 := n3_; have HB := n4_; clear n0_ n1_ n2_ n3_ n4_; (try clear hb); (try clear hb2); (try clear hk); (try clear hi); (try clear ho0)) | ((with_reducible refine gate_dst (N := 8) rfl ?_); refine bxe 8 #[.int .i64 0, .int .i64 0, .slice none 0 0] 72 ?_; intro gb216 hg w35 hbox hb; have n0_ := Aside0.mk (Kd.R_below (Kd.R_elderB (lR HO_209002.out) gb216 (Nat.le_of_eq hg.symm)) hb); have n1_ := Aside0.mk (Kd.R_below (Kd.R_elderB (lR HO214.out) gb216 (Nat.le_of_eq hg.symm)) hb); have n2_ := Aside0.mk (blk_below (lK BK203.out) hb); have n3_ := Aside0.mk (blk_below (lK BK208.out) hb); have n4_ := Aside0.mk (below_step lB hb); have n5_ := Aside0.mk (hbox); have n6_ := lG w hg; have n7_ := lG w hg; have n8_ := Aside0.mk ((by rw [hg]; exact Nat.ne_of_lt (blk_lt (lK BK203.out)) : gb203 ≠ gb216)); have n9_ := Aside0.mk ((by rw [hg]; exact Nat.ne_of_gt (blk_lt (lK BK203.out)) : gb216 ≠ gb203)); have n10_ := Aside0.mk ((by rw [hg]; exact Nat.ne_of_lt (blk_lt (lK BK208.out)) : gb208 ≠ gb216)); have n11_ := Aside0.mk ((by rw [hg]; exact Nat.ne_of_gt (blk_lt (lK BK208.out)) : gb216 ≠ gb208)); clear HO_209002; clear HO214; clear BK203; clear BK208; clear HB; have HO_209002 := n0_; have HO214 := n1_; have BK203 := n2_; have BK208 := n3_; have HB := n4_; have BK216 := n5_; have GW216 := n6_; have GE216 := n7_; have NB203_216 := n8_; have NB216_203 := n9_; have NB208_216 := n10_; have NB216_208 := n11_; clear n0_ n1_ n2_ n3_ n4_ n5_ n6_ n7_ n8_ n9_ n10_ n11_; clear hb hbox hg; have hnb36 := NB216_203.out; have hnc36 := NB203_216.out; have hnb37 := NB216_208.out; have hnc37 := NB208_216.out; obtain ⟨hcz38_0, hfz38_0, hcz38_1, hfz38_1, hcz38_2, hfz38_2⟩ := bk3 BK216.out; obtain ⟨Ao39, co39, eo39⟩ := Kd.R_slice HO214.out; subst eo39) | ((with_reducible refine gate_store (t := 72) (p := 8) rfl ?_); refine store_event (t := 72) (p := 8) (v := ?vo_w40) (w1 := (((w35.setCell ⟨gb216, 0, none⟩ (.int .i64 t210)).setCell ⟨gb216, 1, none⟩ (.int .i64 t211)).setCell ⟨gb216, 2, none⟩ (.slice Ao39 t212.length co39))) ?hg ?ho ?hn ?hr ?_; (case ho => rfl); (case hg => rfl); (case hn => rfl); (case hr => first | (go_simp; done) | (go_simp; rfl)); intro w40 hw; have n0_ : Aside0 (Kd.R k72 72 w40 w.heap.size (fun k_ => some k_ ≠ (.slice Ao39 t212.length co39 : Value).ownBlock ∧ k_ ≠ gb203 ∧ k_ ≠ gb208 ∧ k_ ≠ gb216) u209002 x209002_2) := ⟨(by rw [hw]; exact (by (with_reducible repeat (first | apply Kd.R_alloc | apply Kd.R_drewN | apply Kd.R_drew)); exact Kd.R_mono (Kd.R_far (p := ⟨gb216, 2, none⟩) (Kd.R_far (p := ⟨gb216, 1, none⟩) (Kd.R_far (p := ⟨gb216, 0, none⟩) (Kd.R_mono HO_209002.out (fun k_ hk => (⟨hk, hk.2⟩ : _ ∧ k_ ≠ gb216))) (fun _ hk => hk.2) (.int .i64 t210)) (fun _ hk => hk.2) (.int .i64 t211)) (fun _ hk => hk.2) (.slice Ao39 t212.length co39)) (fun _ hk => ⟨hk.1.1.2, ⟨hk.1.1.1.1, ⟨hk.1.1.1.2, hk.1.2⟩⟩⟩)))⟩; have n1_ : Aside0 (Kd.R k72 72 w40 w.heap.size (fun k_ => some k_ ≠ (u209002 : Value).ownBlock ∧ k_ ≠ gb203 ∧ k_ ≠ gb208 ∧ k_ ≠ gb216) (.slice Ao39 t212.length co39) t212) := ⟨(by rw [hw]; exact (by (with_reducible repeat (first | apply Kd.R_alloc | apply Kd.R_drewN | apply Kd.R_drew)); exact Kd.R_mono (Kd.R_far (p := ⟨gb216, 2, none⟩) (Kd.R_far (p := ⟨gb216, 1, none⟩) (Kd.R_far (p := ⟨gb216, 0, none⟩) (Kd.R_mono HO214.out (fun k_ hk => (⟨hk, hk.2⟩ : _ ∧ k_ ≠ gb216))) (fun _ hk => hk.2) (.int .i64 t210)) (fun _ hk => hk.2) (.int .i64 t211)) (fun _ hk => hk.2) (.slice Ao39 t212.length co39)) (fun _ hk => ⟨hk.1.1.1.1.2, ⟨hk.1.1.1.2, ⟨hk.1.1.2, hk.1.2⟩⟩⟩)))⟩; have n2_ : Aside0 (w40.heap[gb203]? = some (.cells #[.int .i64 x204000_2, .int .i64 x204001_2, .slice none 0 0] 72 (0, 0))) := ⟨(by rw [hw]; exact (lJ BK203.out))⟩; have n3_ : Aside0 (w40.heap[gb208]? = some (.cells #[.int .i64 ((rd_T76 l0 a1).f0), .int .i64 ((rd_T76 l0 a1).f1), u209002] 72 (0, 0))) := ⟨(by rw [hw]; exact (lJ BK208.out))⟩; have n4_ : Aside0 (w40.heap[gb216]? = some (.cells #[.int .i64 t210, .int .i64 t211, .slice Ao39 t212.length co39] 72 (0, 0))) := ⟨(by rw [hw]; exact (by (with_reducible repeat first | apply bN | apply bD | apply bA); refine blk_put (cs := #[.int .i64 t210, .int .i64 t211, .slice none 0 0]) ?_ 2 _ rfl; (with_reducible repeat first | apply bN | apply bD | apply bA); refine blk_put (cs := #[.int .i64 t210, .int .i64 0, .slice none 0 0]) ?_ 1 _ rfl; (with_reducible repeat first | apply bN | apply bD | apply bA); refine blk_put (cs := #[.int .i64 0, .int .i64 0, .slice none 0 0]) ?_ 0 _ rfl; (with_reducible repeat first | apply bN | apply bD | apply bA); exact BK216.out))⟩; have n5_ : Aside0 (Below w.heap.size w w40) := ⟨(by rw [hw]; exact lB)⟩; clear hw; clear HO_209002; clear HO214; clear BK203; clear BK208; clear BK216; clear HB; have HO_209002 := n0_; have HO214 := n1_; have BK203 := n2_; have BK208 := n3_; have BK216 := n4_; have HB := n5_; clear n0_ n1_ n2_ n3_ n4_ n5_; have hnb41 := NB208_203.out; have hnc41 := NB203_208.out; obtain ⟨hcz42_0, hfz42_0, hcz42_1, hfz42_1, hcz42_2, hfz42_2⟩ := bk3 BK208.out; obtain ⟨hcz43_0, hfz43_0, hcz43_1, hfz43_1, hcz43_2, hfz43_2⟩ := bk3 BK216.out) | ((with_reducible refine gate_builtin (b := .append) (xs := #[.tmp 53, .tmp 55]) rfl ?_); at_builtin; refine Kd.R_append k72 (w0 := w) w.heap.size rfl (.tmp 53) (.tmp 55) 70 72 (.agg #[(.int .i64 0), (.int .i64 0), (.slice none 0 0)]) 40 rfl Try.underlying70 info72 rfl (by decide) (by omega) u209002 x209002_2 (⟨t210, t211, t212⟩ : S72) [.int .i64 t210, .int .i64 t211, .slice Ao39 t212.length co39] (fun k_ => k_ ≠ gb203 ∧ k_ ≠ gb208 ∧ k_ ≠ gb216) (fun k_ => ((fun k_ => k_ ≠ gb203 ∧ k_ ≠ gb208 ∧ k_ ≠ gb216)) k_ ∧ some k_ ≠ (u209002 : Value).ownBlock) rfl rfl ?aP (fun _ hk => hk) ?aF ?aO ?aB ?aS ?aL ?_; (case aP => exact k72_mkM _ _ _ (⟨t210, t211, t212⟩ : S72) (Kd.R_mono (HO214.out) (fun k_ hk => ⟨⟨hk.2.1, ⟨hk.2.2.1, hk.2.2.2⟩⟩, hk.1⟩))); (case aB => exact lB); (case aF => exact (fun k_ hk => ⟨Kd.freshB (lK BK203.out) k_ hk, Kd.freshB (lK BK208.out) k_ hk, Kd.freshB (lK BK216.out) k_ hk⟩)); (case aO => exact (by (with_reducible repeat (first | apply Kd.R_alloc | apply Kd.R_drewN | apply Kd.R_drew)); exact Kd.R_mono HO_209002.out (fun _ hk => ⟨hk.2.1, ⟨hk.2.2.1, hk.2.2.2⟩⟩))); (case aS => exact (below_size lB)); (case aL => have := LMc33.out; omega); intro v218 w44 ho hb hg hat; rw [← Ny217.out] at ho; have n0_ := Aside0.mk (blk_grown (lK BK203.out) hg (Kd.R_away HO_209002.out (fun _ hk => hk.2.1))); have n1_ := Aside0.mk (blk_grown (lK BK208.out) hg (Kd.R_away HO_209002.out (fun _ hk => hk.2.2.1))); have n2_ := Aside0.mk (blk_grown (lK BK216.out) hg (Kd.R_away HO_209002.out (fun _ hk => hk.2.2.2))); have n3_ := Aside0.mk (hb); have n4_ := Aside0.mk (ho); clear BK203; clear BK208; clear BK216; clear HB; clear HO_209002; clear HO214; have BK203 := n0_; have BK208 := n1_; have BK216 := n2_; have HB := n3_; have HO219 := n4_; clear n0_ n1_ n2_ n3_ n4_; clear ho hb hg hat; obtain ⟨Ao45, co45, eo45⟩ := Kd.R_slice HO219.out; subst eo45; obtain ⟨hcz46_0, hfz46_0, hcz46_1, hfz46_1, hcz46_2, hfz46_2⟩ := bk3 BK208.out))
           go_roundg k2
           case measure => have := HJ2.out; have := HK2.out; omega
           case rel => exact ⟨(t215), (wrap64 (x7_2 - 1)), (x204000_2), (x204001_2), (y217), (.slice Ao45 y217.length co45), lF, lF, H', ⟨by have := HJ2.out; have := HK2.out; omega⟩, ⟨by (with_reducible repeat (first | apply Kd.R_alloc | apply Kd.R_drewN | apply Kd.R_drew)); exact Kd.R_mono (Kd.R_far (p := ⟨gb208, 2, none⟩) (Kd.R_mono HO219.out (fun k_ hk => (⟨hk, hk.2.1⟩ : _ ∧ k_ ≠ gb208))) (fun _ hk => hk.2) (.slice Ao45 y217.length co45)) (fun _ hk => ⟨hk.1.1, hk.1.2.1⟩)⟩, ⟨lJ BK203.out⟩, ⟨by (with_reducible repeat first | apply bN | apply bD | apply bA); refine blk_put (cs := #[.int .i64 ((rd_T76 l0 a1).f0), .int .i64 ((rd_T76 l0 a1).f1), u209002]) ?_ 2 _ rfl; (with_reducible repeat first | apply bN | apply bD | apply bA); exact BK208.out⟩, ⟨lB⟩⟩
          ·rw [if_neg c33] at H
           exact absurd H (by simp)
        ·rw [if_neg c22] at H
         have c22b0 : decide (0 < x7_2) = false := decide_eq_false c22
         clear c22
         simp only [Option.some.injEq, Prod.mk.injEq] at H
         obtain ⟨rfl, rfl, rfl, rfl⟩ := H
         have hnb47 := NB208_203.out
         have hnc47 := NB203_208.out
         obtain ⟨hcz48_0, hfz48_0, hcz48_1, hfz48_1, hcz48_2, hfz48_2⟩ := bk3 BK208.out
         obtain ⟨hcz49_0, hfz49_0, hcz49_1, hfz49_1, hcz49_2, hfz49_2⟩ := bk3 BK203.out
         obtain ⟨Ao50, co50, eo50⟩ := Kd.R_slice HO_209002.out
         subst eo50
         go_wp2
         refine bodyPost_ret (results_ct rfl _ _ gb203 72 #[.int .i64 ((rd_T76 l0 a1).f0), .int .i64 ((rd_T76 l0 a1).f1), .slice Ao50 x209002_2.length co50] (0, 0) _ rfl (by (with_reducible repeat first | apply bN | apply bD | apply bA); refine blk_put (cs := #[.int .i64 ((rd_T76 l0 a1).f0), .int .i64 ((rd_T76 l0 a1).f1), .slice none 0 0]) ?_ 2 _ rfl; (with_reducible repeat first | apply bN | apply bD | apply bA); refine blk_put (cs := #[.int .i64 ((rd_T76 l0 a1).f0), .int .i64 x204001_2, .slice none 0 0]) ?_ 1 _ rfl; (with_reducible repeat first | apply bN | apply bD | apply bA); refine blk_put (cs := #[.int .i64 x204000_2, .int .i64 x204001_2, .slice none 0 0]) ?_ 0 _ rfl; (with_reducible repeat first | apply bN | apply bD | apply bA); exact BK203.out) Try.underlying72 rfl (by kernel_rfl)) rfl ?_
         exact ⟨_, lE, by (with_reducible repeat (first | apply Kd.R_alloc | apply Kd.R_drewN | apply Kd.R_drew)); exact Kd.R_mono (Kd.R_far (p := ⟨gb203, 2, none⟩) (Kd.R_far (p := ⟨gb203, 1, none⟩) (Kd.R_far (p := ⟨gb203, 0, none⟩) (Kd.R_mono HO_209002.out (fun k_ hk => (⟨hk, hk.1⟩ : _ ∧ k_ ≠ gb203))) (fun _ hk => hk.2) (.int .i64 ((rd_T76 l0 a1).f0))) (fun _ hk => hk.2) (.int .i64 ((rd_T76 l0 a1).f1))) (fun _ hk => hk.2) (.slice Ao50 x209002_2.length co50)) (fun _ hk => trivial), lB⟩
     ·rw [if_neg c13] at H
      exact absurd H (by simp)
    ·rw [if_neg c12] at H
     exact absurd H (by simp)

/-! ### spec_l16Loops: function 76 -/
mutual
def spec_l16Loops.l0 : Nat → Int → List (S72) → Int → Int → Int → Int → List (S72) → Option (Int)
 | 0, _, _, _, _, _, _, _ => none
 | k + 1, x3, x8, x9, x10, x221000, x221001, x221002 => if x10 < x9 then (if 0 ≤ x10 then (if x10 < (x8.length : Int) then ((spec_l16Loops.f k ((rd_T72 x8 x10).f0) ((rd_T72 x8 x10).f1) ((rd_T72 x8 x10).f2)).bind fun t223 => (if t223 > x3 then (spec_l16Loops.l0 k t223 x8 x9 (wrap64 (x10 + 1)) x221000 x221001 x221002) else (spec_l16Loops.l0 k x3 x8 x9 (wrap64 (x10 + 1)) x221000 x221001 x221002))) else (none)) else (none)) else (if x221000 = 6 then (some (wrap64 (x3 + 1))) else (some x3))
def spec_l16Loops.f : Nat → Int → Int → List (S72) → Option (Int)
 | 0, _, _, _ => none
 | k + 1, a0_0, a0_1, l0_2 => spec_l16Loops.l0 k 0 l0_2 (l0_2.length : Int) 0 a0_0 a0_1 l0_2
end
theorem spec_l16Loops.mono_l : ∀ k, (∀ y0 y1 y2, LeO (spec_l16Loops.f k y0 y1 y2) (spec_l16Loops.f (k + 1) y0 y1 y2)) ∧ (∀ y0 y1 y2 y3 y4 y5 y6, LeO (spec_l16Loops.l0 k y0 y1 y2 y3 y4 y5 y6) (spec_l16Loops.l0 (k + 1) y0 y1 y2 y3 y4 y5 y6))
 | 0 => ⟨fun _ _ _ r h => by simp [spec_l16Loops.f] at h, fun _ _ _ _ _ _ _ r h => by simp [spec_l16Loops.l0] at h⟩
 | k + 1 => by
  obtain ⟨ih0, ih1⟩ := spec_l16Loops.mono_l k
  refine ⟨?_, ?_⟩
  ·intro y0 y1 y2
   unfold spec_l16Loops.f
   repeat' first
   | with_reducible apply ih0
   | with_reducible apply ih1
   | (with_reducible exact LeO.refl _)
   | (with_reducible exact LeO.none _)
   | (with_reducible refine LeO.ite ?_ ?_)
   | (with_reducible refine LeO.bind ?_ (fun _ => ?_))
   | apply ih0
   | apply ih1
   | exact LeO.none _
   | refine LeO.ite ?_ ?_
   | refine LeO.bind ?_ (fun _ => ?_)
  ·intro y0 y1 y2 y3 y4 y5 y6
   unfold spec_l16Loops.l0
   repeat' first
   | with_reducible apply ih0
   | with_reducible apply ih1
   | (with_reducible exact LeO.refl _)
   | (with_reducible exact LeO.none _)
   | (with_reducible refine LeO.ite ?_ ?_)
   | (with_reducible refine LeO.bind ?_ (fun _ => ?_))
   | apply ih0
   | apply ih1
   | exact LeO.none _
   | refine LeO.ite ?_ ?_
   | refine LeO.bind ?_ (fun _ => ?_)
theorem spec_l16Loops.mono : ∀ a0 a1 a2 k, LeO (spec_l16Loops.f k a0 a1 a2) (spec_l16Loops.f (k + 1) a0 a1 a2) := by
 intro a0 a1 a2 k
 obtain ⟨ih0, ih1⟩ := spec_l16Loops.mono_l k
 exact ih0 a0 a1 a2
set_option maxHeartbeats 8000000 in
set_option maxRecDepth 100000 in
theorem spec_l16Loops.calls (k : Nat) : ∀ (a0_0 : Int) (a0_1 : Int) (A0_2 : Option Addr) (c0_2 : Nat) (l0_2 : List (S72)) (r : Int) (w : World) (hr0_2 : Kd.C k72 w A0_2 l0_2.length l0_2) (hc0_2 : l0_2.length ≤ c0_2) (h : spec_l16Loops.f k a0_0 a0_1 l0_2 = some r),
  Calls Try.prog 76 #[.agg #[.int .i64 a0_0, .int .i64 a0_1, .slice A0_2 l0_2.length c0_2]] w fun e w' => e = .returned (.int .i64 r) ∧ Below w.heap.size w w' := by
 induction k using Nat.strongRecOn with
 | _ k ih =>
 intro a0_0 a0_1 A0_2 c0_2 l0_2 r w hr0_2 hc0_2 h
 cases k with
 | zero => exact absurd h (by simp [spec_l16Loops.f])
 | succ k =>
 simp only [spec_l16Loops.f] at h
 have hu72 := Try.underlying72
 have HR0_2 := Aside0.mk hr0_2
 have HC0_2 := Aside0.mk hc0_2
 clear hr0_2 hc0_2
 have HB := Aside0.mk (Below.refl w.heap.size w)
 have H : (spec_l16Loops.l0 k 0 l0_2 (l0_2.length : Int) 0 a0_0 a0_1 l0_2) = some r := h
 clear h
 have H' := Aside0.mk H
 clear H
 go_enter Try.func76, Try.ntmps76
 go_wp2_with (first | ((with_reducible refine gate_dst (N := 1) rfl ?_); refine bxe 1 #[.int .i64 a0_0, .int .i64 a0_1, .slice A0_2 l0_2.length c0_2] 72 ?_; intro gb220 hg w2 hbox hb; have n0_ := Aside0.mk (below_step lB hb); have n1_ := Aside0.mk (hbox); have n2_ := lG w hg; have n3_ := lG w hg; clear HB; have HB := n0_; have BK220 := n1_; have GW220 := n2_; have GE220 := n3_; clear n0_ n1_ n2_ n3_; clear hb hbox hg; obtain ⟨hcz3_0, hfz3_0, hcz3_1, hfz3_1, hcz3_2, hfz3_2⟩ := bk3 BK220.out))
 go_loopg [3, 10] k (fun kq v3 v10 w' => ∃ (x3_1 : Int) (x10_1 : Int), v3 = .int .i64 x3_1 ∧ v10 = .int .i64 x10_1 ∧ Aside0 (spec_l16Loops.l0 kq x3_1 l0_2 (l0_2.length : Int) x10_1 a0_0 a0_1 l0_2 = some r) ∧ Aside0 (kq ≤ k) ∧ Aside0 (w'.heap[gb220]? = some (.cells #[.int .i64 a0_0, .int .i64 a0_1, (.slice A0_2 l0_2.length c0_2)] 72 (0, 0))) ∧ Aside0 (Below w.heap.size w w'))
 case atStart => exact ⟨(0), (0), lF, lF, H', ⟨Nat.le_refl _⟩, ⟨lK BK220.out⟩, ⟨lB⟩⟩
 case round =>
  clear H'
  try clear p2
  try clear hcz3_0 hcz3_1 hcz3_2 hfz3_0 hfz3_1 hfz3_2
  obtain ⟨x3_1, x10_1, rfl, rfl, HA, HK1, BK220, HB⟩ := hrel
  cases gk with
  | zero => exact absurd HA.out (by simp [spec_l16Loops.l0])
  | succ k1 =>
   have H := HA.out
   clear HA
   simp only [spec_l16Loops.l0] at H
   by_cases c4 : x10_1 < (l0_2.length : Int)
   ·rw [if_pos c4] at H
    have c4b0 : decide (x10_1 < (l0_2.length : Int)) = true := decide_eq_true c4
    clear c4
    by_cases c5 : 0 ≤ x10_1
    ·rw [if_pos c5] at H
     have c5b0 : decide (0 ≤ x10_1) = true := decide_eq_true c5
     clear c5
     by_cases c6 : x10_1 < (l0_2.length : Int)
     ·rw [if_pos c6] at H
      have c6b0 : decide (x10_1 < (l0_2.length : Int)) = true := decide_eq_true c6
      clear c6
      replace H := lO H
      obtain ⟨t223, A7, H⟩ := H
      by_cases c8 : t223 > x3_1
      ·rw [if_pos c8] at H
       have c8b0 : decide (x3_1 < t223) = true := decide_eq_true c8
       clear c8
       have H' := Aside0.mk H
       clear H
       have p221 : 0 ≤ (x10_1 : Int) := lD
       have q221 : x10_1 < (l0_2.length : Int) := lD
       obtain ⟨ad221, A221_2, c221_2, e221, hx221_0, hx221_1, hx221_2, hl221_2, hi221_2⟩ := at_T72 HR0_2.out x10_1 p221 q221
       cases e221
       replace hx221_0 := pw_cell_below HB.out hx221_0
       replace hx221_1 := pw_cell_below HB.out hx221_1
       replace hx221_2 := pw_cell_below HB.out hx221_2
       have HR221_2 := Aside0.mk hi221_2
       have HC221_2 := Aside0.mk hl221_2
       clear hi221_2 hl221_2
       replace p221 := eq_true p221
       replace q221 := eq_true q221
       go_wp2_with (first | ((with_reducible refine gate_dst (N := 5) rfl ?_); refine bxe 5 #[.int .i64 0, .int .i64 0, .slice none 0 0] 72 ?_; intro gb222 hg w9 hbox hb; have n0_ := Aside0.mk (blk_below (lK BK220.out) hb); have n1_ := Aside0.mk (below_step lB hb); have n2_ := Aside0.mk (hbox); have n3_ := lG w hg; have n4_ := lG w hg; have n5_ := Aside0.mk ((by rw [hg]; exact Nat.ne_of_lt (blk_lt (lK BK220.out)) : gb220 ≠ gb222)); have n6_ := Aside0.mk ((by rw [hg]; exact Nat.ne_of_gt (blk_lt (lK BK220.out)) : gb222 ≠ gb220)); clear BK220; clear HB; have BK220 := n0_; have HB := n1_; have BK222 := n2_; have GW222 := n3_; have GE222 := n4_; have NB220_222 := n5_; have NB222_220 := n6_; clear n0_ n1_ n2_ n3_ n4_ n5_ n6_; clear hb hbox hg; have hnb10 := NB222_220.out; have hnc10 := NB220_222.out; obtain ⟨hcz11_0, hfz11_0, hcz11_1, hfz11_1, hcz11_2, hfz11_2⟩ := bk3 BK222.out) | ((with_reducible refine gate_callee (f := 76) rfl ?_); refine gl_ (some 15) (Try.func76) #[.agg #[.int .i64 ((rd_T72 l0_2 x10_1).f0), .int .i64 ((rd_T72 l0_2 x10_1).f1), .slice A221_2 ((rd_T72 l0_2 x10_1).f2).length c221_2]] ?_; (with_reducible refine (ih k1 (by have := HK1.out; omega) ((rd_T72 l0_2 x10_1).f0) ((rd_T72 l0_2 x10_1).f1) _ _ ((rd_T72 l0_2 x10_1).f2) t223 _ ?side1 ?side2 A7.out).mono ?_); (case side1 => exact Kd.C_below HR221_2.out lB); (case side2 => exact HC221_2.out); rintro e w12 ⟨rfl, hb⟩; refine ⟨_, rfl, ?_⟩; have n0_ := Aside0.mk (blk_below (lJ BK220.out) hb); have n1_ := Aside0.mk (blk_below (g := gb222) (o := .cells #[.int .i64 ((rd_T72 l0_2 x10_1).f0), .int .i64 ((rd_T72 l0_2 x10_1).f1), .slice A221_2 ((rd_T72 l0_2 x10_1).f2).length c221_2] 72 (0, 0)) (by (with_reducible repeat first | apply bN | apply bD | apply bA); refine blk_put (cs := #[.int .i64 ((rd_T72 l0_2 x10_1).f0), .int .i64 ((rd_T72 l0_2 x10_1).f1), .slice none 0 0]) ?_ 2 _ rfl; (with_reducible repeat first | apply bN | apply bD | apply bA); refine blk_put (cs := #[.int .i64 ((rd_T72 l0_2 x10_1).f0), .int .i64 0, .slice none 0 0]) ?_ 1 _ rfl; (with_reducible repeat first | apply bN | apply bD | apply bA); refine blk_put (cs := #[.int .i64 0, .int .i64 0, .slice none 0 0]) ?_ 0 _ rfl; (with_reducible repeat first | apply bN | apply bD | apply bA); exact BK222.out) hb); have n2_ := Aside0.mk (below_step lB hb); clear BK220; clear BK222; clear HB; have BK220 := n0_; have BK222 := n1_; have HB := n2_; clear n0_ n1_ n2_; (try clear hb); (try clear hb2); (try clear hk); (try clear hi)))
       go_roundg k1
       case measure => have := HK1.out; omega
       case rel => exact ⟨(t223), (wrap64 (x10_1 + 1)), lF, lF, H', ⟨by have := HK1.out; omega⟩, ⟨lK BK220.out⟩, ⟨lB⟩⟩
      ·rw [if_neg c8] at H
       have c8b0 : decide (x3_1 < t223) = false := decide_eq_false c8
       clear c8
       have H' := Aside0.mk H
       clear H
       have p221 : 0 ≤ (x10_1 : Int) := lD
       have q221 : x10_1 < (l0_2.length : Int) := lD
       obtain ⟨ad221, A221_2, c221_2, e221, hx221_0, hx221_1, hx221_2, hl221_2, hi221_2⟩ := at_T72 HR0_2.out x10_1 p221 q221
       cases e221
       replace hx221_0 := pw_cell_below HB.out hx221_0
       replace hx221_1 := pw_cell_below HB.out hx221_1
       replace hx221_2 := pw_cell_below HB.out hx221_2
       have HR221_2 := Aside0.mk hi221_2
       have HC221_2 := Aside0.mk hl221_2
       clear hi221_2 hl221_2
       replace p221 := eq_true p221
       replace q221 := eq_true q221
       go_wp2_with (first | ((with_reducible refine gate_dst (N := 5) rfl ?_); refine bxe 5 #[.int .i64 0, .int .i64 0, .slice none 0 0] 72 ?_; intro gb222 hg w13 hbox hb; have n0_ := Aside0.mk (blk_below (lK BK220.out) hb); have n1_ := Aside0.mk (below_step lB hb); have n2_ := Aside0.mk (hbox); have n3_ := lG w hg; have n4_ := lG w hg; have n5_ := Aside0.mk ((by rw [hg]; exact Nat.ne_of_lt (blk_lt (lK BK220.out)) : gb220 ≠ gb222)); have n6_ := Aside0.mk ((by rw [hg]; exact Nat.ne_of_gt (blk_lt (lK BK220.out)) : gb222 ≠ gb220)); clear BK220; clear HB; have BK220 := n0_; have HB := n1_; have BK222 := n2_; have GW222 := n3_; have GE222 := n4_; have NB220_222 := n5_; have NB222_220 := n6_; clear n0_ n1_ n2_ n3_ n4_ n5_ n6_; clear hb hbox hg; have hnb14 := NB222_220.out; have hnc14 := NB220_222.out; obtain ⟨hcz15_0, hfz15_0, hcz15_1, hfz15_1, hcz15_2, hfz15_2⟩ := bk3 BK222.out) | ((with_reducible refine gate_callee (f := 76) rfl ?_); refine gl_ (some 15) (Try.func76) #[.agg #[.int .i64 ((rd_T72 l0_2 x10_1).f0), .int .i64 ((rd_T72 l0_2 x10_1).f1), .slice A221_2 ((rd_T72 l0_2 x10_1).f2).length c221_2]] ?_; (with_reducible refine (ih k1 (by have := HK1.out; omega) ((rd_T72 l0_2 x10_1).f0) ((rd_T72 l0_2 x10_1).f1) _ _ ((rd_T72 l0_2 x10_1).f2) t223 _ ?side1 ?side2 A7.out).mono ?_); (case side1 => exact Kd.C_below HR221_2.out lB); (case side2 => exact HC221_2.out); rintro e w16 ⟨rfl, hb⟩; refine ⟨_, rfl, ?_⟩; have n0_ := Aside0.mk (blk_below (lJ BK220.out) hb); have n1_ := Aside0.mk (blk_below (g := gb222) (o := .cells #[.int .i64 ((rd_T72 l0_2 x10_1).f0), .int .i64 ((rd_T72 l0_2 x10_1).f1), .slice A221_2 ((rd_T72 l0_2 x10_1).f2).length c221_2] 72 (0, 0)) (by (with_reducible repeat first | apply bN | apply bD | apply bA); refine blk_put (cs := #[.int .i64 ((rd_T72 l0_2 x10_1).f0), .int .i64 ((rd_T72 l0_2 x10_1).f1), .slice none 0 0]) ?_ 2 _ rfl; (with_reducible repeat first | apply bN | apply bD | apply bA); refine blk_put (cs := #[.int .i64 ((rd_T72 l0_2 x10_1).f0), .int .i64 0, .slice none 0 0]) ?_ 1 _ rfl; (with_reducible repeat first | apply bN | apply bD | apply bA); refine blk_put (cs := #[.int .i64 0, .int .i64 0, .slice none 0 0]) ?_ 0 _ rfl; (with_reducible repeat first | apply bN | apply bD | apply bA); exact BK222.out) hb); have n2_ := Aside0.mk (below_step lB hb); clear BK220; clear BK222; clear HB; have BK220 := n0_; have BK222 := n1_; have HB := n2_; clear n0_ n1_ n2_; (try clear hb); (try clear hb2); (try clear hk); (try clear hi)))
       go_roundg k1
       case measure => have := HK1.out; omega
       case rel => exact ⟨(x3_1), (wrap64 (x10_1 + 1)), lF, lF, H', ⟨by have := HK1.out; omega⟩, ⟨lK BK220.out⟩, ⟨lB⟩⟩
     ·rw [if_neg c6] at H
      exact absurd H (by simp)
    ·rw [if_neg c5] at H
     exact absurd H (by simp)
   ·rw [if_neg c4] at H
    have c4b0 : decide (x10_1 < (l0_2.length : Int)) = false := decide_eq_false c4
    clear c4
    by_cases c17 : a0_0 = 6
    ·rw [if_pos c17] at H
     have c17b0 : (a0_0 == 6) = true := beq_iff_eq.mpr c17
     have c17b1 : (a0_0 != 6) = false := bne_eq_false_iff_eq.mpr c17
     clear c17
     obtain rfl := Option.some.inj H
     obtain ⟨hcz18_0, hfz18_0, hcz18_1, hfz18_1, hcz18_2, hfz18_2⟩ := bk3 BK220.out
     first | (go_wp2; go_ret; exact ⟨lE, lB⟩) | (exfalso; simp only [decide_eq_false_iff_not, decide_eq_true_eq] at *; omega)
    ·rw [if_neg c17] at H
     have c17b0 : (a0_0 == 6) = false := beq_eq_false_iff_ne.mpr c17
     have c17b1 : (a0_0 != 6) = true := bne_iff_ne.mpr c17
     obtain rfl := Option.some.inj H
     obtain ⟨hcz19_0, hfz19_0, hcz19_1, hfz19_1, hcz19_2, hfz19_2⟩ := bk3 BK220.out
     first | (go_wp2; go_ret; exact ⟨lE, lB⟩) | (exfalso; simp only [decide_eq_false_iff_not, decide_eq_true_eq] at *; omega)

end Go.Proofs.Ytgjojppbichaiaa.Q
