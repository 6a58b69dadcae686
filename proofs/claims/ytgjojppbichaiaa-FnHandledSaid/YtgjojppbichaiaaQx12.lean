-- Written by the program wip/tools/pr.py of this claim's session, over the kit's print.py.
import Derived.Test.YtgjojppbichaiaaQx0
import Derived.Test.YtgjojppbichaiaaQx4
namespace Go.Proofs.Ytgjojppbichaiaa.Q
open Go.RowKit Go.Proofs.YtgjojppbichaiaaW.PrintWords Go.Proofs.YtgjojppbichaiaaW.PrintLast Go.Proofs.YtgjojppbichaiaaW.PrintMore
attribute [local go_sem] max2_int min2_int max_two min_two max_three min_three max_four min_four   -- for this text's walks alone
set_option linter.unusedVariables false
set_option linter.unusedSimpArgs false
def spec_l16Step.j0 : Nat → Int → Int → Bool → Int → Int → Int → Option (Bool)
 | 0, _, _, _, _, _, _ => none
 | k + 1, x1, x6, x27, x222000, x222001, x222002 => if x27 = true then ((spec_l1In.f x222001 0 39).bind fun t224 => (if t224 = true then (some (x222002 == 0)) else (some false))) else (if x6 = 4 then (if x222001 = 0 then ((spec_l1In.f x222002 0 x1).bind fun t225 => (some t225)) else (some false)) else (if x222000 = 6 then ((spec_l1In.f x222001 0 39).bind fun t226 => (if t226 = true then ((spec_l1In.f x222002 0 9).bind fun t227 => (some t227)) else (some false))) else (some false)))
def spec_l16Step.f (k : Nat) (a0_0 : Int) (a0_1 : Int) (a0_2 : Int) (a1 : Int) : Option (Bool) := if a0_0 = 1 then ((spec_l1In.f a0_1 0 99).bind fun t222 => (if t222 = true then (some (a0_2 == 0)) else (some false))) else (if a0_0 = 2 then ((spec_l1In.f a0_1 1 9).bind fun t223 => (if t223 = true then (some (a0_2 == 0)) else (some false))) else (if a0_0 = 3 then (spec_l16Step.j0 k a1 a0_0 (a0_0 == 3) a0_0 a0_1 a0_2) else (spec_l16Step.j0 k a1 a0_0 (a0_0 == 5) a0_0 a0_1 a0_2)))
set_option maxHeartbeats 8000000 in
set_option maxRecDepth 100000 in
theorem spec_l16Step.calls (k : Nat) (a0_0 : Int) (a0_1 : Int) (a0_2 : Int) (a1 : Int) (r : Bool) (w : World) (h : spec_l16Step.f k a0_0 a0_1 a0_2 a1 = some r) :
  Calls Try.prog 50 #[.agg #[.int .i64 a0_0, .int .i64 a0_1, .int .i64 a0_2], .int .i64 a1] w fun e w' => e = .returned (.bool r) ∧ Below w.heap.size w w' := by
 have hu86 := Try.underlying86
 have HB := Aside0.mk (Below.refl w.heap.size w)
 have H : (if a0_0 = 1 then ((spec_l1In.f a0_1 0 99).bind fun t222 => (if t222 = true then (some (a0_2 == 0)) else (some false))) else (if a0_0 = 2 then ((spec_l1In.f a0_1 1 9).bind fun t223 => (if t223 = true then (some (a0_2 == 0)) else (some false))) else (if a0_0 = 3 then (spec_l16Step.j0 k a1 a0_0 (a0_0 == 3) a0_0 a0_1 a0_2) else (spec_l16Step.j0 k a1 a0_0 (a0_0 == 5) a0_0 a0_1 a0_2)))) = some r := h
 clear h
 by_cases c3 : a0_0 = 1
 ·rw [if_pos c3] at H
  have c3b0 : (a0_0 == 1) = true := beq_iff_eq.mpr c3
  have c3b1 : (a0_0 != 1) = false := bne_eq_false_iff_eq.mpr c3
  clear c3
  replace H := lO H
  obtain ⟨t222, A4, H⟩ := H
  by_cases c5 : t222 = true
  ·subst c5
   rw [if_pos rfl] at H
   obtain rfl := Option.some.inj H
   go_enter Try.func50, Try.ntmps50
   go_wp2_with (first | ((with_reducible refine gate_dst (N := 2) rfl ?_); refine bxe 2 #[.int .i64 a0_0, .int .i64 a0_1, .int .i64 a0_2] 86 ?_; intro gb221 hg w6 hbox hb; have n0_ := Aside0.mk (below_step lB hb); have n1_ := Aside0.mk (hbox); have n2_ := lG w hg; have n3_ := lG w hg; clear HB; have HB := n0_; have BK221 := n1_; have GW221 := n2_; have GE221 := n3_; clear n0_ n1_ n2_ n3_; clear hb hbox hg; obtain ⟨hcz7_0, hfz7_0, hcz7_1, hfz7_1, hcz7_2, hfz7_2⟩ := bk3 BK221.out) | ((with_reducible refine gate_callee (f := 51) rfl ?_); refine gl_ (some 11) (Try.func51) #[.int .i64 a0_1, .int .i64 0, .int .i64 99] ?_; (with_reducible refine (spec_l1In.calls a0_1 0 99 true _ A4.out).mono ?_); rintro e w' ⟨rfl, ⟨nd, rfl⟩⟩; refine ⟨_, rfl, ?_⟩))
   go_ret
   exact ⟨lE, lB⟩
  ·replace c5 := Bool.eq_false_iff.mpr c5
   subst c5
   rw [if_neg (show ¬ (false = true) by decide)] at H
   obtain rfl := Option.some.inj H
   go_enter Try.func50, Try.ntmps50
   go_wp2_with (first | ((with_reducible refine gate_dst (N := 2) rfl ?_); refine bxe 2 #[.int .i64 a0_0, .int .i64 a0_1, .int .i64 a0_2] 86 ?_; intro gb221 hg w8 hbox hb; have n0_ := Aside0.mk (below_step lB hb); have n1_ := Aside0.mk (hbox); have n2_ := lG w hg; have n3_ := lG w hg; clear HB; have HB := n0_; have BK221 := n1_; have GW221 := n2_; have GE221 := n3_; clear n0_ n1_ n2_ n3_; clear hb hbox hg; obtain ⟨hcz9_0, hfz9_0, hcz9_1, hfz9_1, hcz9_2, hfz9_2⟩ := bk3 BK221.out) | ((with_reducible refine gate_callee (f := 51) rfl ?_); refine gl_ (some 11) (Try.func51) #[.int .i64 a0_1, .int .i64 0, .int .i64 99] ?_; (with_reducible refine (spec_l1In.calls a0_1 0 99 false _ A4.out).mono ?_); rintro e w' ⟨rfl, ⟨nd, rfl⟩⟩; refine ⟨_, rfl, ?_⟩))
   go_ret
   exact ⟨lE, lB⟩
 ·rw [if_neg c3] at H
  have c3b0 : (a0_0 == 1) = false := beq_eq_false_iff_ne.mpr c3
  have c3b1 : (a0_0 != 1) = true := bne_iff_ne.mpr c3
  by_cases c10 : a0_0 = 2
  ·rw [if_pos c10] at H
   have c10b0 : (a0_0 == 2) = true := beq_iff_eq.mpr c10
   have c10b1 : (a0_0 != 2) = false := bne_eq_false_iff_eq.mpr c10
   clear c10
   replace H := lO H
   obtain ⟨t223, A11, H⟩ := H
   by_cases c12 : t223 = true
   ·subst c12
    rw [if_pos rfl] at H
    obtain rfl := Option.some.inj H
    go_enter Try.func50, Try.ntmps50
    go_wp2_with (first | ((with_reducible refine gate_dst (N := 2) rfl ?_); refine bxe 2 #[.int .i64 a0_0, .int .i64 a0_1, .int .i64 a0_2] 86 ?_; intro gb221 hg w13 hbox hb; have n0_ := Aside0.mk (below_step lB hb); have n1_ := Aside0.mk (hbox); have n2_ := lG w hg; have n3_ := lG w hg; clear HB; have HB := n0_; have BK221 := n1_; have GW221 := n2_; have GE221 := n3_; clear n0_ n1_ n2_ n3_; clear hb hbox hg; obtain ⟨hcz14_0, hfz14_0, hcz14_1, hfz14_1, hcz14_2, hfz14_2⟩ := bk3 BK221.out) | ((with_reducible refine gate_callee (f := 51) rfl ?_); refine gl_ (some 21) (Try.func51) #[.int .i64 a0_1, .int .i64 1, .int .i64 9] ?_; (with_reducible refine (spec_l1In.calls a0_1 1 9 true _ A11.out).mono ?_); rintro e w' ⟨rfl, ⟨nd, rfl⟩⟩; refine ⟨_, rfl, ?_⟩))
    go_ret
    exact ⟨lE, lB⟩
   ·replace c12 := Bool.eq_false_iff.mpr c12
    subst c12
    rw [if_neg (show ¬ (false = true) by decide)] at H
    obtain rfl := Option.some.inj H
    go_enter Try.func50, Try.ntmps50
    go_wp2_with (first | ((with_reducible refine gate_dst (N := 2) rfl ?_); refine bxe 2 #[.int .i64 a0_0, .int .i64 a0_1, .int .i64 a0_2] 86 ?_; intro gb221 hg w15 hbox hb; have n0_ := Aside0.mk (below_step lB hb); have n1_ := Aside0.mk (hbox); have n2_ := lG w hg; have n3_ := lG w hg; clear HB; have HB := n0_; have BK221 := n1_; have GW221 := n2_; have GE221 := n3_; clear n0_ n1_ n2_ n3_; clear hb hbox hg; obtain ⟨hcz16_0, hfz16_0, hcz16_1, hfz16_1, hcz16_2, hfz16_2⟩ := bk3 BK221.out) | ((with_reducible refine gate_callee (f := 51) rfl ?_); refine gl_ (some 21) (Try.func51) #[.int .i64 a0_1, .int .i64 1, .int .i64 9] ?_; (with_reducible refine (spec_l1In.calls a0_1 1 9 false _ A11.out).mono ?_); rintro e w' ⟨rfl, ⟨nd, rfl⟩⟩; refine ⟨_, rfl, ?_⟩))
    go_ret
    exact ⟨lE, lB⟩
  ·rw [if_neg c10] at H
   have c10b0 : (a0_0 == 2) = false := beq_eq_false_iff_ne.mpr c10
   have c10b1 : (a0_0 != 2) = true := bne_iff_ne.mpr c10
   have HC17 := Aside0.mk H
   clear H
   go_enter Try.func50, Try.ntmps50
   go_upto_if 27 with (first | ((with_reducible refine gate_dst (N := 2) rfl ?_); refine bxe 2 #[.int .i64 a0_0, .int .i64 a0_1, .int .i64 a0_2] 86 ?_; intro gb221 hg w18 hbox hb; have n0_ := Aside0.mk (below_step lB hb); have n1_ := Aside0.mk (hbox); have n2_ := lG w hg; have n3_ := lG w hg; clear HB; have HB := n0_; have BK221 := n1_; have GW221 := n2_; have GE221 := n3_; clear n0_ n1_ n2_ n3_; clear hb hbox hg; obtain ⟨hcz19_0, hfz19_0, hcz19_1, hfz19_1, hcz19_2, hfz19_2⟩ := bk3 BK221.out))
   (try simp only [Act.put, List.setIfInBounds_toArray, List.set_cons_zero, List.set_cons_succ])
   go_cut [27] (fun v27 wc => ∃ (kq : Nat) (x27_16 : Bool), v27 = .bool x27_16 ∧ Aside0 (spec_l16Step.j0 kq a1 a0_0 x27_16 a0_0 a0_1 a0_2 = some r) ∧ Aside0 (kq ≤ k) ∧ Aside0 (wc.heap[gb221]? = some (.cells #[.int .i64 a0_0, .int .i64 a0_1, .int .i64 a0_2] 86 (0, 0))) ∧ Aside0 (Below w.heap.size w wc))
   case first =>
    have H := HC17.out
    clear HC17
    by_cases c20 : a0_0 = 3
    ·rw [if_pos c20] at H
     have c20b0 : (a0_0 == 3) = true := beq_iff_eq.mpr c20
     have c20b1 : (a0_0 != 3) = false := bne_eq_false_iff_eq.mpr c20
     clear c20
     (first | rw [c20b0] | (simp only [i64_w, i32_w]; rw [c20b0]) | skip)
     have H' := Aside0.mk H
     clear H
     go_wp2
     go_meet
     case rel => exact ⟨_, ((a0_0 == 3)), lF, H', ⟨lN⟩, ⟨lK BK221.out⟩, ⟨lB⟩⟩
    ·rw [if_neg c20] at H
     have c20b0 : (a0_0 == 3) = false := beq_eq_false_iff_ne.mpr c20
     have c20b1 : (a0_0 != 3) = true := bne_iff_ne.mpr c20
     (first | rw [c20b0] | (simp only [i64_w, i32_w]; rw [c20b0]) | skip)
     have H' := Aside0.mk H
     clear H
     go_wp2
     go_meet
     case rel => exact ⟨_, ((a0_0 == 5)), lF, H', ⟨lN⟩, ⟨lK BK221.out⟩, ⟨lB⟩⟩
   case rest =>
    clear HC17
    try clear c1
    try clear c2
    try clear p2
    try clear c3
    try clear c3b0
    try clear c3b1
    try clear c5
    try clear c10
    try clear c10b0
    try clear c10b1
    try clear c12
    try clear c20
    try clear c20b0
    try clear c20b1
    try clear hcz14_0 hcz14_1 hcz14_2
    try clear hcz16_0 hcz16_1 hcz16_2
    try clear hcz19_0 hcz19_1 hcz19_2
    try clear hcz7_0 hcz7_1 hcz7_2
    try clear hcz9_0 hcz9_1 hcz9_2
    try clear hfz14_0 hfz14_1 hfz14_2
    try clear hfz16_0 hfz16_1 hfz16_2
    try clear hfz19_0 hfz19_1 hfz19_2
    try clear hfz7_0 hfz7_1 hfz7_2
    try clear hfz9_0 hfz9_1 hfz9_2
    obtain ⟨kq, x27_16, rfl, HA, HJ16, BK221, HB⟩ := hcut
    cases kq with
    | zero => exact absurd HA.out (by simp [spec_l16Step.j0])
    | succ kj16 =>
     have H := HA.out
     clear HA
     simp only [spec_l16Step.j0] at H
     by_cases c21 : x27_16 = true
     ·subst c21
      rw [if_pos rfl] at H
      replace H := lO H
      obtain ⟨t224, A22, H⟩ := H
      by_cases c23 : t224 = true
      ·subst c23
       rw [if_pos rfl] at H
       obtain rfl := Option.some.inj H
       obtain ⟨hcz24_0, hfz24_0, hcz24_1, hfz24_1, hcz24_2, hfz24_2⟩ := bk3 BK221.out
       go_wp2_with (first | ((with_reducible refine gate_callee (f := 51) rfl ?_); refine gl_ (some 32) (Try.func51) #[.int .i64 a0_1, .int .i64 0, .int .i64 39] ?_; (with_reducible refine (spec_l1In.calls a0_1 0 39 true _ A22.out).mono ?_); rintro e w' ⟨rfl, ⟨nd, rfl⟩⟩; refine ⟨_, rfl, ?_⟩))
       go_ret
       exact ⟨lE, lB⟩
      ·replace c23 := Bool.eq_false_iff.mpr c23
       subst c23
       rw [if_neg (show ¬ (false = true) by decide)] at H
       obtain rfl := Option.some.inj H
       obtain ⟨hcz25_0, hfz25_0, hcz25_1, hfz25_1, hcz25_2, hfz25_2⟩ := bk3 BK221.out
       go_wp2_with (first | ((with_reducible refine gate_callee (f := 51) rfl ?_); refine gl_ (some 32) (Try.func51) #[.int .i64 a0_1, .int .i64 0, .int .i64 39] ?_; (with_reducible refine (spec_l1In.calls a0_1 0 39 false _ A22.out).mono ?_); rintro e w' ⟨rfl, ⟨nd, rfl⟩⟩; refine ⟨_, rfl, ?_⟩))
       go_ret
       exact ⟨lE, lB⟩
     ·replace c21 := Bool.eq_false_iff.mpr c21
      subst c21
      rw [if_neg (show ¬ (false = true) by decide)] at H
      by_cases c26 : a0_0 = 4
      ·rw [if_pos c26] at H
       have c26b0 : (a0_0 == 4) = true := beq_iff_eq.mpr c26
       have c26b1 : (a0_0 != 4) = false := bne_eq_false_iff_eq.mpr c26
       clear c26
       by_cases c27 : a0_1 = 0
       ·rw [if_pos c27] at H
        have c27b0 : (a0_1 == 0) = true := beq_iff_eq.mpr c27
        have c27b1 : (a0_1 != 0) = false := bne_eq_false_iff_eq.mpr c27
        clear c27
        replace H := lO H
        obtain ⟨t225, A28, H⟩ := H
        obtain rfl := Option.some.inj H
        obtain ⟨hcz29_0, hfz29_0, hcz29_1, hfz29_1, hcz29_2, hfz29_2⟩ := bk3 BK221.out
        go_wp2_with (first | (go_at_call 51; (with_reducible refine (spec_l1In.calls a0_2 0 a1 t225 _ A28.out).mono ?_); rintro e w' ⟨rfl, ⟨nd, rfl⟩⟩))
        go_ret
        exact ⟨lE, lB⟩
       ·rw [if_neg c27] at H
        have c27b0 : (a0_1 == 0) = false := beq_eq_false_iff_ne.mpr c27
        have c27b1 : (a0_1 != 0) = true := bne_iff_ne.mpr c27
        obtain rfl := Option.some.inj H
        obtain ⟨hcz30_0, hfz30_0, hcz30_1, hfz30_1, hcz30_2, hfz30_2⟩ := bk3 BK221.out
        first | (go_wp2; go_ret; exact ⟨lE, lB⟩) | (exfalso; simp only [decide_eq_false_iff_not, decide_eq_true_eq] at *; omega)
      ·rw [if_neg c26] at H
       have c26b0 : (a0_0 == 4) = false := beq_eq_false_iff_ne.mpr c26
       have c26b1 : (a0_0 != 4) = true := bne_iff_ne.mpr c26
       by_cases c31 : a0_0 = 6
       ·rw [if_pos c31] at H
        have c31b0 : (a0_0 == 6) = true := beq_iff_eq.mpr c31
        have c31b1 : (a0_0 != 6) = false := bne_eq_false_iff_eq.mpr c31
        clear c31
        replace H := lO H
        obtain ⟨t226, A32, H⟩ := H
        by_cases c33 : t226 = true
        ·subst c33
         rw [if_pos rfl] at H
         replace H := lO H
         obtain ⟨t227, A34, H⟩ := H
         obtain rfl := Option.some.inj H
         obtain ⟨hcz35_0, hfz35_0, hcz35_1, hfz35_1, hcz35_2, hfz35_2⟩ := bk3 BK221.out
         go_wp2_with (first | (go_at_call 51; (with_reducible refine (spec_l1In.calls a0_1 0 39 true _ A32.out).mono ?_); rintro e w' ⟨rfl, ⟨nd, rfl⟩⟩) | (go_at_call 51; (with_reducible refine (spec_l1In.calls a0_2 0 9 t227 _ A34.out).mono ?_); rintro e w' ⟨rfl, ⟨nd, rfl⟩⟩))
         go_ret
         exact ⟨lE, lB⟩
        ·replace c33 := Bool.eq_false_iff.mpr c33
         subst c33
         rw [if_neg (show ¬ (false = true) by decide)] at H
         obtain rfl := Option.some.inj H
         obtain ⟨hcz36_0, hfz36_0, hcz36_1, hfz36_1, hcz36_2, hfz36_2⟩ := bk3 BK221.out
         go_wp2_with (first | (go_at_call 51; (with_reducible refine (spec_l1In.calls a0_1 0 39 false _ A32.out).mono ?_); rintro e w' ⟨rfl, ⟨nd, rfl⟩⟩))
         go_ret
         exact ⟨lE, lB⟩
       ·rw [if_neg c31] at H
        have c31b0 : (a0_0 == 6) = false := beq_eq_false_iff_ne.mpr c31
        have c31b1 : (a0_0 != 6) = true := bne_iff_ne.mpr c31
        obtain rfl := Option.some.inj H
        obtain ⟨hcz37_0, hfz37_0, hcz37_1, hfz37_1, hcz37_2, hfz37_2⟩ := bk3 BK221.out
        first | (go_wp2; go_ret; exact ⟨lE, lB⟩) | (exfalso; simp only [decide_eq_false_iff_not, decide_eq_true_eq] at *; omega)
mutual
def spec_GoodLined.l0 : Nat → Int → List (S86) → Int → Int → List (S86) → List (S63) → Option (Bool)
 | 0, _, _, _, _, _, _ => none
 | k + 1, x3, x12, x13, x14, x229000, x229001 => if x14 < x13 then (if 0 ≤ x14 then (if x14 < (x12.length : Int) then ((spec_l16Step.f k ((rd_T86 x12 x14).f0) ((rd_T86 x12 x14).f1) ((rd_T86 x12 x14).f2) x3).bind fun t231 => (if t231 = true then (spec_GoodLined.l0 k x3 x12 x13 (wrap64 (x14 + 1)) x229000 x229001) else (some false))) else (none)) else (none)) else (spec_GoodLined.l1 k x3 x229001 (x229001.length : Int) 0 x229000 x229001)
def spec_GoodLined.l1 : Nat → Int → List (S63) → Int → Int → List (S86) → List (S63) → Option (Bool)
 | 0, _, _, _, _, _, _ => none
 | k + 1, x3, x24, x25, x26, x229000, x229001 => if x26 < x25 then (if 0 ≤ x26 then (if x26 < (x24.length : Int) then ((spec_l1In.f ((rd_T63 x24 x26).f0) 0 x3).bind fun t234 => (if t234 = true then ((spec_l1In.f ((rd_T63 x24 x26).f1) ((rd_T63 x24 x26).f0) x3).bind fun t235 => (if t235 = true then ((spec_l1In.f ((rd_T63 x24 x26).f2) 0 9).bind fun t236 => (if t236 = true then ((spec_l1In.f ((rd_T63 x24 x26).f3) 0 x3).bind fun t237 => (if t237 = true then (spec_GoodLined.l1 k x3 x24 x25 (wrap64 (x26 + 1)) x229000 x229001) else (some false))) else (some false))) else (some false))) else (some false))) else (none)) else (none)) else (if x3 ≤ 120 then (some (decide ((x229001.length : Int) ≤ 20))) else (some false))
end
def spec_GoodLined.f (k : Nat) (l0_0 : List (S86)) (l0_1 : List (S63)) : Option (Bool) := spec_GoodLined.l0 k (l0_0.length : Int) l0_0 (l0_0.length : Int) 0 l0_0 l0_1
set_option maxHeartbeats 8000000 in
set_option maxRecDepth 100000 in
theorem spec_GoodLined.calls (k : Nat) (A0_0 : Option Addr) (c0_0 : Nat) (l0_0 : List (S86)) (A0_1 : Option Addr) (c0_1 : Nat) (l0_1 : List (S63)) (r : Bool) (w : World) (hr0_0 : Kd.C k86 w A0_0 l0_0.length l0_0) (hc0_0 : l0_0.length ≤ c0_0) (hr0_1 : Kd.C k63 w A0_1 l0_1.length l0_1) (hc0_1 : l0_1.length ≤ c0_1) (h : spec_GoodLined.f k l0_0 l0_1 = some r) :
  Calls Try.prog 18 #[.agg #[.slice A0_0 l0_0.length c0_0, .slice A0_1 l0_1.length c0_1]] w fun e w' => e = .returned (.bool r) ∧ Below w.heap.size w w' := by
 have hu38 := Try.underlying38
 have hu86 := Try.underlying86
 have hu63 := Try.underlying63
 have HR0_0 := Aside0.mk hr0_0
 have HC0_0 := Aside0.mk hc0_0
 clear hr0_0 hc0_0
 have HR0_1 := Aside0.mk hr0_1
 have HC0_1 := Aside0.mk hc0_1
 clear hr0_1 hc0_1
 have HB := Aside0.mk (Below.refl w.heap.size w)
 have H : (spec_GoodLined.l0 k (l0_0.length : Int) l0_0 (l0_0.length : Int) 0 l0_0 l0_1) = some r := h
 clear h
 have H' := Aside0.mk H
 clear H
 go_enter Try.func18, Try.ntmps18
 go_wp2_with (first | ((with_reducible refine gate_dst (N := 1) rfl ?_); (try (refine gate_guard (by rfl) ?_; dsimp only)); refine bxe 1 #[.slice A0_0 l0_0.length c0_0, .slice A0_1 l0_1.length c0_1] 38 ?_; intro gb228 hg w2 hbox hb; have n0_ := Aside0.mk (below_step lB hb); have n1_ := Aside0.mk (hbox); have n2_ := lG w hg; have n3_ := lG w hg; clear HB; have HB := n0_; have BK228 := n1_; have GW228 := n2_; have GE228 := n3_; clear n0_ n1_ n2_ n3_; clear hb hbox hg; obtain ⟨hcz3_0, hfz3_0, hcz3_1, hfz3_1⟩ := bk2 BK228.out))
 go_loopg [14] k (fun kq v14 w' => ∃ (x14_1 : Int), v14 = .int .i64 x14_1 ∧ Aside0 (spec_GoodLined.l0 kq (l0_0.length : Int) l0_0 (l0_0.length : Int) x14_1 l0_0 l0_1 = some r) ∧ Aside0 (kq ≤ k) ∧ Aside0 (w'.heap[gb228]? = some (.cells #[(.slice A0_0 l0_0.length c0_0), (.slice A0_1 l0_1.length c0_1)] 38 (0, 0))) ∧ Aside0 (Below w.heap.size w w'))
 case atStart => exact ⟨(0), lF, H', ⟨Nat.le_refl _⟩, ⟨lK BK228.out⟩, ⟨lB⟩⟩
 case round =>
  clear H'
  try clear c1
  try clear p2
  try clear hcz3_0 hcz3_1 hfz3_0 hfz3_1
  obtain ⟨x14_1, rfl, HA, HK1, BK228, HB⟩ := hrel
  cases gk with
  | zero => exact absurd HA.out (by simp [spec_GoodLined.l0])
  | succ k1 =>
   have H := HA.out
   clear HA
   simp only [spec_GoodLined.l0] at H
   by_cases c4 : x14_1 < (l0_0.length : Int)
   ·rw [if_pos c4] at H
    have c4b0 : decide (x14_1 < (l0_0.length : Int)) = true := decide_eq_true c4
    clear c4
    by_cases c5 : 0 ≤ x14_1
    ·rw [if_pos c5] at H
     have c5b0 : decide (0 ≤ x14_1) = true := decide_eq_true c5
     clear c5
     by_cases c6 : x14_1 < (l0_0.length : Int)
     ·rw [if_pos c6] at H
      have c6b0 : decide (x14_1 < (l0_0.length : Int)) = true := decide_eq_true c6
      clear c6
      replace H := lO H
      obtain ⟨t231, A7, H⟩ := H
      by_cases c8 : t231 = true
      ·subst c8
       rw [if_pos rfl] at H
       have H' := Aside0.mk H
       clear H
       have p229 : 0 ≤ (x14_1 : Int) := lD
       have q229 : x14_1 < (l0_0.length : Int) := lD
       obtain ⟨ad229, e229, hx229_0, hx229_1, hx229_2⟩ := at_T86 HR0_0.out x14_1 p229 q229
       cases e229
       replace hx229_0 := pw_cell_below HB.out hx229_0
       replace hx229_1 := pw_cell_below HB.out hx229_1
       replace hx229_2 := pw_cell_below HB.out hx229_2
       replace p229 := eq_true p229
       replace q229 := eq_true q229
       go_wp2_with (first | ((with_reducible refine gate_dst (N := 5) rfl ?_); (try (refine gate_guard (by rfl) ?_; dsimp only)); refine bxe 5 #[.int .i64 0, .int .i64 0, .int .i64 0] 86 ?_; intro gb230 hg w9 hbox hb; have n0_ := Aside0.mk (blk_below (lK BK228.out) hb); have n1_ := Aside0.mk (below_step lB hb); have n2_ := Aside0.mk (hbox); have n3_ := lG w hg; have n4_ := lG w hg; have n5_ := Aside0.mk ((by rw [hg]; exact Nat.ne_of_lt (blk_lt (lK BK228.out)) : gb228 ≠ gb230)); have n6_ := Aside0.mk ((by rw [hg]; exact Nat.ne_of_gt (blk_lt (lK BK228.out)) : gb230 ≠ gb228)); clear BK228; clear HB; have BK228 := n0_; have HB := n1_; have BK230 := n2_; have GW230 := n3_; have GE230 := n4_; have NB228_230 := n5_; have NB230_228 := n6_; clear n0_ n1_ n2_ n3_ n4_ n5_ n6_; clear hb hbox hg; have hnb10 := NB230_228.out; have hnc10 := NB228_230.out; obtain ⟨hcz11_0, hfz11_0, hcz11_1, hfz11_1, hcz11_2, hfz11_2⟩ := bk3 BK230.out) | ((with_reducible refine gate_callee (f := 50) rfl ?_); refine gl_ (some 20) (Try.func50) #[.agg #[.int .i64 ((rd_T86 l0_0 x14_1).f0), .int .i64 ((rd_T86 l0_0 x14_1).f1), .int .i64 ((rd_T86 l0_0 x14_1).f2)], .int .i64 (l0_0.length : Int)] ?_; (with_reducible refine (spec_l16Step.calls k1 ((rd_T86 l0_0 x14_1).f0) ((rd_T86 l0_0 x14_1).f1) ((rd_T86 l0_0 x14_1).f2) (l0_0.length : Int) true _ A7.out).mono ?_); rintro e w12 ⟨rfl, hb⟩; refine ⟨_, rfl, ?_⟩; have n0_ := Aside0.mk (blk_below (lJ BK228.out) hb); have n1_ := Aside0.mk (blk_below (g := gb230) (o := .cells #[.int .i64 ((rd_T86 l0_0 x14_1).f0), .int .i64 ((rd_T86 l0_0 x14_1).f1), .int .i64 ((rd_T86 l0_0 x14_1).f2)] 86 (0, 0)) (by (with_reducible repeat first | apply bN | apply bD | apply bA); refine blk_put (cs := #[.int .i64 ((rd_T86 l0_0 x14_1).f0), .int .i64 ((rd_T86 l0_0 x14_1).f1), .int .i64 0]) ?_ 2 _ rfl; (with_reducible repeat first | apply bN | apply bD | apply bA); refine blk_put (cs := #[.int .i64 ((rd_T86 l0_0 x14_1).f0), .int .i64 0, .int .i64 0]) ?_ 1 _ rfl; (with_reducible repeat first | apply bN | apply bD | apply bA); refine blk_put (cs := #[.int .i64 0, .int .i64 0, .int .i64 0]) ?_ 0 _ rfl; (with_reducible repeat first | apply bN | apply bD | apply bA); exact BK230.out) hb); have n2_ := Aside0.mk (below_step lB hb); clear BK228; clear BK230; clear HB; have BK228 := n0_; have BK230 := n1_; have HB := n2_; clear n0_ n1_ n2_; (try clear hb); (try clear hb2); (try clear hk); (try clear hi)))
       go_roundg k1
       case measure => have := HK1.out; omega
       case rel => exact ⟨(wrap64 (x14_1 + 1)), lF, H', ⟨by have := HK1.out; omega⟩, ⟨lK BK228.out⟩, ⟨lB⟩⟩
      ·replace c8 := Bool.eq_false_iff.mpr c8
       subst c8
       rw [if_neg (show ¬ (false = true) by decide)] at H
       obtain rfl := Option.some.inj H
       have p229 : 0 ≤ (x14_1 : Int) := lD
       have q229 : x14_1 < (l0_0.length : Int) := lD
       obtain ⟨ad229, e229, hx229_0, hx229_1, hx229_2⟩ := at_T86 HR0_0.out x14_1 p229 q229
       cases e229
       replace hx229_0 := pw_cell_below HB.out hx229_0
       replace hx229_1 := pw_cell_below HB.out hx229_1
       replace hx229_2 := pw_cell_below HB.out hx229_2
       replace p229 := eq_true p229
       replace q229 := eq_true q229
       go_wp2_with (first | ((with_reducible refine gate_dst (N := 5) rfl ?_); (try (refine gate_guard (by rfl) ?_; dsimp only)); refine bxe 5 #[.int .i64 0, .int .i64 0, .int .i64 0] 86 ?_; intro gb230 hg w13 hbox hb; have n0_ := Aside0.mk (blk_below (lK BK228.out) hb); have n1_ := Aside0.mk (below_step lB hb); have n2_ := Aside0.mk (hbox); have n3_ := lG w hg; have n4_ := lG w hg; have n5_ := Aside0.mk ((by rw [hg]; exact Nat.ne_of_lt (blk_lt (lK BK228.out)) : gb228 ≠ gb230)); have n6_ := Aside0.mk ((by rw [hg]; exact Nat.ne_of_gt (blk_lt (lK BK228.out)) : gb230 ≠ gb228)); clear BK228; clear HB; have BK228 := n0_; have HB := n1_; have BK230 := n2_; have GW230 := n3_; have GE230 := n4_; have NB228_230 := n5_; have NB230_228 := n6_; clear n0_ n1_ n2_ n3_ n4_ n5_ n6_; clear hb hbox hg; have hnb14 := NB230_228.out; have hnc14 := NB228_230.out; obtain ⟨hcz15_0, hfz15_0, hcz15_1, hfz15_1, hcz15_2, hfz15_2⟩ := bk3 BK230.out) | ((with_reducible refine gate_callee (f := 50) rfl ?_); refine gl_ (some 20) (Try.func50) #[.agg #[.int .i64 ((rd_T86 l0_0 x14_1).f0), .int .i64 ((rd_T86 l0_0 x14_1).f1), .int .i64 ((rd_T86 l0_0 x14_1).f2)], .int .i64 (l0_0.length : Int)] ?_; (with_reducible refine (spec_l16Step.calls k1 ((rd_T86 l0_0 x14_1).f0) ((rd_T86 l0_0 x14_1).f1) ((rd_T86 l0_0 x14_1).f2) (l0_0.length : Int) false _ A7.out).mono ?_); rintro e w16 ⟨rfl, hb⟩; refine ⟨_, rfl, ?_⟩; have n0_ := Aside0.mk (blk_below (lJ BK228.out) hb); have n1_ := Aside0.mk (blk_below (g := gb230) (o := .cells #[.int .i64 ((rd_T86 l0_0 x14_1).f0), .int .i64 ((rd_T86 l0_0 x14_1).f1), .int .i64 ((rd_T86 l0_0 x14_1).f2)] 86 (0, 0)) (by (with_reducible repeat first | apply bN | apply bD | apply bA); refine blk_put (cs := #[.int .i64 ((rd_T86 l0_0 x14_1).f0), .int .i64 ((rd_T86 l0_0 x14_1).f1), .int .i64 0]) ?_ 2 _ rfl; (with_reducible repeat first | apply bN | apply bD | apply bA); refine blk_put (cs := #[.int .i64 ((rd_T86 l0_0 x14_1).f0), .int .i64 0, .int .i64 0]) ?_ 1 _ rfl; (with_reducible repeat first | apply bN | apply bD | apply bA); refine blk_put (cs := #[.int .i64 0, .int .i64 0, .int .i64 0]) ?_ 0 _ rfl; (with_reducible repeat first | apply bN | apply bD | apply bA); exact BK230.out) hb); have n2_ := Aside0.mk (below_step lB hb); clear BK228; clear BK230; clear HB; have BK228 := n0_; have BK230 := n1_; have HB := n2_; clear n0_ n1_ n2_; (try clear hb); (try clear hb2); (try clear hk); (try clear hi)))
       go_ret
       exact ⟨lE, lB⟩
     ·rw [if_neg c6] at H
      exact absurd H (by simp)
    ·rw [if_neg c5] at H
     exact absurd H (by simp)
   ·rw [if_neg c4] at H
    have c4b0 : decide (x14_1 < (l0_0.length : Int)) = false := decide_eq_false c4
    clear c4
    have H' := Aside0.mk H
    clear H
    obtain ⟨hcz17_0, hfz17_0, hcz17_1, hfz17_1⟩ := bk2 BK228.out
    go_wp2
    go_loopg [26] k1 (fun kq v26 w' => ∃ (x26_2 : Int), v26 = .int .i64 x26_2 ∧ Aside0 (spec_GoodLined.l1 kq (l0_0.length : Int) l0_1 (l0_1.length : Int) x26_2 l0_0 l0_1 = some r) ∧ Aside0 (kq ≤ k1) ∧ Aside0 (w'.heap[gb228]? = some (.cells #[(.slice A0_0 l0_0.length c0_0), (.slice A0_1 l0_1.length c0_1)] 38 (0, 0))) ∧ Aside0 (Below w.heap.size w w'))
    case atStart => exact ⟨(0), lF, H', ⟨Nat.le_refl _⟩, ⟨lK BK228.out⟩, ⟨lB⟩⟩
    case round =>
     clear H'
     try clear c1
     try clear p2
     try clear q2
     try clear hx2
     try clear c4
     try clear c4b0
     try clear c5
     try clear c5b0
     try clear c6
     try clear c6b0
     try clear p6
     try clear c8
     try clear c10
     try clear c14
     try clear hcz11_0 hcz11_1 hcz11_2
     try clear hcz15_0 hcz15_1 hcz15_2
     try clear hcz17_0 hcz17_1
     try clear hcz3_0 hcz3_1
     try clear hfz11_0 hfz11_1 hfz11_2
     try clear hfz15_0 hfz15_1 hfz15_2
     try clear hfz17_0 hfz17_1
     try clear hfz3_0 hfz3_1
     try clear hx229_0
     try clear hx229_1
     try clear hx229_2
     try clear p2
     try clear p229
     try clear q229
     obtain ⟨x26_2, rfl, HA, HK2, BK228, HB⟩ := hrel
     cases gk with
     | zero => exact absurd HA.out (by simp [spec_GoodLined.l1])
     | succ k2 =>
      have H := HA.out
      clear HA
      simp only [spec_GoodLined.l1] at H
      by_cases c18 : x26_2 < (l0_1.length : Int)
      ·rw [if_pos c18] at H
       have c18b0 : decide (x26_2 < (l0_1.length : Int)) = true := decide_eq_true c18
       clear c18
       by_cases c19 : 0 ≤ x26_2
       ·rw [if_pos c19] at H
        have c19b0 : decide (0 ≤ x26_2) = true := decide_eq_true c19
        clear c19
        by_cases c20 : x26_2 < (l0_1.length : Int)
        ·rw [if_pos c20] at H
         have c20b0 : decide (x26_2 < (l0_1.length : Int)) = true := decide_eq_true c20
         clear c20
         replace H := lO H
         obtain ⟨t234, A21, H⟩ := H
         by_cases c22 : t234 = true
         ·subst c22
          rw [if_pos rfl] at H
          replace H := lO H
          obtain ⟨t235, A23, H⟩ := H
          by_cases c24 : t235 = true
          ·subst c24
           rw [if_pos rfl] at H
           replace H := lO H
           obtain ⟨t236, A25, H⟩ := H
           by_cases c26 : t236 = true
           ·subst c26
            rw [if_pos rfl] at H
            replace H := lO H
            obtain ⟨t237, A27, H⟩ := H
            by_cases c28 : t237 = true
            ·subst c28
             rw [if_pos rfl] at H
             have H' := Aside0.mk H
             clear H
             have p232 : 0 ≤ (x26_2 : Int) := lD
             have q232 : x26_2 < (l0_1.length : Int) := lD
             obtain ⟨ad232, e232, hx232_0, hx232_1, hx232_2, hx232_3⟩ := at_T63 HR0_1.out x26_2 p232 q232
             cases e232
             replace hx232_0 := pw_cell_below HB.out hx232_0
             replace hx232_1 := pw_cell_below HB.out hx232_1
             replace hx232_2 := pw_cell_below HB.out hx232_2
             replace hx232_3 := pw_cell_below HB.out hx232_3
             replace p232 := eq_true p232
             replace q232 := eq_true q232
             go_wp2_with (first | ((with_reducible refine gate_dst (N := 7) rfl ?_); (try (refine gate_guard (by rfl) ?_; dsimp only)); refine bxe 7 #[.int .i64 0, .int .i64 0, .int .i64 0, .int .i64 0] 63 ?_; intro gb233 hg w29 hbox hb; have n0_ := Aside0.mk (blk_below (lK BK228.out) hb); have n1_ := Aside0.mk (below_step lB hb); have n2_ := Aside0.mk (hbox); have n3_ := lG w hg; have n4_ := lG w hg; have n5_ := Aside0.mk ((by rw [hg]; exact Nat.ne_of_lt (blk_lt (lK BK228.out)) : gb228 ≠ gb233)); have n6_ := Aside0.mk ((by rw [hg]; exact Nat.ne_of_gt (blk_lt (lK BK228.out)) : gb233 ≠ gb228)); clear BK228; clear HB; have BK228 := n0_; have HB := n1_; have BK233 := n2_; have GW233 := n3_; have GE233 := n4_; have NB228_233 := n5_; have NB233_228 := n6_; clear n0_ n1_ n2_ n3_ n4_ n5_ n6_; clear hb hbox hg; have hnb30 := NB233_228.out; have hnc30 := NB228_233.out; obtain ⟨hcz31_0, hfz31_0, hcz31_1, hfz31_1, hcz31_2, hfz31_2, hcz31_3, hfz31_3⟩ := bk4 BK233.out) | ((with_reducible refine gate_callee (f := 51) rfl ?_); refine gl_ (some 33) (Try.func51) #[.int .i64 ((rd_T63 l0_1 x26_2).f0), .int .i64 0, .int .i64 (l0_0.length : Int)] ?_; (with_reducible refine (spec_l1In.calls ((rd_T63 l0_1 x26_2).f0) 0 (l0_0.length : Int) true _ A21.out).mono ?_); rintro e w' ⟨rfl, ⟨nd, rfl⟩⟩; refine ⟨_, rfl, ?_⟩) | (go_at_call 51; (with_reducible refine (spec_l1In.calls ((rd_T63 l0_1 x26_2).f1) ((rd_T63 l0_1 x26_2).f0) (l0_0.length : Int) true _ A23.out).mono ?_); rintro e w' ⟨rfl, ⟨nd, rfl⟩⟩) | (go_at_call 51; (with_reducible refine (spec_l1In.calls ((rd_T63 l0_1 x26_2).f2) 0 9 true _ A25.out).mono ?_); rintro e w' ⟨rfl, ⟨nd, rfl⟩⟩) | (go_at_call 51; (with_reducible refine (spec_l1In.calls ((rd_T63 l0_1 x26_2).f3) 0 (l0_0.length : Int) true _ A27.out).mono ?_); rintro e w' ⟨rfl, ⟨nd, rfl⟩⟩))
             go_roundg k2
             case measure => have := HK1.out; have := HK2.out; omega
             case rel => exact ⟨(wrap64 (x26_2 + 1)), lF, H', ⟨by have := HK1.out; have := HK2.out; omega⟩, ⟨lJ BK228.out⟩, ⟨lB⟩⟩
            ·replace c28 := Bool.eq_false_iff.mpr c28
             subst c28
             rw [if_neg (show ¬ (false = true) by decide)] at H
             obtain rfl := Option.some.inj H
             have p232 : 0 ≤ (x26_2 : Int) := lD
             have q232 : x26_2 < (l0_1.length : Int) := lD
             obtain ⟨ad232, e232, hx232_0, hx232_1, hx232_2, hx232_3⟩ := at_T63 HR0_1.out x26_2 p232 q232
             cases e232
             replace hx232_0 := pw_cell_below HB.out hx232_0
             replace hx232_1 := pw_cell_below HB.out hx232_1
             replace hx232_2 := pw_cell_below HB.out hx232_2
             replace hx232_3 := pw_cell_below HB.out hx232_3
             replace p232 := eq_true p232
             replace q232 := eq_true q232
             go_wp2_with (first | ((with_reducible refine gate_dst (N := 7) rfl ?_); (try (refine gate_guard (by rfl) ?_; dsimp only)); refine bxe 7 #[.int .i64 0, .int .i64 0, .int .i64 0, .int .i64 0] 63 ?_; intro gb233 hg w32 hbox hb; have n0_ := Aside0.mk (blk_below (lK BK228.out) hb); have n1_ := Aside0.mk (below_step lB hb); have n2_ := Aside0.mk (hbox); have n3_ := lG w hg; have n4_ := lG w hg; have n5_ := Aside0.mk ((by rw [hg]; exact Nat.ne_of_lt (blk_lt (lK BK228.out)) : gb228 ≠ gb233)); have n6_ := Aside0.mk ((by rw [hg]; exact Nat.ne_of_gt (blk_lt (lK BK228.out)) : gb233 ≠ gb228)); clear BK228; clear HB; have BK228 := n0_; have HB := n1_; have BK233 := n2_; have GW233 := n3_; have GE233 := n4_; have NB228_233 := n5_; have NB233_228 := n6_; clear n0_ n1_ n2_ n3_ n4_ n5_ n6_; clear hb hbox hg; have hnb33 := NB233_228.out; have hnc33 := NB228_233.out; obtain ⟨hcz34_0, hfz34_0, hcz34_1, hfz34_1, hcz34_2, hfz34_2, hcz34_3, hfz34_3⟩ := bk4 BK233.out) | ((with_reducible refine gate_callee (f := 51) rfl ?_); refine gl_ (some 33) (Try.func51) #[.int .i64 ((rd_T63 l0_1 x26_2).f0), .int .i64 0, .int .i64 (l0_0.length : Int)] ?_; (with_reducible refine (spec_l1In.calls ((rd_T63 l0_1 x26_2).f0) 0 (l0_0.length : Int) true _ A21.out).mono ?_); rintro e w' ⟨rfl, ⟨nd, rfl⟩⟩; refine ⟨_, rfl, ?_⟩) | (go_at_call 51; (with_reducible refine (spec_l1In.calls ((rd_T63 l0_1 x26_2).f1) ((rd_T63 l0_1 x26_2).f0) (l0_0.length : Int) true _ A23.out).mono ?_); rintro e w' ⟨rfl, ⟨nd, rfl⟩⟩) | (go_at_call 51; (with_reducible refine (spec_l1In.calls ((rd_T63 l0_1 x26_2).f2) 0 9 true _ A25.out).mono ?_); rintro e w' ⟨rfl, ⟨nd, rfl⟩⟩) | (go_at_call 51; (with_reducible refine (spec_l1In.calls ((rd_T63 l0_1 x26_2).f3) 0 (l0_0.length : Int) false _ A27.out).mono ?_); rintro e w' ⟨rfl, ⟨nd, rfl⟩⟩))
             go_ret
             exact ⟨lE, lB⟩
           ·replace c26 := Bool.eq_false_iff.mpr c26
            subst c26
            rw [if_neg (show ¬ (false = true) by decide)] at H
            obtain rfl := Option.some.inj H
            have p232 : 0 ≤ (x26_2 : Int) := lD
            have q232 : x26_2 < (l0_1.length : Int) := lD
            obtain ⟨ad232, e232, hx232_0, hx232_1, hx232_2, hx232_3⟩ := at_T63 HR0_1.out x26_2 p232 q232
            cases e232
            replace hx232_0 := pw_cell_below HB.out hx232_0
            replace hx232_1 := pw_cell_below HB.out hx232_1
            replace hx232_2 := pw_cell_below HB.out hx232_2
            replace hx232_3 := pw_cell_below HB.out hx232_3
            replace p232 := eq_true p232
            replace q232 := eq_true q232
            go_wp2_with (first | ((with_reducible refine gate_dst (N := 7) rfl ?_); (try (refine gate_guard (by rfl) ?_; dsimp only)); refine bxe 7 #[.int .i64 0, .int .i64 0, .int .i64 0, .int .i64 0] 63 ?_; intro gb233 hg w35 hbox hb; have n0_ := Aside0.mk (blk_below (lK BK228.out) hb); have n1_ := Aside0.mk (below_step lB hb); have n2_ := Aside0.mk (hbox); have n3_ := lG w hg; have n4_ := lG w hg; have n5_ := Aside0.mk ((by rw [hg]; exact Nat.ne_of_lt (blk_lt (lK BK228.out)) : gb228 ≠ gb233)); have n6_ := Aside0.mk ((by rw [hg]; exact Nat.ne_of_gt (blk_lt (lK BK228.out)) : gb233 ≠ gb228)); clear BK228; clear HB; have BK228 := n0_; have HB := n1_; have BK233 := n2_; have GW233 := n3_; have GE233 := n4_; have NB228_233 := n5_; have NB233_228 := n6_; clear n0_ n1_ n2_ n3_ n4_ n5_ n6_; clear hb hbox hg; have hnb36 := NB233_228.out; have hnc36 := NB228_233.out; obtain ⟨hcz37_0, hfz37_0, hcz37_1, hfz37_1, hcz37_2, hfz37_2, hcz37_3, hfz37_3⟩ := bk4 BK233.out) | ((with_reducible refine gate_callee (f := 51) rfl ?_); refine gl_ (some 33) (Try.func51) #[.int .i64 ((rd_T63 l0_1 x26_2).f0), .int .i64 0, .int .i64 (l0_0.length : Int)] ?_; (with_reducible refine (spec_l1In.calls ((rd_T63 l0_1 x26_2).f0) 0 (l0_0.length : Int) true _ A21.out).mono ?_); rintro e w' ⟨rfl, ⟨nd, rfl⟩⟩; refine ⟨_, rfl, ?_⟩) | (go_at_call 51; (with_reducible refine (spec_l1In.calls ((rd_T63 l0_1 x26_2).f1) ((rd_T63 l0_1 x26_2).f0) (l0_0.length : Int) true _ A23.out).mono ?_); rintro e w' ⟨rfl, ⟨nd, rfl⟩⟩) | (go_at_call 51; (with_reducible refine (spec_l1In.calls ((rd_T63 l0_1 x26_2).f2) 0 9 false _ A25.out).mono ?_); rintro e w' ⟨rfl, ⟨nd, rfl⟩⟩))
            go_ret
            exact ⟨lE, lB⟩
          ·replace c24 := Bool.eq_false_iff.mpr c24
           subst c24
           rw [if_neg (show ¬ (false = true) by decide)] at H
           obtain rfl := Option.some.inj H
           have p232 : 0 ≤ (x26_2 : Int) := lD
           have q232 : x26_2 < (l0_1.length : Int) := lD
           obtain ⟨ad232, e232, hx232_0, hx232_1, hx232_2, hx232_3⟩ := at_T63 HR0_1.out x26_2 p232 q232
           cases e232
           replace hx232_0 := pw_cell_below HB.out hx232_0
           replace hx232_1 := pw_cell_below HB.out hx232_1
           replace hx232_2 := pw_cell_below HB.out hx232_2
           replace hx232_3 := pw_cell_below HB.out hx232_3
           replace p232 := eq_true p232
           replace q232 := eq_true q232
           go_wp2_with (first | ((with_reducible refine gate_dst (N := 7) rfl ?_); (try (refine gate_guard (by rfl) ?_; dsimp only)); refine bxe 7 #[.int .i64 0, .int .i64 0, .int .i64 0, .int .i64 0] 63 ?_; intro gb233 hg w38 hbox hb; have n0_ := Aside0.mk (blk_below (lK BK228.out) hb); have n1_ := Aside0.mk (below_step lB hb); have n2_ := Aside0.mk (hbox); have n3_ := lG w hg; have n4_ := lG w hg; have n5_ := Aside0.mk ((by rw [hg]; exact Nat.ne_of_lt (blk_lt (lK BK228.out)) : gb228 ≠ gb233)); have n6_ := Aside0.mk ((by rw [hg]; exact Nat.ne_of_gt (blk_lt (lK BK228.out)) : gb233 ≠ gb228)); clear BK228; clear HB; have BK228 := n0_; have HB := n1_; have BK233 := n2_; have GW233 := n3_; have GE233 := n4_; have NB228_233 := n5_; have NB233_228 := n6_; clear n0_ n1_ n2_ n3_ n4_ n5_ n6_; clear hb hbox hg; have hnb39 := NB233_228.out; have hnc39 := NB228_233.out; obtain ⟨hcz40_0, hfz40_0, hcz40_1, hfz40_1, hcz40_2, hfz40_2, hcz40_3, hfz40_3⟩ := bk4 BK233.out) | ((with_reducible refine gate_callee (f := 51) rfl ?_); refine gl_ (some 33) (Try.func51) #[.int .i64 ((rd_T63 l0_1 x26_2).f0), .int .i64 0, .int .i64 (l0_0.length : Int)] ?_; (with_reducible refine (spec_l1In.calls ((rd_T63 l0_1 x26_2).f0) 0 (l0_0.length : Int) true _ A21.out).mono ?_); rintro e w' ⟨rfl, ⟨nd, rfl⟩⟩; refine ⟨_, rfl, ?_⟩) | (go_at_call 51; (with_reducible refine (spec_l1In.calls ((rd_T63 l0_1 x26_2).f1) ((rd_T63 l0_1 x26_2).f0) (l0_0.length : Int) false _ A23.out).mono ?_); rintro e w' ⟨rfl, ⟨nd, rfl⟩⟩))
           go_ret
           exact ⟨lE, lB⟩
         ·replace c22 := Bool.eq_false_iff.mpr c22
          subst c22
          rw [if_neg (show ¬ (false = true) by decide)] at H
          obtain rfl := Option.some.inj H
          have p232 : 0 ≤ (x26_2 : Int) := lD
          have q232 : x26_2 < (l0_1.length : Int) := lD
          obtain ⟨ad232, e232, hx232_0, hx232_1, hx232_2, hx232_3⟩ := at_T63 HR0_1.out x26_2 p232 q232
          cases e232
          replace hx232_0 := pw_cell_below HB.out hx232_0
          replace hx232_1 := pw_cell_below HB.out hx232_1
          replace hx232_2 := pw_cell_below HB.out hx232_2
          replace hx232_3 := pw_cell_below HB.out hx232_3
          replace p232 := eq_true p232
          replace q232 := eq_true q232
          go_wp2_with (first | ((with_reducible refine gate_dst (N := 7) rfl ?_); (try (refine gate_guard (by rfl) ?_; dsimp only)); refine bxe 7 #[.int .i64 0, .int .i64 0, .int .i64 0, .int .i64 0] 63 ?_; intro gb233 hg w41 hbox hb; have n0_ := Aside0.mk (blk_below (lK BK228.out) hb); have n1_ := Aside0.mk (below_step lB hb); have n2_ := Aside0.mk (hbox); have n3_ := lG w hg; have n4_ := lG w hg; have n5_ := Aside0.mk ((by rw [hg]; exact Nat.ne_of_lt (blk_lt (lK BK228.out)) : gb228 ≠ gb233)); have n6_ := Aside0.mk ((by rw [hg]; exact Nat.ne_of_gt (blk_lt (lK BK228.out)) : gb233 ≠ gb228)); clear BK228; clear HB; have BK228 := n0_; have HB := n1_; have BK233 := n2_; have GW233 := n3_; have GE233 := n4_; have NB228_233 := n5_; have NB233_228 := n6_; clear n0_ n1_ n2_ n3_ n4_ n5_ n6_; clear hb hbox hg; have hnb42 := NB233_228.out; have hnc42 := NB228_233.out; obtain ⟨hcz43_0, hfz43_0, hcz43_1, hfz43_1, hcz43_2, hfz43_2, hcz43_3, hfz43_3⟩ := bk4 BK233.out) | ((with_reducible refine gate_callee (f := 51) rfl ?_); refine gl_ (some 33) (Try.func51) #[.int .i64 ((rd_T63 l0_1 x26_2).f0), .int .i64 0, .int .i64 (l0_0.length : Int)] ?_; (with_reducible refine (spec_l1In.calls ((rd_T63 l0_1 x26_2).f0) 0 (l0_0.length : Int) false _ A21.out).mono ?_); rintro e w' ⟨rfl, ⟨nd, rfl⟩⟩; refine ⟨_, rfl, ?_⟩))
          go_ret
          exact ⟨lE, lB⟩
        ·rw [if_neg c20] at H
         exact absurd H (by simp)
       ·rw [if_neg c19] at H
        exact absurd H (by simp)
      ·rw [if_neg c18] at H
       have c18b0 : decide (x26_2 < (l0_1.length : Int)) = false := decide_eq_false c18
       clear c18
       by_cases c44 : (l0_0.length : Int) ≤ 120
       ·rw [if_pos c44] at H
        have c44b0 : decide ((l0_0.length : Int) ≤ 120) = true := decide_eq_true c44
        have c44b1 : decide (l0_0.length ≤ 120) = true := decide_eq_true (by omega)
        clear c44
        obtain rfl := Option.some.inj H
        obtain ⟨hcz45_0, hfz45_0, hcz45_1, hfz45_1⟩ := bk2 BK228.out
        first | (go_wp2; go_ret; exact ⟨lE, lB⟩) | (exfalso; simp only [decide_eq_false_iff_not, decide_eq_true_eq] at *; omega)
       ·rw [if_neg c44] at H
        have c44b0 : decide ((l0_0.length : Int) ≤ 120) = false := decide_eq_false c44
        have c44b1 : decide (l0_0.length ≤ 120) = false := decide_eq_false (by omega)
        clear c44
        obtain rfl := Option.some.inj H
        first | (go_wp2; go_ret; exact ⟨lE, lB⟩) | (exfalso; simp only [decide_eq_false_iff_not, decide_eq_true_eq] at *; omega)
end Go.Proofs.Ytgjojppbichaiaa.Q
