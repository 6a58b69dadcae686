-- Written by the program wip/tools/pr.py of this claim's session, over the kit's print.py.
import Derived.Test.YtgjojppbichaiaaQx0
import Derived.Test.YtgjojppbichaiaaQx3
import Derived.Test.YtgjojppbichaiaaQx4
import Derived.Test.YtgjojppbichaiaaQx7
import Derived.Test.YtgjojppbichaiaaQx8
import Derived.Test.YtgjojppbichaiaaQx9
import Derived.Test.YtgjojppbichaiaaQx10
import Derived.Test.YtgjojppbichaiaaQx11
import Derived.Test.YtgjojppbichaiaaQx14
import Derived.Test.YtgjojppbichaiaaQx15
import Derived.Test.YtgjojppbichaiaaQx18
import Derived.Test.YtgjojppbichaiaaQx19
namespace Go.Proofs.Ytgjojppbichaiaa.Q
open Go.RowKit Go.Proofs.YtgjojppbichaiaaW.PrintWords Go.Proofs.YtgjojppbichaiaaW.PrintLast Go.Proofs.YtgjojppbichaiaaW.PrintMore
attribute [local go_sem] max2_int min2_int max_two min_two max_three min_three max_four min_four   -- for this text's walks alone
set_option linter.unusedVariables false
set_option linter.unusedSimpArgs false
mutual
def laws_FnHandled.j0 : Nat → Bool → List Int → Int → Bool → List Int → Bool → List (S86) → List (S63) → Option (Bool)
  | 0, _, _, _, _, _, _, _, _ => none
  | k + 1, x5, x8, x9, x10, x14, x100, x366000, x366001 => if x100 = true then (some false) else (if x10 = true then (if x9 = 0 then (laws_FnHandled.j1 k x5 x8 x9 x10 false x366000 x366001) else ((laws_has.f k x14 x9).bind fun t396 => (laws_FnHandled.j1 k x5 x8 x9 x10 (!t396) x366000 x366001))) else (laws_FnHandled.j1 k x5 x8 x9 x10 false x366000 x366001))
def laws_FnHandled.j1 : Nat → Bool → List Int → Int → Bool → Bool → List (S86) → List (S63) → Option (Bool)
  | 0, _, _, _, _, _, _, _ => none
  | k + 1, x5, x8, x9, x10, x111, x366000, x366001 => if x111 = true then (some false) else (if x5 = true then ((impl_RunLined.f k x366000 x366001 2000).bind fun bt397 => ((impl_GoodLined.f k x366000 x366001).bind fun t403 => (if t403 = true then (if bt397.2.2.2 = true then (if x10 = true then (if bt397.2.1 = x9 then ((laws_sameInts.f k bt397.1 x8).bind fun t404 => (if t404 = true then (laws_FnHandled.j2 k (!x10)) else (laws_FnHandled.j2 k true))) else (laws_FnHandled.j2 k true)) else (laws_FnHandled.j2 k (!x10))) else (laws_FnHandled.j2 k false)) else (laws_FnHandled.j2 k true)))) else (laws_FnHandled.j3 k))
def laws_FnHandled.j3 : Nat → Option (Bool)
  | 0 => none
  | k + 1 => some true
def laws_FnHandled.j2 : Nat → Bool → Option (Bool)
  | 0, _ => none
  | k + 1, x146 => if x146 = true then (some false) else (laws_FnHandled.j3 k)
end
def laws_FnHandled.f (k : Nat) (l0 : List Int) : Option (Bool) := if (l0.length : Int) > 1048576 then (some true) else ((spec_DrawLineTree.f k l0).bind fun t355 => ((impl_LineTree.f k t355).bind fun bt358 => ((spec_LineTree.f k t355).bind fun bt366 => ((impl_EvalTree.f t355).bind fun bt374 => ((spec_EvalTree.f k t355).bind fun bt379 => ((impl_MayRaise.f t355).bind fun bt384 => ((spec_MayRaise.f k t355).bind fun bt388 => (if (bt358.2.2 != bt366.2.2) = true then (laws_FnHandled.j0 k bt358.2.2 bt374.1 bt374.2.1 bt374.2.2 bt384.1 true bt358.1 bt358.2.1) else ((laws_sameLined.f k bt358.1 bt358.2.1 bt366.1 bt366.2.1).bind fun t392 => (if t392 = true then (if (bt374.2.2 != bt379.2.2) = true then (laws_FnHandled.j0 k bt358.2.2 bt374.1 bt374.2.1 bt374.2.2 bt384.1 true bt358.1 bt358.2.1) else (if bt374.2.1 = bt379.2.1 then ((laws_sameInts.f k bt374.1 bt379.1).bind fun t393 => (if t393 = true then (if (bt384.2 != bt388.2) = true then (laws_FnHandled.j0 k bt358.2.2 bt374.1 bt374.2.1 bt374.2.2 bt384.1 true bt358.1 bt358.2.1) else ((laws_sameInts.f k bt384.1 bt388.1).bind fun t394 => (if t394 = true then ((impl_GoodTree2.f t355).bind fun t395 => (laws_FnHandled.j0 k bt358.2.2 bt374.1 bt374.2.1 bt374.2.2 bt384.1 (t395 != bt388.2) bt358.1 bt358.2.1)) else (laws_FnHandled.j0 k bt358.2.2 bt374.1 bt374.2.1 bt374.2.2 bt384.1 true bt358.1 bt358.2.1)))) else (laws_FnHandled.j0 k bt358.2.2 bt374.1 bt374.2.1 bt374.2.2 bt384.1 true bt358.1 bt358.2.1))) else (laws_FnHandled.j0 k bt358.2.2 bt374.1 bt374.2.1 bt374.2.2 bt384.1 true bt358.1 bt358.2.1))) else (laws_FnHandled.j0 k bt358.2.2 bt374.1 bt374.2.1 bt374.2.2 bt384.1 true bt358.1 bt358.2.1)))))))))))
set_option maxHeartbeats 80000000 in
set_option maxRecDepth 100000 in
theorem laws_FnHandled.calls (k : Nat) (A0 : Option Addr) (c0 : Nat) (l0 : List Int) (r : Bool) (w : World) (hr0 : Kd.C (Kd.int .u8) w A0 l0.length l0) (hc0 : l0.length ≤ c0) (h : laws_FnHandled.f k l0 = some r) :
    Calls Try.prog 11 #[.slice A0 l0.length c0] w fun e w' => e = .returned (.bool r) ∧ Below w.heap.size w w' := by
  have hu38 := Try.underlying38
  have HR0 := Aside0.mk hr0
  have HC0 := Aside0.mk hc0
  clear hr0 hc0
  have HB := Aside0.mk (Below.refl w.heap.size w)
  have H : (if (l0.length : Int) > 1048576 then (some true) else ((spec_DrawLineTree.f k l0).bind fun t355 => ((impl_LineTree.f k t355).bind fun bt358 => ((spec_LineTree.f k t355).bind fun bt366 => ((impl_EvalTree.f t355).bind fun bt374 => ((spec_EvalTree.f k t355).bind fun bt379 => ((impl_MayRaise.f t355).bind fun bt384 => ((spec_MayRaise.f k t355).bind fun bt388 => (if (bt358.2.2 != bt366.2.2) = true then (laws_FnHandled.j0 k bt358.2.2 bt374.1 bt374.2.1 bt374.2.2 bt384.1 true bt358.1 bt358.2.1) else ((laws_sameLined.f k bt358.1 bt358.2.1 bt366.1 bt366.2.1).bind fun t392 => (if t392 = true then (if (bt374.2.2 != bt379.2.2) = true then (laws_FnHandled.j0 k bt358.2.2 bt374.1 bt374.2.1 bt374.2.2 bt384.1 true bt358.1 bt358.2.1) else (if bt374.2.1 = bt379.2.1 then ((laws_sameInts.f k bt374.1 bt379.1).bind fun t393 => (if t393 = true then (if (bt384.2 != bt388.2) = true then (laws_FnHandled.j0 k bt358.2.2 bt374.1 bt374.2.1 bt374.2.2 bt384.1 true bt358.1 bt358.2.1) else ((laws_sameInts.f k bt384.1 bt388.1).bind fun t394 => (if t394 = true then ((impl_GoodTree2.f t355).bind fun t395 => (laws_FnHandled.j0 k bt358.2.2 bt374.1 bt374.2.1 bt374.2.2 bt384.1 (t395 != bt388.2) bt358.1 bt358.2.1)) else (laws_FnHandled.j0 k bt358.2.2 bt374.1 bt374.2.1 bt374.2.2 bt384.1 true bt358.1 bt358.2.1)))) else (laws_FnHandled.j0 k bt358.2.2 bt374.1 bt374.2.1 bt374.2.2 bt384.1 true bt358.1 bt358.2.1))) else (laws_FnHandled.j0 k bt358.2.2 bt374.1 bt374.2.1 bt374.2.2 bt384.1 true bt358.1 bt358.2.1))) else (laws_FnHandled.j0 k bt358.2.2 bt374.1 bt374.2.1 bt374.2.2 bt384.1 true bt358.1 bt358.2.1)))))))))))) = some r := h
  clear h
  by_cases c2 : (l0.length : Int) > 1048576
  · rw [if_pos c2] at H
    have c2b0 : decide (1048576 < (l0.length : Int)) = true := decide_eq_true c2
    have c2b1 : decide (1048576 < l0.length) = true := decide_eq_true (by omega)
    clear c2
    obtain rfl := Option.some.inj H
    go_enter Try.func11, Try.ntmps11
    first | (go_wp2; go_ret; exact ⟨lE, lB⟩) | (exfalso; simp only [decide_eq_false_iff_not, decide_eq_true_eq] at *; omega)
  · rw [if_neg c2] at H
    have c2b0 : decide (1048576 < (l0.length : Int)) = false := decide_eq_false c2
    have c2b1 : decide (1048576 < l0.length) = false := decide_eq_false (by omega)
    clear c2
    replace H := lO H
    obtain ⟨t355, A3, H⟩ := H
    replace H := Option.bind_eq_some_iff.mp H
    obtain ⟨⟨t358, t361, t364⟩, A40, H⟩ := H
    replace H : ((spec_LineTree.f k t355).bind fun bt366 => ((impl_EvalTree.f t355).bind fun bt374 => ((spec_EvalTree.f k t355).bind fun bt379 => ((impl_MayRaise.f t355).bind fun bt384 => ((spec_MayRaise.f k t355).bind fun bt388 => (if (t364 != bt366.2.2) = true then (laws_FnHandled.j0 k t364 bt374.1 bt374.2.1 bt374.2.2 bt384.1 true t358 t361) else ((laws_sameLined.f k t358 t361 bt366.1 bt366.2.1).bind fun t392 => (if t392 = true then (if (bt374.2.2 != bt379.2.2) = true then (laws_FnHandled.j0 k t364 bt374.1 bt374.2.1 bt374.2.2 bt384.1 true t358 t361) else (if bt374.2.1 = bt379.2.1 then ((laws_sameInts.f k bt374.1 bt379.1).bind fun t393 => (if t393 = true then (if (bt384.2 != bt388.2) = true then (laws_FnHandled.j0 k t364 bt374.1 bt374.2.1 bt374.2.2 bt384.1 true t358 t361) else ((laws_sameInts.f k bt384.1 bt388.1).bind fun t394 => (if t394 = true then ((impl_GoodTree2.f t355).bind fun t395 => (laws_FnHandled.j0 k t364 bt374.1 bt374.2.1 bt374.2.2 bt384.1 (t395 != bt388.2) t358 t361)) else (laws_FnHandled.j0 k t364 bt374.1 bt374.2.1 bt374.2.2 bt384.1 true t358 t361)))) else (laws_FnHandled.j0 k t364 bt374.1 bt374.2.1 bt374.2.2 bt384.1 true t358 t361))) else (laws_FnHandled.j0 k t364 bt374.1 bt374.2.1 bt374.2.2 bt384.1 true t358 t361))) else (laws_FnHandled.j0 k t364 bt374.1 bt374.2.1 bt374.2.2 bt384.1 true t358 t361))))))))) = some r := H
    have A4 := Aside0.mk A40
    clear A40
    replace H := Option.bind_eq_some_iff.mp H
    obtain ⟨⟨t366, t369, t372⟩, A50, H⟩ := H
    replace H : ((impl_EvalTree.f t355).bind fun bt374 => ((spec_EvalTree.f k t355).bind fun bt379 => ((impl_MayRaise.f t355).bind fun bt384 => ((spec_MayRaise.f k t355).bind fun bt388 => (if (t364 != t372) = true then (laws_FnHandled.j0 k t364 bt374.1 bt374.2.1 bt374.2.2 bt384.1 true t358 t361) else ((laws_sameLined.f k t358 t361 t366 t369).bind fun t392 => (if t392 = true then (if (bt374.2.2 != bt379.2.2) = true then (laws_FnHandled.j0 k t364 bt374.1 bt374.2.1 bt374.2.2 bt384.1 true t358 t361) else (if bt374.2.1 = bt379.2.1 then ((laws_sameInts.f k bt374.1 bt379.1).bind fun t393 => (if t393 = true then (if (bt384.2 != bt388.2) = true then (laws_FnHandled.j0 k t364 bt374.1 bt374.2.1 bt374.2.2 bt384.1 true t358 t361) else ((laws_sameInts.f k bt384.1 bt388.1).bind fun t394 => (if t394 = true then ((impl_GoodTree2.f t355).bind fun t395 => (laws_FnHandled.j0 k t364 bt374.1 bt374.2.1 bt374.2.2 bt384.1 (t395 != bt388.2) t358 t361)) else (laws_FnHandled.j0 k t364 bt374.1 bt374.2.1 bt374.2.2 bt384.1 true t358 t361)))) else (laws_FnHandled.j0 k t364 bt374.1 bt374.2.1 bt374.2.2 bt384.1 true t358 t361))) else (laws_FnHandled.j0 k t364 bt374.1 bt374.2.1 bt374.2.2 bt384.1 true t358 t361))) else (laws_FnHandled.j0 k t364 bt374.1 bt374.2.1 bt374.2.2 bt384.1 true t358 t361)))))))) = some r := H
    have A5 := Aside0.mk A50
    clear A50
    replace H := Option.bind_eq_some_iff.mp H
    obtain ⟨⟨t374, t375, t376⟩, A60, H⟩ := H
    replace H : ((spec_EvalTree.f k t355).bind fun bt379 => ((impl_MayRaise.f t355).bind fun bt384 => ((spec_MayRaise.f k t355).bind fun bt388 => (if (t364 != t372) = true then (laws_FnHandled.j0 k t364 t374 t375 t376 bt384.1 true t358 t361) else ((laws_sameLined.f k t358 t361 t366 t369).bind fun t392 => (if t392 = true then (if (t376 != bt379.2.2) = true then (laws_FnHandled.j0 k t364 t374 t375 t376 bt384.1 true t358 t361) else (if t375 = bt379.2.1 then ((laws_sameInts.f k t374 bt379.1).bind fun t393 => (if t393 = true then (if (bt384.2 != bt388.2) = true then (laws_FnHandled.j0 k t364 t374 t375 t376 bt384.1 true t358 t361) else ((laws_sameInts.f k bt384.1 bt388.1).bind fun t394 => (if t394 = true then ((impl_GoodTree2.f t355).bind fun t395 => (laws_FnHandled.j0 k t364 t374 t375 t376 bt384.1 (t395 != bt388.2) t358 t361)) else (laws_FnHandled.j0 k t364 t374 t375 t376 bt384.1 true t358 t361)))) else (laws_FnHandled.j0 k t364 t374 t375 t376 bt384.1 true t358 t361))) else (laws_FnHandled.j0 k t364 t374 t375 t376 bt384.1 true t358 t361))) else (laws_FnHandled.j0 k t364 t374 t375 t376 bt384.1 true t358 t361))))))) = some r := H
    have A6 := Aside0.mk A60
    clear A60
    replace H := Option.bind_eq_some_iff.mp H
    obtain ⟨⟨t379, t380, t381⟩, A70, H⟩ := H
    replace H : ((impl_MayRaise.f t355).bind fun bt384 => ((spec_MayRaise.f k t355).bind fun bt388 => (if (t364 != t372) = true then (laws_FnHandled.j0 k t364 t374 t375 t376 bt384.1 true t358 t361) else ((laws_sameLined.f k t358 t361 t366 t369).bind fun t392 => (if t392 = true then (if (t376 != t381) = true then (laws_FnHandled.j0 k t364 t374 t375 t376 bt384.1 true t358 t361) else (if t375 = t380 then ((laws_sameInts.f k t374 t379).bind fun t393 => (if t393 = true then (if (bt384.2 != bt388.2) = true then (laws_FnHandled.j0 k t364 t374 t375 t376 bt384.1 true t358 t361) else ((laws_sameInts.f k bt384.1 bt388.1).bind fun t394 => (if t394 = true then ((impl_GoodTree2.f t355).bind fun t395 => (laws_FnHandled.j0 k t364 t374 t375 t376 bt384.1 (t395 != bt388.2) t358 t361)) else (laws_FnHandled.j0 k t364 t374 t375 t376 bt384.1 true t358 t361)))) else (laws_FnHandled.j0 k t364 t374 t375 t376 bt384.1 true t358 t361))) else (laws_FnHandled.j0 k t364 t374 t375 t376 bt384.1 true t358 t361))) else (laws_FnHandled.j0 k t364 t374 t375 t376 bt384.1 true t358 t361)))))) = some r := H
    have A7 := Aside0.mk A70
    clear A70
    replace H := Option.bind_eq_some_iff.mp H
    obtain ⟨⟨t384, t385⟩, A80, H⟩ := H
    replace H : ((spec_MayRaise.f k t355).bind fun bt388 => (if (t364 != t372) = true then (laws_FnHandled.j0 k t364 t374 t375 t376 t384 true t358 t361) else ((laws_sameLined.f k t358 t361 t366 t369).bind fun t392 => (if t392 = true then (if (t376 != t381) = true then (laws_FnHandled.j0 k t364 t374 t375 t376 t384 true t358 t361) else (if t375 = t380 then ((laws_sameInts.f k t374 t379).bind fun t393 => (if t393 = true then (if (t385 != bt388.2) = true then (laws_FnHandled.j0 k t364 t374 t375 t376 t384 true t358 t361) else ((laws_sameInts.f k t384 bt388.1).bind fun t394 => (if t394 = true then ((impl_GoodTree2.f t355).bind fun t395 => (laws_FnHandled.j0 k t364 t374 t375 t376 t384 (t395 != bt388.2) t358 t361)) else (laws_FnHandled.j0 k t364 t374 t375 t376 t384 true t358 t361)))) else (laws_FnHandled.j0 k t364 t374 t375 t376 t384 true t358 t361))) else (laws_FnHandled.j0 k t364 t374 t375 t376 t384 true t358 t361))) else (laws_FnHandled.j0 k t364 t374 t375 t376 t384 true t358 t361))))) = some r := H
    have A8 := Aside0.mk A80
    clear A80
    replace H := Option.bind_eq_some_iff.mp H
    obtain ⟨⟨t388, t389⟩, A90, H⟩ := H
    replace H : (if (t364 != t372) = true then (laws_FnHandled.j0 k t364 t374 t375 t376 t384 true t358 t361) else ((laws_sameLined.f k t358 t361 t366 t369).bind fun t392 => (if t392 = true then (if (t376 != t381) = true then (laws_FnHandled.j0 k t364 t374 t375 t376 t384 true t358 t361) else (if t375 = t380 then ((laws_sameInts.f k t374 t379).bind fun t393 => (if t393 = true then (if (t385 != t389) = true then (laws_FnHandled.j0 k t364 t374 t375 t376 t384 true t358 t361) else ((laws_sameInts.f k t384 t388).bind fun t394 => (if t394 = true then ((impl_GoodTree2.f t355).bind fun t395 => (laws_FnHandled.j0 k t364 t374 t375 t376 t384 (t395 != t389) t358 t361)) else (laws_FnHandled.j0 k t364 t374 t375 t376 t384 true t358 t361)))) else (laws_FnHandled.j0 k t364 t374 t375 t376 t384 true t358 t361))) else (laws_FnHandled.j0 k t364 t374 t375 t376 t384 true t358 t361))) else (laws_FnHandled.j0 k t364 t374 t375 t376 t384 true t358 t361)))) = some r := H
    have A9 := Aside0.mk A90
    clear A90
    have HC10 := Aside0.mk H
    clear H
    go_enter Try.func11, Try.ntmps11
    go_upto_region 10 with (first | ((with_reducible refine gate_callee (f := 41) rfl ?_); refine gl_ (some 26) (Try.func41) #[.slice A0 l0.length c0] ?_; (with_reducible refine (spec_DrawLineTree.calls k _ _ l0 t355 _ ?side1 ?side2 A3.out).mono ?_); (case side1 => repeat (first | exact HR0.out | (with_reducible refine Kd.C_alloc ?_ _) | (with_reducible refine Kd.C_drewN ?_ _) | (with_reducible refine Kd.C_drew ?_))); (case side2 => exact HC0.out); rintro e w11 ⟨v356, rfl, ho0, hb⟩; refine ⟨_, rfl, ?_⟩; have n0_ := Aside0.mk (Kd.R_lower ho0 (below_size lB)); have n1_ := Aside0.mk (below_step lB hb); clear HB; have HO357 := n0_; have HB := n1_; clear n0_ n1_; (try clear hb); (try clear hb2); (try clear hk); (try clear hi); (try clear ho0); obtain ⟨Ao12, co12, eo12⟩ := Kd.R_slice HO357.out; subst eo12) | ((with_reducible refine gate_callee (f := 36) rfl ?_); refine gl_ (some 29) (Try.func36) #[.slice Ao12 t355.length co12] ?_; (with_reducible refine (impl_LineTree.calls k _ _ t355 t358 t361 t364 _ ?side1 ?side2 A4.out).mono ?_); (case side1 => repeat (first | exact (Kd.R_reads' HO357.out).2.2 | (with_reducible refine Kd.C_alloc ?_ _) | (with_reducible refine Kd.C_drewN ?_ _) | (with_reducible refine Kd.C_drew ?_))); (case side2 => exact (Kd.R_reads' HO357.out).2.1); rintro e w13 ⟨v359, v362, rfl, ho0, ho1, hb⟩; refine ⟨_, rfl, ?_⟩; have n0_ := Aside0.mk (Kd.R_below (lR HO357.out) hb); have n1_ := Aside0.mk (Kd.R_lower ho0 (below_size lB)); have n2_ := Aside0.mk (Kd.R_lower ho1 (below_size lB)); have n3_ := Aside0.mk (below_step lB hb); clear HO357; clear HB; have HO357 := n0_; have HO360 := n1_; have HO363 := n2_; have HB := n3_; clear n0_ n1_ n2_ n3_; (try clear hb); (try clear hb2); (try clear hk); (try clear hi); (try clear ho0); (try clear ho1)) | ((with_reducible refine gate_dst (N := 4) rfl ?_); refine bxe 4 #[.slice none 0 0, .slice none 0 0] 38 ?_; intro gb365 hg w14 hbox hb; have n0_ := Aside0.mk (Kd.R_below (lR HO357.out) hb); have n1_ := Aside0.mk (Kd.R_below (lR HO360.out) hb); have n2_ := Aside0.mk (Kd.R_below (lR HO363.out) hb); have n3_ := Aside0.mk (below_step lB hb); have n4_ := Aside0.mk (hbox); have n5_ := lG w hg; have n6_ := lG w hg; clear HO357; clear HO360; clear HO363; clear HB; have HO357 := n0_; have HO360 := n1_; have HO363 := n2_; have HB := n3_; have BK365 := n4_; have GW365 := n5_; have GE365 := n6_; clear n0_ n1_ n2_ n3_ n4_ n5_ n6_; clear hb hbox hg; obtain ⟨Ao15, co15, eo15⟩ := Kd.R_slice HO360.out; subst eo15; obtain ⟨hcz16_0, hfz16_0, hcz16_1, hfz16_1⟩ := bk2 BK365.out; obtain ⟨Ao17, co17, eo17⟩ := Kd.R_slice HO363.out; subst eo17) | ((with_reducible refine gate_callee (f := 35) rfl ?_); refine gl_ (some 34) (Try.func35) #[.slice Ao12 t355.length co12] ?_; (with_reducible refine (spec_LineTree.calls k _ _ t355 t366 t369 t372 _ ?side1 ?side2 A5.out).mono ?_); (case side1 => refine (Kd.R_reads' (e := 76) (base := w.heap.size) (ok := fun k_ => True) (n := t355.length) (c := co12) ?_).2.2; exact (by (with_reducible repeat (first | apply Kd.R_alloc | apply Kd.R_drewN | apply Kd.R_drew)); exact (Kd.R_mono (Kd.R_far (p := ⟨gb365, 1, none⟩) (Kd.R_far (p := ⟨gb365, 0, none⟩) (Kd.R_types HO357.out BK365.out (by decide)) (fun _ hk => hk.2) (.slice Ao15 t358.length co15)) (fun _ hk => hk.2) (.slice Ao17 t361.length co17)) (fun _ h_ => h_.1)))); (case side2 => exact (Kd.R_reads' HO357.out).2.1); rintro e w18 ⟨v367, v370, rfl, ho0, ho1, hb⟩; refine ⟨_, rfl, ?_⟩; have n0_ := Aside0.mk (Kd.R_below (by (with_reducible repeat (first | apply Kd.R_alloc | apply Kd.R_drewN | apply Kd.R_drew)); exact (Kd.R_mono (Kd.R_far (p := ⟨gb365, 1, none⟩) (Kd.R_far (p := ⟨gb365, 0, none⟩) (Kd.R_types HO357.out BK365.out (by decide)) (fun _ hk => hk.2) (.slice Ao15 t358.length co15)) (fun _ hk => hk.2) (.slice Ao17 t361.length co17)) (fun _ h_ => h_.1))) hb); have n1_ := Aside0.mk (Kd.R_elder' (by (with_reducible repeat (first | apply Kd.R_alloc | apply Kd.R_drewN | apply Kd.R_drew)); exact (Kd.R_mono (Kd.R_far (p := ⟨gb365, 1, none⟩) (Kd.R_far (p := ⟨gb365, 0, none⟩) (Kd.R_types HO360.out BK365.out (by decide)) (fun _ hk => hk.2) (.slice Ao15 t358.length co15)) (fun _ hk => hk.2) (.slice Ao17 t361.length co17)) (fun _ h_ => h_.1))) (Kd.R_base ho0) hb); have n2_ := Aside0.mk (Kd.R_elder' (by (with_reducible repeat (first | apply Kd.R_alloc | apply Kd.R_drewN | apply Kd.R_drew)); exact (Kd.R_mono (Kd.R_far (p := ⟨gb365, 1, none⟩) (Kd.R_far (p := ⟨gb365, 0, none⟩) (Kd.R_types HO363.out BK365.out (by decide)) (fun _ hk => hk.2) (.slice Ao15 t358.length co15)) (fun _ hk => hk.2) (.slice Ao17 t361.length co17)) (fun _ h_ => h_.1))) (Kd.R_base ho1) hb); have n3_ := Aside0.mk (Kd.R_lower (Kd.R_new' ho0 (Kd.R_lt (by (with_reducible repeat (first | apply Kd.R_alloc | apply Kd.R_drewN | apply Kd.R_drew)); exact (Kd.R_mono (Kd.R_far (p := ⟨gb365, 1, none⟩) (Kd.R_far (p := ⟨gb365, 0, none⟩) (Kd.R_types HO360.out BK365.out (by decide)) (fun _ hk => hk.2) (.slice Ao15 t358.length co15)) (fun _ hk => hk.2) (.slice Ao17 t361.length co17)) (fun _ h_ => h_.1))))) (below_size lB)); have n4_ := Aside0.mk (Kd.R_lower (Kd.R_new' ho1 (Kd.R_lt (by (with_reducible repeat (first | apply Kd.R_alloc | apply Kd.R_drewN | apply Kd.R_drew)); exact (Kd.R_mono (Kd.R_far (p := ⟨gb365, 1, none⟩) (Kd.R_far (p := ⟨gb365, 0, none⟩) (Kd.R_types HO363.out BK365.out (by decide)) (fun _ hk => hk.2) (.slice Ao15 t358.length co15)) (fun _ hk => hk.2) (.slice Ao17 t361.length co17)) (fun _ h_ => h_.1))))) (below_size lB)); have n5_ := Aside0.mk (blk_below (g := gb365) (o := .cells #[.slice Ao15 t358.length co15, .slice Ao17 t361.length co17] 38 (0, 0)) (by (with_reducible repeat first | apply bN | apply bD | apply bA); refine blk_put (cs := #[.slice Ao15 t358.length co15, .slice none 0 0]) ?_ 1 _ rfl; (with_reducible repeat first | apply bN | apply bD | apply bA); refine blk_put (cs := #[.slice none 0 0, .slice none 0 0]) ?_ 0 _ rfl; (with_reducible repeat first | apply bN | apply bD | apply bA); exact BK365.out) hb); have n6_ := Aside0.mk (below_step lB hb); clear HO357; clear HO360; clear HO363; clear BK365; clear HB; have HO357 := n0_; have HO360 := n1_; have HO363 := n2_; have HO368 := n3_; have HO371 := n4_; have BK365 := n5_; have HB := n6_; clear n0_ n1_ n2_ n3_ n4_ n5_ n6_; (try clear hb); (try clear hb2); (try clear hk); (try clear hi); (try clear ho0); (try clear ho1)) | ((with_reducible refine gate_dst (N := 6) rfl ?_); refine bxe 6 #[.slice none 0 0, .slice none 0 0] 38 ?_; intro gb373 hg w19 hbox hb; have n0_ := Aside0.mk (Kd.R_below (lR HO357.out) hb); have n1_ := Aside0.mk (Kd.R_below (lR HO360.out) hb); have n2_ := Aside0.mk (Kd.R_below (lR HO363.out) hb); have n3_ := Aside0.mk (Kd.R_below (lR HO368.out) hb); have n4_ := Aside0.mk (Kd.R_below (lR HO371.out) hb); have n5_ := Aside0.mk (blk_below (lK BK365.out) hb); have n6_ := Aside0.mk (below_step lB hb); have n7_ := Aside0.mk (hbox); have n8_ := lG w hg; have n9_ := lG w hg; have n10_ := Aside0.mk ((by rw [hg]; exact Nat.ne_of_lt (blk_lt (lK BK365.out)) : gb365 ≠ gb373)); have n11_ := Aside0.mk ((by rw [hg]; exact Nat.ne_of_gt (blk_lt (lK BK365.out)) : gb373 ≠ gb365)); clear HO357; clear HO360; clear HO363; clear HO368; clear HO371; clear BK365; clear HB; have HO357 := n0_; have HO360 := n1_; have HO363 := n2_; have HO368 := n3_; have HO371 := n4_; have BK365 := n5_; have HB := n6_; have BK373 := n7_; have GW373 := n8_; have GE373 := n9_; have NB365_373 := n10_; have NB373_365 := n11_; clear n0_ n1_ n2_ n3_ n4_ n5_ n6_ n7_ n8_ n9_ n10_ n11_; clear hb hbox hg; obtain ⟨Ao20, co20, eo20⟩ := Kd.R_slice HO368.out; subst eo20; have hnb21 := NB373_365.out; have hnc21 := NB365_373.out; obtain ⟨hcz22_0, hfz22_0, hcz22_1, hfz22_1⟩ := bk2 BK373.out; obtain ⟨Ao23, co23, eo23⟩ := Kd.R_slice HO371.out; subst eo23) | ((with_reducible refine gate_callee (f := 31) rfl ?_); refine gl_ (some 39) (Try.func31) #[.slice Ao12 t355.length co12] ?_; (with_reducible refine (impl_EvalTree.calls _ _ t355 t374 t375 t376 _ ?side1 ?side2 A6.out).mono ?_); (case side1 => refine (Kd.R_reads' (e := 76) (base := w.heap.size) (ok := fun k_ => True) (n := t355.length) (c := co12) ?_).2.2; exact (by (with_reducible repeat (first | apply Kd.R_alloc | apply Kd.R_drewN | apply Kd.R_drew)); exact (Kd.R_mono (Kd.R_far (p := ⟨gb373, 1, none⟩) (Kd.R_far (p := ⟨gb373, 0, none⟩) (Kd.R_types HO357.out BK373.out (by decide)) (fun _ hk => hk.2) (.slice Ao20 t366.length co20)) (fun _ hk => hk.2) (.slice Ao23 t369.length co23)) (fun _ h_ => h_.1)))); (case side2 => exact (Kd.R_reads' HO357.out).2.1); rintro e w24 ⟨v377, rfl, ho0, hb⟩; refine ⟨_, rfl, ?_⟩; have n0_ := Aside0.mk (Kd.R_below (by (with_reducible repeat (first | apply Kd.R_alloc | apply Kd.R_drewN | apply Kd.R_drew)); exact (Kd.R_mono (Kd.R_far (p := ⟨gb373, 1, none⟩) (Kd.R_far (p := ⟨gb373, 0, none⟩) (Kd.R_types HO357.out BK373.out (by decide)) (fun _ hk => hk.2) (.slice Ao20 t366.length co20)) (fun _ hk => hk.2) (.slice Ao23 t369.length co23)) (fun _ h_ => h_.1))) hb); have n1_ := Aside0.mk (Kd.R_below (by (with_reducible repeat (first | apply Kd.R_alloc | apply Kd.R_drewN | apply Kd.R_drew)); exact (Kd.R_mono (Kd.R_far (p := ⟨gb373, 1, none⟩) (Kd.R_far (p := ⟨gb373, 0, none⟩) (Kd.R_types HO360.out BK373.out (by decide)) (fun _ hk => hk.2) (.slice Ao20 t366.length co20)) (fun _ hk => hk.2) (.slice Ao23 t369.length co23)) (fun _ h_ => h_.1))) hb); have n2_ := Aside0.mk (Kd.R_below (by (with_reducible repeat (first | apply Kd.R_alloc | apply Kd.R_drewN | apply Kd.R_drew)); exact (Kd.R_mono (Kd.R_far (p := ⟨gb373, 1, none⟩) (Kd.R_far (p := ⟨gb373, 0, none⟩) (Kd.R_types HO363.out BK373.out (by decide)) (fun _ hk => hk.2) (.slice Ao20 t366.length co20)) (fun _ hk => hk.2) (.slice Ao23 t369.length co23)) (fun _ h_ => h_.1))) hb); have n3_ := Aside0.mk (Kd.R_below (by (with_reducible repeat (first | apply Kd.R_alloc | apply Kd.R_drewN | apply Kd.R_drew)); exact (Kd.R_mono (Kd.R_far (p := ⟨gb373, 1, none⟩) (Kd.R_far (p := ⟨gb373, 0, none⟩) (Kd.R_types HO368.out BK373.out (by decide)) (fun _ hk => hk.2) (.slice Ao20 t366.length co20)) (fun _ hk => hk.2) (.slice Ao23 t369.length co23)) (fun _ h_ => h_.1))) hb); have n4_ := Aside0.mk (Kd.R_below (by (with_reducible repeat (first | apply Kd.R_alloc | apply Kd.R_drewN | apply Kd.R_drew)); exact (Kd.R_mono (Kd.R_far (p := ⟨gb373, 1, none⟩) (Kd.R_far (p := ⟨gb373, 0, none⟩) (Kd.R_types HO371.out BK373.out (by decide)) (fun _ hk => hk.2) (.slice Ao20 t366.length co20)) (fun _ hk => hk.2) (.slice Ao23 t369.length co23)) (fun _ h_ => h_.1))) hb); have n5_ := Aside0.mk (Kd.R_lower ho0 (below_size lB)); have n6_ := Aside0.mk (blk_below (lJ BK365.out) hb); have n7_ := Aside0.mk (blk_below (g := gb373) (o := .cells #[.slice Ao20 t366.length co20, .slice Ao23 t369.length co23] 38 (0, 0)) (by (with_reducible repeat first | apply bN | apply bD | apply bA); refine blk_put (cs := #[.slice Ao20 t366.length co20, .slice none 0 0]) ?_ 1 _ rfl; (with_reducible repeat first | apply bN | apply bD | apply bA); refine blk_put (cs := #[.slice none 0 0, .slice none 0 0]) ?_ 0 _ rfl; (with_reducible repeat first | apply bN | apply bD | apply bA); exact BK373.out) hb); have n8_ := Aside0.mk (below_step lB hb); clear HO357; clear HO360; clear HO363; clear HO368; clear HO371; clear BK365; clear BK373; clear HB; have HO357 := n0_; have HO360 := n1_; have HO363 := n2_; have HO368 := n3_; have HO371 := n4_; have HO378 := n5_; have BK365 := n6_; have BK373 := n7_; have HB := n8_; clear n0_ n1_ n2_ n3_ n4_ n5_ n6_ n7_ n8_; (try clear hb); (try clear hb2); (try clear hk); (try clear hi); (try clear ho0)) | ((with_reducible refine gate_callee (f := 30) rfl ?_); refine gl_ (some 45) (Try.func30) #[.slice Ao12 t355.length co12] ?_; (with_reducible refine (spec_EvalTree.calls k _ _ t355 t379 t380 t381 _ ?side1 ?side2 A7.out).mono ?_); (case side1 => repeat (first | exact (Kd.R_reads' HO357.out).2.2 | (with_reducible refine Kd.C_alloc ?_ _) | (with_reducible refine Kd.C_drewN ?_ _) | (with_reducible refine Kd.C_drew ?_))); (case side2 => exact (Kd.R_reads' HO357.out).2.1); rintro e w25 ⟨v382, rfl, ho0, hb⟩; refine ⟨_, rfl, ?_⟩; have n0_ := Aside0.mk (Kd.R_below (lR HO357.out) hb); have n1_ := Aside0.mk (Kd.R_below (lR HO360.out) hb); have n2_ := Aside0.mk (Kd.R_below (lR HO363.out) hb); have n3_ := Aside0.mk (Kd.R_below (lR HO368.out) hb); have n4_ := Aside0.mk (Kd.R_below (lR HO371.out) hb); have n5_ := Aside0.mk (Kd.R_elder' (lR HO378.out) (Kd.R_base ho0) hb); have n6_ := Aside0.mk (Kd.R_lower (Kd.R_new' ho0 (Kd.R_lt (lR HO378.out))) (below_size lB)); have n7_ := Aside0.mk (blk_below (lK BK365.out) hb); have n8_ := Aside0.mk (blk_below (lK BK373.out) hb); have n9_ := Aside0.mk (below_step lB hb); clear HO357; clear HO360; clear HO363; clear HO368; clear HO371; clear HO378; clear BK365; clear BK373; clear HB; have HO357 := n0_; have HO360 := n1_; have HO363 := n2_; have HO368 := n3_; have HO371 := n4_; have HO378 := n5_; have HO383 := n6_; have BK365 := n7_; have BK373 := n8_; have HB := n9_; clear n0_ n1_ n2_ n3_ n4_ n5_ n6_ n7_ n8_ n9_; (try clear hb); (try clear hb2); (try clear hk); (try clear hi); (try clear ho0)) | ((with_reducible refine gate_callee (f := 25) rfl ?_); refine gl_ (some 51) (Try.func25) #[.slice Ao12 t355.length co12] ?_; (with_reducible refine (impl_MayRaise.calls _ _ t355 t384 t385 _ ?side1 ?side2 A8.out).mono ?_); (case side1 => repeat (first | exact (Kd.R_reads' HO357.out).2.2 | (with_reducible refine Kd.C_alloc ?_ _) | (with_reducible refine Kd.C_drewN ?_ _) | (with_reducible refine Kd.C_drew ?_))); (case side2 => exact (Kd.R_reads' HO357.out).2.1); rintro e w26 ⟨v386, rfl, ho0, hb⟩; refine ⟨_, rfl, ?_⟩; have n0_ := Aside0.mk (Kd.R_below (lR HO357.out) hb); have n1_ := Aside0.mk (Kd.R_below (lR HO360.out) hb); have n2_ := Aside0.mk (Kd.R_below (lR HO363.out) hb); have n3_ := Aside0.mk (Kd.R_below (lR HO368.out) hb); have n4_ := Aside0.mk (Kd.R_below (lR HO371.out) hb); have n5_ := Aside0.mk (Kd.R_elder' (lR HO378.out) (Kd.R_base ho0) hb); have n6_ := Aside0.mk (Kd.R_elder' (lR HO383.out) (Kd.R_base ho0) hb); have n7_ := Aside0.mk (Kd.R_lower (Kd.R_new' (Kd.R_new' ho0 (Kd.R_lt (lR HO378.out))) (Kd.R_lt (lR HO383.out))) (below_size lB)); have n8_ := Aside0.mk (blk_below (lK BK365.out) hb); have n9_ := Aside0.mk (blk_below (lK BK373.out) hb); have n10_ := Aside0.mk (below_step lB hb); clear HO357; clear HO360; clear HO363; clear HO368; clear HO371; clear HO378; clear HO383; clear BK365; clear BK373; clear HB; have HO357 := n0_; have HO360 := n1_; have HO363 := n2_; have HO368 := n3_; have HO371 := n4_; have HO378 := n5_; have HO383 := n6_; have HO387 := n7_; have BK365 := n8_; have BK373 := n9_; have HB := n10_; clear n0_ n1_ n2_ n3_ n4_ n5_ n6_ n7_ n8_ n9_ n10_; (try clear hb); (try clear hb2); (try clear hk); (try clear hi); (try clear ho0)) | ((with_reducible refine gate_callee (f := 24) rfl ?_); refine gl_ (some 56) (Try.func24) #[.slice Ao12 t355.length co12] ?_; (with_reducible refine (spec_MayRaise.calls k _ _ t355 t388 t389 _ ?side1 ?side2 A9.out).mono ?_); (case side1 => repeat (first | exact (Kd.R_reads' HO357.out).2.2 | (with_reducible refine Kd.C_alloc ?_ _) | (with_reducible refine Kd.C_drewN ?_ _) | (with_reducible refine Kd.C_drew ?_))); (case side2 => exact (Kd.R_reads' HO357.out).2.1); rintro e w27 ⟨v390, rfl, ho0, hb⟩; refine ⟨_, rfl, ?_⟩; have n0_ := Aside0.mk (Kd.R_below (lR HO357.out) hb); have n1_ := Aside0.mk (Kd.R_below (lR HO360.out) hb); have n2_ := Aside0.mk (Kd.R_below (lR HO363.out) hb); have n3_ := Aside0.mk (Kd.R_below (lR HO368.out) hb); have n4_ := Aside0.mk (Kd.R_below (lR HO371.out) hb); have n5_ := Aside0.mk (Kd.R_elder' (lR HO378.out) (Kd.R_base ho0) hb); have n6_ := Aside0.mk (Kd.R_elder' (lR HO383.out) (Kd.R_base ho0) hb); have n7_ := Aside0.mk (Kd.R_elder' (lR HO387.out) (Kd.R_base ho0) hb); have n8_ := Aside0.mk (Kd.R_lower (Kd.R_new' (Kd.R_new' (Kd.R_new' ho0 (Kd.R_lt (lR HO378.out))) (Kd.R_lt (lR HO383.out))) (Kd.R_lt (lR HO387.out))) (below_size lB)); have n9_ := Aside0.mk (blk_below (lK BK365.out) hb); have n10_ := Aside0.mk (blk_below (lK BK373.out) hb); have n11_ := Aside0.mk (below_step lB hb); clear HO357; clear HO360; clear HO363; clear HO368; clear HO371; clear HO378; clear HO383; clear HO387; clear BK365; clear BK373; clear HB; have HO357 := n0_; have HO360 := n1_; have HO363 := n2_; have HO368 := n3_; have HO371 := n4_; have HO378 := n5_; have HO383 := n6_; have HO387 := n7_; have HO391 := n8_; have BK365 := n9_; have BK373 := n10_; have HB := n11_; clear n0_ n1_ n2_ n3_ n4_ n5_ n6_ n7_ n8_ n9_ n10_ n11_; (try clear hb); (try clear hb2); (try clear hk); (try clear hi); (try clear ho0)))
    (try simp only [Act.put, List.setIfInBounds_toArray, List.set_cons_zero, List.set_cons_succ])
    go_cut [100] (fun v100 wc => ∃ (kq : Nat) (x100_9 : Bool), v100 = .bool x100_9 ∧ Aside0 (laws_FnHandled.j0 kq t364 t374 t375 t376 t384 x100_9 t358 t361 = some r) ∧ Aside0 (kq ≤ k) ∧ Aside0 (Kd.R (Kd.int .i64) 3 wc w.heap.size (fun k_ => some k_ ≠ (v386 : Value).ownBlock) v377 t374) ∧ Aside0 (Kd.R (Kd.int .i64) 3 wc w.heap.size (fun k_ => some k_ ≠ (v377 : Value).ownBlock) v386 t384) ∧ Aside0 (Kd.R k86 86 wc w.heap.size (fun _ => True) (.slice Ao15 t358.length co15) t358) ∧ Aside0 (Kd.R k63 63 wc w.heap.size (fun _ => True) (.slice Ao17 t361.length co17) t361) ∧ Aside0 (wc.heap[gb365]? = some (.cells #[(.slice Ao15 t358.length co15), (.slice Ao17 t361.length co17)] 38 (0, 0))) ∧ Aside0 (Below w.heap.size w wc))
    case first =>
      have H := HC10.out
      clear HC10
      by_cases c28 : (t364 != t372) = true
      · rw [if_pos c28] at H
        have c28b0 : (t364 != t372) = true := c28
        (try (have c28b1 : decide (t364 = t372) = false := by simpa using c28))
        (try (have c28b2 : (t364 == t372) = false := by simpa using c28))
        (try (have c28b3 : ¬ (t364 = t372) := by simpa using c28))
        clear c28
        (first | rw [c28b0] | (simp only [i64_w, i32_w]; rw [c28b0]) | skip)
        have H' := Aside0.mk H
        clear H
        as_aux_lemma =>
         go_wp2
         go_meet
         case rel => (refine ⟨_, (true), lF, H', ?_⟩; refine ⟨⟨lN⟩, ?_⟩; refine ⟨⟨by (with_reducible repeat (first | apply Kd.R_alloc | apply Kd.R_drewN | apply Kd.R_drew)); exact Kd.R_mono HO378.out (fun _ hk => hk.1.2)⟩, ?_⟩; refine ⟨⟨by (with_reducible repeat (first | apply Kd.R_alloc | apply Kd.R_drewN | apply Kd.R_drew)); exact Kd.R_mono HO387.out (fun _ hk => hk.1.1.2)⟩, ?_⟩; refine ⟨⟨by (with_reducible repeat (first | apply Kd.R_alloc | apply Kd.R_drewN | apply Kd.R_drew)); exact Kd.R_mono HO360.out (fun _ hk => trivial)⟩, ?_⟩; refine ⟨⟨by (with_reducible repeat (first | apply Kd.R_alloc | apply Kd.R_drewN | apply Kd.R_drew)); exact Kd.R_mono HO363.out (fun _ hk => trivial)⟩, ?_⟩; refine ⟨⟨lK BK365.out⟩, ?_⟩; exact ⟨lB⟩)
      · rw [if_neg c28] at H
        have c28b0 : (t364 != t372) = false := by simpa using c28
        (try (have c28b1 : decide (t364 = t372) = true := by simpa using c28))
        (try (have c28b2 : (t364 == t372) = true := by simpa using c28))
        clear c28
        (first | rw [c28b0] | (simp only [i64_w, i32_w]; rw [c28b0]) | skip)
        replace H := lO H
        obtain ⟨t392, A29, H⟩ := H
        by_cases c30 : t392 = true
        · subst c30
          rw [if_pos rfl] at H
          by_cases c31 : (t376 != t381) = true
          · rw [if_pos c31] at H
            have c31b0 : (t376 != t381) = true := c31
            (try (have c31b1 : decide (t376 = t381) = false := by simpa using c31))
            (try (have c31b2 : (t376 == t381) = false := by simpa using c31))
            (try (have c31b3 : ¬ (t376 = t381) := by simpa using c31))
            clear c31
            have H' := Aside0.mk H
            clear H
            have hnb32 := NB365_373.out
            have hnc32 := NB373_365.out
            obtain ⟨hcz33_0, hfz33_0, hcz33_1, hfz33_1⟩ := bk2 BK365.out
            obtain ⟨hcz34_0, hfz34_0, hcz34_1, hfz34_1⟩ := bk2 BK373.out
            as_aux_lemma =>
             go_wp2_with (first | (go_at_call 42; (with_reducible refine (laws_sameLined.calls k _ _ t358 _ _ t361 _ _ t366 _ _ t369 true _ ?side1 ?side2 ?side3 ?side4 ?side5 ?side6 ?side7 ?side8 A29.out).mono ?_); (case side1 => repeat (first | exact (Kd.R_reads' HO360.out).2.2 | (with_reducible refine Kd.C_alloc ?_ _) | (with_reducible refine Kd.C_drewN ?_ _) | (with_reducible refine Kd.C_drew ?_))); (case side2 => exact (Kd.R_reads' HO360.out).2.1); (case side3 => repeat (first | exact (Kd.R_reads' HO363.out).2.2 | (with_reducible refine Kd.C_alloc ?_ _) | (with_reducible refine Kd.C_drewN ?_ _) | (with_reducible refine Kd.C_drew ?_))); (case side4 => exact (Kd.R_reads' HO363.out).2.1); (case side5 => repeat (first | exact (Kd.R_reads' HO368.out).2.2 | (with_reducible refine Kd.C_alloc ?_ _) | (with_reducible refine Kd.C_drewN ?_ _) | (with_reducible refine Kd.C_drew ?_))); (case side6 => exact (Kd.R_reads' HO368.out).2.1); (case side7 => repeat (first | exact (Kd.R_reads' HO371.out).2.2 | (with_reducible refine Kd.C_alloc ?_ _) | (with_reducible refine Kd.C_drewN ?_ _) | (with_reducible refine Kd.C_drew ?_))); (case side8 => exact (Kd.R_reads' HO371.out).2.1); rintro e w35 ⟨rfl, hb⟩; have n0_ := Aside0.mk (Kd.R_below (lR HO357.out) hb); have n1_ := Aside0.mk (Kd.R_below (lR HO360.out) hb); have n2_ := Aside0.mk (Kd.R_below (lR HO363.out) hb); have n3_ := Aside0.mk (Kd.R_below (lR HO368.out) hb); have n4_ := Aside0.mk (Kd.R_below (lR HO371.out) hb); have n5_ := Aside0.mk (Kd.R_below (lR HO378.out) hb); have n6_ := Aside0.mk (Kd.R_below (lR HO383.out) hb); have n7_ := Aside0.mk (Kd.R_below (lR HO387.out) hb); have n8_ := Aside0.mk (Kd.R_below (lR HO391.out) hb); have n9_ := Aside0.mk (blk_below (lK BK365.out) hb); have n10_ := Aside0.mk (blk_below (lK BK373.out) hb); have n11_ := Aside0.mk (below_step lB hb); clear HO357; clear HO360; clear HO363; clear HO368; clear HO371; clear HO378; clear HO383; clear HO387; clear HO391; clear BK365; clear BK373; clear HB; have HO357 := n0_; have HO360 := n1_; have HO363 := n2_; have HO368 := n3_; have HO371 := n4_; have HO378 := n5_; have HO383 := n6_; have HO387 := n7_; have HO391 := n8_; have BK365 := n9_; have BK373 := n10_; have HB := n11_; clear n0_ n1_ n2_ n3_ n4_ n5_ n6_ n7_ n8_ n9_ n10_ n11_; (try clear hb); (try clear hb2); (try clear hk); (try clear hi); (try simp only [])))
             go_meet
             case rel => (refine ⟨_, (true), lF, H', ?_⟩; refine ⟨⟨lN⟩, ?_⟩; refine ⟨⟨by (with_reducible repeat (first | apply Kd.R_alloc | apply Kd.R_drewN | apply Kd.R_drew)); exact Kd.R_mono HO378.out (fun _ hk => hk.1.2)⟩, ?_⟩; refine ⟨⟨by (with_reducible repeat (first | apply Kd.R_alloc | apply Kd.R_drewN | apply Kd.R_drew)); exact Kd.R_mono HO387.out (fun _ hk => hk.1.1.2)⟩, ?_⟩; refine ⟨⟨by (with_reducible repeat (first | apply Kd.R_alloc | apply Kd.R_drewN | apply Kd.R_drew)); exact Kd.R_mono HO360.out (fun _ hk => trivial)⟩, ?_⟩; refine ⟨⟨by (with_reducible repeat (first | apply Kd.R_alloc | apply Kd.R_drewN | apply Kd.R_drew)); exact Kd.R_mono HO363.out (fun _ hk => trivial)⟩, ?_⟩; refine ⟨⟨lK BK365.out⟩, ?_⟩; exact ⟨lB⟩)
          · rw [if_neg c31] at H
            have c31b0 : (t376 != t381) = false := by simpa using c31
            (try (have c31b1 : decide (t376 = t381) = true := by simpa using c31))
            (try (have c31b2 : (t376 == t381) = true := by simpa using c31))
            clear c31
            by_cases c36 : t375 = t380
            · rw [if_pos c36] at H
              have c36b0 : (t375 == t380) = true := beq_iff_eq.mpr c36
              have c36b1 : (t375 != t380) = false := bne_eq_false_iff_eq.mpr c36
              clear c36
              replace H := lO H
              obtain ⟨t393, A37, H⟩ := H
              by_cases c38 : t393 = true
              · subst c38
                rw [if_pos rfl] at H
                by_cases c39 : (t385 != t389) = true
                · rw [if_pos c39] at H
                  have c39b0 : (t385 != t389) = true := c39
                  (try (have c39b1 : decide (t385 = t389) = false := by simpa using c39))
                  (try (have c39b2 : (t385 == t389) = false := by simpa using c39))
                  (try (have c39b3 : ¬ (t385 = t389) := by simpa using c39))
                  clear c39
                  have H' := Aside0.mk H
                  clear H
                  have hnb40 := NB365_373.out
                  have hnc40 := NB373_365.out
                  obtain ⟨hcz41_0, hfz41_0, hcz41_1, hfz41_1⟩ := bk2 BK365.out
                  obtain ⟨hcz42_0, hfz42_0, hcz42_1, hfz42_1⟩ := bk2 BK373.out
                  as_aux_lemma =>
                   go_wp2_with (first | (go_at_call 42; (with_reducible refine (laws_sameLined.calls k _ _ t358 _ _ t361 _ _ t366 _ _ t369 true _ ?side1 ?side2 ?side3 ?side4 ?side5 ?side6 ?side7 ?side8 A29.out).mono ?_); (case side1 => repeat (first | exact (Kd.R_reads' HO360.out).2.2 | (with_reducible refine Kd.C_alloc ?_ _) | (with_reducible refine Kd.C_drewN ?_ _) | (with_reducible refine Kd.C_drew ?_))); (case side2 => exact (Kd.R_reads' HO360.out).2.1); (case side3 => repeat (first | exact (Kd.R_reads' HO363.out).2.2 | (with_reducible refine Kd.C_alloc ?_ _) | (with_reducible refine Kd.C_drewN ?_ _) | (with_reducible refine Kd.C_drew ?_))); (case side4 => exact (Kd.R_reads' HO363.out).2.1); (case side5 => repeat (first | exact (Kd.R_reads' HO368.out).2.2 | (with_reducible refine Kd.C_alloc ?_ _) | (with_reducible refine Kd.C_drewN ?_ _) | (with_reducible refine Kd.C_drew ?_))); (case side6 => exact (Kd.R_reads' HO368.out).2.1); (case side7 => repeat (first | exact (Kd.R_reads' HO371.out).2.2 | (with_reducible refine Kd.C_alloc ?_ _) | (with_reducible refine Kd.C_drewN ?_ _) | (with_reducible refine Kd.C_drew ?_))); (case side8 => exact (Kd.R_reads' HO371.out).2.1); rintro e w43 ⟨rfl, hb⟩; have n0_ := Aside0.mk (Kd.R_below (lR HO357.out) hb); have n1_ := Aside0.mk (Kd.R_below (lR HO360.out) hb); have n2_ := Aside0.mk (Kd.R_below (lR HO363.out) hb); have n3_ := Aside0.mk (Kd.R_below (lR HO368.out) hb); have n4_ := Aside0.mk (Kd.R_below (lR HO371.out) hb); have n5_ := Aside0.mk (Kd.R_below (lR HO378.out) hb); have n6_ := Aside0.mk (Kd.R_below (lR HO383.out) hb); have n7_ := Aside0.mk (Kd.R_below (lR HO387.out) hb); have n8_ := Aside0.mk (Kd.R_below (lR HO391.out) hb); have n9_ := Aside0.mk (blk_below (lK BK365.out) hb); have n10_ := Aside0.mk (blk_below (lK BK373.out) hb); have n11_ := Aside0.mk (below_step lB hb); clear HO357; clear HO360; clear HO363; clear HO368; clear HO371; clear HO378; clear HO383; clear HO387; clear HO391; clear BK365; clear BK373; clear HB; have HO357 := n0_; have HO360 := n1_; have HO363 := n2_; have HO368 := n3_; have HO371 := n4_; have HO378 := n5_; have HO383 := n6_; have HO387 := n7_; have HO391 := n8_; have BK365 := n9_; have BK373 := n10_; have HB := n11_; clear n0_ n1_ n2_ n3_ n4_ n5_ n6_ n7_ n8_ n9_ n10_ n11_; (try clear hb); (try clear hb2); (try clear hk); (try clear hi); obtain ⟨Ao44, co44, eo44⟩ := Kd.R_slice HO378.out; subst eo44; obtain ⟨Ao45, co45, eo45⟩ := Kd.R_slice HO383.out; subst eo45) | (go_at_call 40; (with_reducible refine (laws_sameInts.calls k _ _ t374 _ _ t379 true _ ?side1 ?side2 ?side3 ?side4 A37.out).mono ?_); (case side1 => repeat (first | exact (Kd.R_reads' HO378.out).2.2 | (with_reducible refine Kd.C_alloc ?_ _) | (with_reducible refine Kd.C_drewN ?_ _) | (with_reducible refine Kd.C_drew ?_))); (case side2 => exact (Kd.R_reads' HO378.out).2.1); (case side3 => repeat (first | exact (Kd.R_reads' HO383.out).2.2 | (with_reducible refine Kd.C_alloc ?_ _) | (with_reducible refine Kd.C_drewN ?_ _) | (with_reducible refine Kd.C_drew ?_))); (case side4 => exact (Kd.R_reads' HO383.out).2.1); rintro e w' ⟨rfl, ⟨nd, rfl⟩⟩))
                   go_meet
                   case rel => (refine ⟨_, (true), lF, H', ?_⟩; refine ⟨⟨lN⟩, ?_⟩; refine ⟨⟨by (with_reducible repeat (first | apply Kd.R_alloc | apply Kd.R_drewN | apply Kd.R_drew)); exact Kd.R_mono HO378.out (fun _ hk => hk.1.2)⟩, ?_⟩; refine ⟨⟨by (with_reducible repeat (first | apply Kd.R_alloc | apply Kd.R_drewN | apply Kd.R_drew)); exact Kd.R_mono HO387.out (fun _ hk => hk.1.1.2)⟩, ?_⟩; refine ⟨⟨by (with_reducible repeat (first | apply Kd.R_alloc | apply Kd.R_drewN | apply Kd.R_drew)); exact Kd.R_mono HO360.out (fun _ hk => trivial)⟩, ?_⟩; refine ⟨⟨by (with_reducible repeat (first | apply Kd.R_alloc | apply Kd.R_drewN | apply Kd.R_drew)); exact Kd.R_mono HO363.out (fun _ hk => trivial)⟩, ?_⟩; refine ⟨⟨lK BK365.out⟩, ?_⟩; exact ⟨lB⟩)
                · rw [if_neg c39] at H
                  have c39b0 : (t385 != t389) = false := by simpa using c39
                  (try (have c39b1 : decide (t385 = t389) = true := by simpa using c39))
                  (try (have c39b2 : (t385 == t389) = true := by simpa using c39))
                  clear c39
                  replace H := lO H
                  obtain ⟨t394, A46, H⟩ := H
                  by_cases c47 : t394 = true
                  · subst c47
                    rw [if_pos rfl] at H
                    replace H := lO H
                    obtain ⟨t395, A48, H⟩ := H
                    have H' := Aside0.mk H
                    clear H
                    have hnb49 := NB365_373.out
                    have hnc49 := NB373_365.out
                    obtain ⟨hcz50_0, hfz50_0, hcz50_1, hfz50_1⟩ := bk2 BK365.out
                    obtain ⟨hcz51_0, hfz51_0, hcz51_1, hfz51_1⟩ := bk2 BK373.out
                    as_aux_lemma =>
                     go_wp2_with (first | (go_at_call 42; (with_reducible refine (laws_sameLined.calls k _ _ t358 _ _ t361 _ _ t366 _ _ t369 true _ ?side1 ?side2 ?side3 ?side4 ?side5 ?side6 ?side7 ?side8 A29.out).mono ?_); (case side1 => repeat (first | exact (Kd.R_reads' HO360.out).2.2 | (with_reducible refine Kd.C_alloc ?_ _) | (with_reducible refine Kd.C_drewN ?_ _) | (with_reducible refine Kd.C_drew ?_))); (case side2 => exact (Kd.R_reads' HO360.out).2.1); (case side3 => repeat (first | exact (Kd.R_reads' HO363.out).2.2 | (with_reducible refine Kd.C_alloc ?_ _) | (with_reducible refine Kd.C_drewN ?_ _) | (with_reducible refine Kd.C_drew ?_))); (case side4 => exact (Kd.R_reads' HO363.out).2.1); (case side5 => repeat (first | exact (Kd.R_reads' HO368.out).2.2 | (with_reducible refine Kd.C_alloc ?_ _) | (with_reducible refine Kd.C_drewN ?_ _) | (with_reducible refine Kd.C_drew ?_))); (case side6 => exact (Kd.R_reads' HO368.out).2.1); (case side7 => repeat (first | exact (Kd.R_reads' HO371.out).2.2 | (with_reducible refine Kd.C_alloc ?_ _) | (with_reducible refine Kd.C_drewN ?_ _) | (with_reducible refine Kd.C_drew ?_))); (case side8 => exact (Kd.R_reads' HO371.out).2.1); rintro e w52 ⟨rfl, hb⟩; have n0_ := Aside0.mk (Kd.R_below (lR HO357.out) hb); have n1_ := Aside0.mk (Kd.R_below (lR HO360.out) hb); have n2_ := Aside0.mk (Kd.R_below (lR HO363.out) hb); have n3_ := Aside0.mk (Kd.R_below (lR HO368.out) hb); have n4_ := Aside0.mk (Kd.R_below (lR HO371.out) hb); have n5_ := Aside0.mk (Kd.R_below (lR HO378.out) hb); have n6_ := Aside0.mk (Kd.R_below (lR HO383.out) hb); have n7_ := Aside0.mk (Kd.R_below (lR HO387.out) hb); have n8_ := Aside0.mk (Kd.R_below (lR HO391.out) hb); have n9_ := Aside0.mk (blk_below (lK BK365.out) hb); have n10_ := Aside0.mk (blk_below (lK BK373.out) hb); have n11_ := Aside0.mk (below_step lB hb); clear HO357; clear HO360; clear HO363; clear HO368; clear HO371; clear HO378; clear HO383; clear HO387; clear HO391; clear BK365; clear BK373; clear HB; have HO357 := n0_; have HO360 := n1_; have HO363 := n2_; have HO368 := n3_; have HO371 := n4_; have HO378 := n5_; have HO383 := n6_; have HO387 := n7_; have HO391 := n8_; have BK365 := n9_; have BK373 := n10_; have HB := n11_; clear n0_ n1_ n2_ n3_ n4_ n5_ n6_ n7_ n8_ n9_ n10_ n11_; (try clear hb); (try clear hb2); (try clear hk); (try clear hi); obtain ⟨Ao53, co53, eo53⟩ := Kd.R_slice HO378.out; subst eo53; obtain ⟨Ao54, co54, eo54⟩ := Kd.R_slice HO383.out; subst eo54) | (go_at_call 40; (with_reducible refine (laws_sameInts.calls k _ _ t374 _ _ t379 true _ ?side1 ?side2 ?side3 ?side4 A37.out).mono ?_); (case side1 => repeat (first | exact (Kd.R_reads' HO378.out).2.2 | (with_reducible refine Kd.C_alloc ?_ _) | (with_reducible refine Kd.C_drewN ?_ _) | (with_reducible refine Kd.C_drew ?_))); (case side2 => exact (Kd.R_reads' HO378.out).2.1); (case side3 => repeat (first | exact (Kd.R_reads' HO383.out).2.2 | (with_reducible refine Kd.C_alloc ?_ _) | (with_reducible refine Kd.C_drewN ?_ _) | (with_reducible refine Kd.C_drew ?_))); (case side4 => exact (Kd.R_reads' HO383.out).2.1); rintro e w' ⟨rfl, ⟨nd, rfl⟩⟩; obtain ⟨Ao55, co55, eo55⟩ := Kd.R_slice HO387.out; subst eo55; obtain ⟨Ao56, co56, eo56⟩ := Kd.R_slice HO391.out; subst eo56) | (go_at_call 40; (with_reducible refine (laws_sameInts.calls k _ _ t384 _ _ t388 true _ ?side1 ?side2 ?side3 ?side4 A46.out).mono ?_); (case side1 => repeat (first | exact (Kd.R_reads' HO387.out).2.2 | (with_reducible refine Kd.C_alloc ?_ _) | (with_reducible refine Kd.C_drewN ?_ _) | (with_reducible refine Kd.C_drew ?_))); (case side2 => exact (Kd.R_reads' HO387.out).2.1); (case side3 => repeat (first | exact (Kd.R_reads' HO391.out).2.2 | (with_reducible refine Kd.C_alloc ?_ _) | (with_reducible refine Kd.C_drewN ?_ _) | (with_reducible refine Kd.C_drew ?_))); (case side4 => exact (Kd.R_reads' HO391.out).2.1); rintro e w' ⟨rfl, ⟨nd, rfl⟩⟩) | (go_at_call 15; (with_reducible refine (impl_GoodTree2.calls _ _ t355 t395 _ ?side1 ?side2 A48.out).mono ?_); (case side1 => repeat (first | exact (Kd.R_reads' HO357.out).2.2 | (with_reducible refine Kd.C_alloc ?_ _) | (with_reducible refine Kd.C_drewN ?_ _) | (with_reducible refine Kd.C_drew ?_))); (case side2 => exact (Kd.R_reads' HO357.out).2.1); rintro e w57 ⟨rfl, hb⟩; have n0_ := Aside0.mk (Kd.R_below (lR HO357.out) hb); have n1_ := Aside0.mk (Kd.R_below (lR HO360.out) hb); have n2_ := Aside0.mk (Kd.R_below (lR HO363.out) hb); have n3_ := Aside0.mk (Kd.R_below (lR HO368.out) hb); have n4_ := Aside0.mk (Kd.R_below (lR HO371.out) hb); have n5_ := Aside0.mk (Kd.R_below (lR HO378.out) hb); have n6_ := Aside0.mk (Kd.R_below (lR HO383.out) hb); have n7_ := Aside0.mk (Kd.R_below (lR HO387.out) hb); have n8_ := Aside0.mk (Kd.R_below (lR HO391.out) hb); have n9_ := Aside0.mk (blk_below (lK BK365.out) hb); have n10_ := Aside0.mk (blk_below (lK BK373.out) hb); have n11_ := Aside0.mk (below_step lB hb); clear HO357; clear HO360; clear HO363; clear HO368; clear HO371; clear HO378; clear HO383; clear HO387; clear HO391; clear BK365; clear BK373; clear HB; have HO357 := n0_; have HO360 := n1_; have HO363 := n2_; have HO368 := n3_; have HO371 := n4_; have HO378 := n5_; have HO383 := n6_; have HO387 := n7_; have HO391 := n8_; have BK365 := n9_; have BK373 := n10_; have HB := n11_; clear n0_ n1_ n2_ n3_ n4_ n5_ n6_ n7_ n8_ n9_ n10_ n11_; (try clear hb); (try clear hb2); (try clear hk); (try clear hi); (try simp only [])))
                     go_meet
                     case rel => (refine ⟨_, ((t395 != t389)), lF, H', ?_⟩; refine ⟨⟨lN⟩, ?_⟩; refine ⟨⟨by (with_reducible repeat (first | apply Kd.R_alloc | apply Kd.R_drewN | apply Kd.R_drew)); exact Kd.R_mono HO378.out (fun _ hk => hk.1.2)⟩, ?_⟩; refine ⟨⟨by (with_reducible repeat (first | apply Kd.R_alloc | apply Kd.R_drewN | apply Kd.R_drew)); exact Kd.R_mono HO387.out (fun _ hk => hk.1.1.2)⟩, ?_⟩; refine ⟨⟨by (with_reducible repeat (first | apply Kd.R_alloc | apply Kd.R_drewN | apply Kd.R_drew)); exact Kd.R_mono HO360.out (fun _ hk => trivial)⟩, ?_⟩; refine ⟨⟨by (with_reducible repeat (first | apply Kd.R_alloc | apply Kd.R_drewN | apply Kd.R_drew)); exact Kd.R_mono HO363.out (fun _ hk => trivial)⟩, ?_⟩; refine ⟨⟨lK BK365.out⟩, ?_⟩; exact ⟨lB⟩)
                  · replace c47 := Bool.eq_false_iff.mpr c47
                    subst c47
                    rw [if_neg (show ¬ (false = true) by decide)] at H
                    have H' := Aside0.mk H
                    clear H
                    have hnb58 := NB365_373.out
                    have hnc58 := NB373_365.out
                    obtain ⟨hcz59_0, hfz59_0, hcz59_1, hfz59_1⟩ := bk2 BK365.out
                    obtain ⟨hcz60_0, hfz60_0, hcz60_1, hfz60_1⟩ := bk2 BK373.out
                    as_aux_lemma =>
                     go_wp2_with (first | (go_at_call 42; (with_reducible refine (laws_sameLined.calls k _ _ t358 _ _ t361 _ _ t366 _ _ t369 true _ ?side1 ?side2 ?side3 ?side4 ?side5 ?side6 ?side7 ?side8 A29.out).mono ?_); (case side1 => repeat (first | exact (Kd.R_reads' HO360.out).2.2 | (with_reducible refine Kd.C_alloc ?_ _) | (with_reducible refine Kd.C_drewN ?_ _) | (with_reducible refine Kd.C_drew ?_))); (case side2 => exact (Kd.R_reads' HO360.out).2.1); (case side3 => repeat (first | exact (Kd.R_reads' HO363.out).2.2 | (with_reducible refine Kd.C_alloc ?_ _) | (with_reducible refine Kd.C_drewN ?_ _) | (with_reducible refine Kd.C_drew ?_))); (case side4 => exact (Kd.R_reads' HO363.out).2.1); (case side5 => repeat (first | exact (Kd.R_reads' HO368.out).2.2 | (with_reducible refine Kd.C_alloc ?_ _) | (with_reducible refine Kd.C_drewN ?_ _) | (with_reducible refine Kd.C_drew ?_))); (case side6 => exact (Kd.R_reads' HO368.out).2.1); (case side7 => repeat (first | exact (Kd.R_reads' HO371.out).2.2 | (with_reducible refine Kd.C_alloc ?_ _) | (with_reducible refine Kd.C_drewN ?_ _) | (with_reducible refine Kd.C_drew ?_))); (case side8 => exact (Kd.R_reads' HO371.out).2.1); rintro e w61 ⟨rfl, hb⟩; have n0_ := Aside0.mk (Kd.R_below (lR HO357.out) hb); have n1_ := Aside0.mk (Kd.R_below (lR HO360.out) hb); have n2_ := Aside0.mk (Kd.R_below (lR HO363.out) hb); have n3_ := Aside0.mk (Kd.R_below (lR HO368.out) hb); have n4_ := Aside0.mk (Kd.R_below (lR HO371.out) hb); have n5_ := Aside0.mk (Kd.R_below (lR HO378.out) hb); have n6_ := Aside0.mk (Kd.R_below (lR HO383.out) hb); have n7_ := Aside0.mk (Kd.R_below (lR HO387.out) hb); have n8_ := Aside0.mk (Kd.R_below (lR HO391.out) hb); have n9_ := Aside0.mk (blk_below (lK BK365.out) hb); have n10_ := Aside0.mk (blk_below (lK BK373.out) hb); have n11_ := Aside0.mk (below_step lB hb); clear HO357; clear HO360; clear HO363; clear HO368; clear HO371; clear HO378; clear HO383; clear HO387; clear HO391; clear BK365; clear BK373; clear HB; have HO357 := n0_; have HO360 := n1_; have HO363 := n2_; have HO368 := n3_; have HO371 := n4_; have HO378 := n5_; have HO383 := n6_; have HO387 := n7_; have HO391 := n8_; have BK365 := n9_; have BK373 := n10_; have HB := n11_; clear n0_ n1_ n2_ n3_ n4_ n5_ n6_ n7_ n8_ n9_ n10_ n11_; (try clear hb); (try clear hb2); (try clear hk); (try clear hi); obtain ⟨Ao62, co62, eo62⟩ := Kd.R_slice HO378.out; subst eo62; obtain ⟨Ao63, co63, eo63⟩ := Kd.R_slice HO383.out; subst eo63) | (go_at_call 40; (with_reducible refine (laws_sameInts.calls k _ _ t374 _ _ t379 true _ ?side1 ?side2 ?side3 ?side4 A37.out).mono ?_); (case side1 => repeat (first | exact (Kd.R_reads' HO378.out).2.2 | (with_reducible refine Kd.C_alloc ?_ _) | (with_reducible refine Kd.C_drewN ?_ _) | (with_reducible refine Kd.C_drew ?_))); (case side2 => exact (Kd.R_reads' HO378.out).2.1); (case side3 => repeat (first | exact (Kd.R_reads' HO383.out).2.2 | (with_reducible refine Kd.C_alloc ?_ _) | (with_reducible refine Kd.C_drewN ?_ _) | (with_reducible refine Kd.C_drew ?_))); (case side4 => exact (Kd.R_reads' HO383.out).2.1); rintro e w' ⟨rfl, ⟨nd, rfl⟩⟩; obtain ⟨Ao64, co64, eo64⟩ := Kd.R_slice HO387.out; subst eo64; obtain ⟨Ao65, co65, eo65⟩ := Kd.R_slice HO391.out; subst eo65) | (go_at_call 40; (with_reducible refine (laws_sameInts.calls k _ _ t384 _ _ t388 false _ ?side1 ?side2 ?side3 ?side4 A46.out).mono ?_); (case side1 => repeat (first | exact (Kd.R_reads' HO387.out).2.2 | (with_reducible refine Kd.C_alloc ?_ _) | (with_reducible refine Kd.C_drewN ?_ _) | (with_reducible refine Kd.C_drew ?_))); (case side2 => exact (Kd.R_reads' HO387.out).2.1); (case side3 => repeat (first | exact (Kd.R_reads' HO391.out).2.2 | (with_reducible refine Kd.C_alloc ?_ _) | (with_reducible refine Kd.C_drewN ?_ _) | (with_reducible refine Kd.C_drew ?_))); (case side4 => exact (Kd.R_reads' HO391.out).2.1); rintro e w' ⟨rfl, ⟨nd, rfl⟩⟩))
                     go_meet
                     case rel => (refine ⟨_, (true), lF, H', ?_⟩; refine ⟨⟨lN⟩, ?_⟩; refine ⟨⟨by (with_reducible repeat (first | apply Kd.R_alloc | apply Kd.R_drewN | apply Kd.R_drew)); exact Kd.R_mono HO378.out (fun _ hk => hk.1.2)⟩, ?_⟩; refine ⟨⟨by (with_reducible repeat (first | apply Kd.R_alloc | apply Kd.R_drewN | apply Kd.R_drew)); exact Kd.R_mono HO387.out (fun _ hk => hk.1.1.2)⟩, ?_⟩; refine ⟨⟨by (with_reducible repeat (first | apply Kd.R_alloc | apply Kd.R_drewN | apply Kd.R_drew)); exact Kd.R_mono HO360.out (fun _ hk => trivial)⟩, ?_⟩; refine ⟨⟨by (with_reducible repeat (first | apply Kd.R_alloc | apply Kd.R_drewN | apply Kd.R_drew)); exact Kd.R_mono HO363.out (fun _ hk => trivial)⟩, ?_⟩; refine ⟨⟨lK BK365.out⟩, ?_⟩; exact ⟨lB⟩)
              · replace c38 := Bool.eq_false_iff.mpr c38
                subst c38
                rw [if_neg (show ¬ (false = true) by decide)] at H
                have H' := Aside0.mk H
                clear H
                have hnb66 := NB365_373.out
                have hnc66 := NB373_365.out
                obtain ⟨hcz67_0, hfz67_0, hcz67_1, hfz67_1⟩ := bk2 BK365.out
                obtain ⟨hcz68_0, hfz68_0, hcz68_1, hfz68_1⟩ := bk2 BK373.out
                as_aux_lemma =>
                 go_wp2_with (first | (go_at_call 42; (with_reducible refine (laws_sameLined.calls k _ _ t358 _ _ t361 _ _ t366 _ _ t369 true _ ?side1 ?side2 ?side3 ?side4 ?side5 ?side6 ?side7 ?side8 A29.out).mono ?_); (case side1 => repeat (first | exact (Kd.R_reads' HO360.out).2.2 | (with_reducible refine Kd.C_alloc ?_ _) | (with_reducible refine Kd.C_drewN ?_ _) | (with_reducible refine Kd.C_drew ?_))); (case side2 => exact (Kd.R_reads' HO360.out).2.1); (case side3 => repeat (first | exact (Kd.R_reads' HO363.out).2.2 | (with_reducible refine Kd.C_alloc ?_ _) | (with_reducible refine Kd.C_drewN ?_ _) | (with_reducible refine Kd.C_drew ?_))); (case side4 => exact (Kd.R_reads' HO363.out).2.1); (case side5 => repeat (first | exact (Kd.R_reads' HO368.out).2.2 | (with_reducible refine Kd.C_alloc ?_ _) | (with_reducible refine Kd.C_drewN ?_ _) | (with_reducible refine Kd.C_drew ?_))); (case side6 => exact (Kd.R_reads' HO368.out).2.1); (case side7 => repeat (first | exact (Kd.R_reads' HO371.out).2.2 | (with_reducible refine Kd.C_alloc ?_ _) | (with_reducible refine Kd.C_drewN ?_ _) | (with_reducible refine Kd.C_drew ?_))); (case side8 => exact (Kd.R_reads' HO371.out).2.1); rintro e w69 ⟨rfl, hb⟩; have n0_ := Aside0.mk (Kd.R_below (lR HO357.out) hb); have n1_ := Aside0.mk (Kd.R_below (lR HO360.out) hb); have n2_ := Aside0.mk (Kd.R_below (lR HO363.out) hb); have n3_ := Aside0.mk (Kd.R_below (lR HO368.out) hb); have n4_ := Aside0.mk (Kd.R_below (lR HO371.out) hb); have n5_ := Aside0.mk (Kd.R_below (lR HO378.out) hb); have n6_ := Aside0.mk (Kd.R_below (lR HO383.out) hb); have n7_ := Aside0.mk (Kd.R_below (lR HO387.out) hb); have n8_ := Aside0.mk (Kd.R_below (lR HO391.out) hb); have n9_ := Aside0.mk (blk_below (lK BK365.out) hb); have n10_ := Aside0.mk (blk_below (lK BK373.out) hb); have n11_ := Aside0.mk (below_step lB hb); clear HO357; clear HO360; clear HO363; clear HO368; clear HO371; clear HO378; clear HO383; clear HO387; clear HO391; clear BK365; clear BK373; clear HB; have HO357 := n0_; have HO360 := n1_; have HO363 := n2_; have HO368 := n3_; have HO371 := n4_; have HO378 := n5_; have HO383 := n6_; have HO387 := n7_; have HO391 := n8_; have BK365 := n9_; have BK373 := n10_; have HB := n11_; clear n0_ n1_ n2_ n3_ n4_ n5_ n6_ n7_ n8_ n9_ n10_ n11_; (try clear hb); (try clear hb2); (try clear hk); (try clear hi); obtain ⟨Ao70, co70, eo70⟩ := Kd.R_slice HO378.out; subst eo70; obtain ⟨Ao71, co71, eo71⟩ := Kd.R_slice HO383.out; subst eo71) | (go_at_call 40; (with_reducible refine (laws_sameInts.calls k _ _ t374 _ _ t379 false _ ?side1 ?side2 ?side3 ?side4 A37.out).mono ?_); (case side1 => repeat (first | exact (Kd.R_reads' HO378.out).2.2 | (with_reducible refine Kd.C_alloc ?_ _) | (with_reducible refine Kd.C_drewN ?_ _) | (with_reducible refine Kd.C_drew ?_))); (case side2 => exact (Kd.R_reads' HO378.out).2.1); (case side3 => repeat (first | exact (Kd.R_reads' HO383.out).2.2 | (with_reducible refine Kd.C_alloc ?_ _) | (with_reducible refine Kd.C_drewN ?_ _) | (with_reducible refine Kd.C_drew ?_))); (case side4 => exact (Kd.R_reads' HO383.out).2.1); rintro e w' ⟨rfl, ⟨nd, rfl⟩⟩))
                 go_meet
                 case rel => (refine ⟨_, (true), lF, H', ?_⟩; refine ⟨⟨lN⟩, ?_⟩; refine ⟨⟨by (with_reducible repeat (first | apply Kd.R_alloc | apply Kd.R_drewN | apply Kd.R_drew)); exact Kd.R_mono HO378.out (fun _ hk => hk.1.2)⟩, ?_⟩; refine ⟨⟨by (with_reducible repeat (first | apply Kd.R_alloc | apply Kd.R_drewN | apply Kd.R_drew)); exact Kd.R_mono HO387.out (fun _ hk => hk.1.1.2)⟩, ?_⟩; refine ⟨⟨by (with_reducible repeat (first | apply Kd.R_alloc | apply Kd.R_drewN | apply Kd.R_drew)); exact Kd.R_mono HO360.out (fun _ hk => trivial)⟩, ?_⟩; refine ⟨⟨by (with_reducible repeat (first | apply Kd.R_alloc | apply Kd.R_drewN | apply Kd.R_drew)); exact Kd.R_mono HO363.out (fun _ hk => trivial)⟩, ?_⟩; refine ⟨⟨lK BK365.out⟩, ?_⟩; exact ⟨lB⟩)
            · rw [if_neg c36] at H
              have c36b0 : (t375 == t380) = false := beq_eq_false_iff_ne.mpr c36
              have c36b1 : (t375 != t380) = true := bne_iff_ne.mpr c36
              have H' := Aside0.mk H
              clear H
              have hnb72 := NB365_373.out
              have hnc72 := NB373_365.out
              obtain ⟨hcz73_0, hfz73_0, hcz73_1, hfz73_1⟩ := bk2 BK365.out
              obtain ⟨hcz74_0, hfz74_0, hcz74_1, hfz74_1⟩ := bk2 BK373.out
              as_aux_lemma =>
               go_wp2_with (first | (go_at_call 42; (with_reducible refine (laws_sameLined.calls k _ _ t358 _ _ t361 _ _ t366 _ _ t369 true _ ?side1 ?side2 ?side3 ?side4 ?side5 ?side6 ?side7 ?side8 A29.out).mono ?_); (case side1 => repeat (first | exact (Kd.R_reads' HO360.out).2.2 | (with_reducible refine Kd.C_alloc ?_ _) | (with_reducible refine Kd.C_drewN ?_ _) | (with_reducible refine Kd.C_drew ?_))); (case side2 => exact (Kd.R_reads' HO360.out).2.1); (case side3 => repeat (first | exact (Kd.R_reads' HO363.out).2.2 | (with_reducible refine Kd.C_alloc ?_ _) | (with_reducible refine Kd.C_drewN ?_ _) | (with_reducible refine Kd.C_drew ?_))); (case side4 => exact (Kd.R_reads' HO363.out).2.1); (case side5 => repeat (first | exact (Kd.R_reads' HO368.out).2.2 | (with_reducible refine Kd.C_alloc ?_ _) | (with_reducible refine Kd.C_drewN ?_ _) | (with_reducible refine Kd.C_drew ?_))); (case side6 => exact (Kd.R_reads' HO368.out).2.1); (case side7 => repeat (first | exact (Kd.R_reads' HO371.out).2.2 | (with_reducible refine Kd.C_alloc ?_ _) | (with_reducible refine Kd.C_drewN ?_ _) | (with_reducible refine Kd.C_drew ?_))); (case side8 => exact (Kd.R_reads' HO371.out).2.1); rintro e w75 ⟨rfl, hb⟩; have n0_ := Aside0.mk (Kd.R_below (lR HO357.out) hb); have n1_ := Aside0.mk (Kd.R_below (lR HO360.out) hb); have n2_ := Aside0.mk (Kd.R_below (lR HO363.out) hb); have n3_ := Aside0.mk (Kd.R_below (lR HO368.out) hb); have n4_ := Aside0.mk (Kd.R_below (lR HO371.out) hb); have n5_ := Aside0.mk (Kd.R_below (lR HO378.out) hb); have n6_ := Aside0.mk (Kd.R_below (lR HO383.out) hb); have n7_ := Aside0.mk (Kd.R_below (lR HO387.out) hb); have n8_ := Aside0.mk (Kd.R_below (lR HO391.out) hb); have n9_ := Aside0.mk (blk_below (lK BK365.out) hb); have n10_ := Aside0.mk (blk_below (lK BK373.out) hb); have n11_ := Aside0.mk (below_step lB hb); clear HO357; clear HO360; clear HO363; clear HO368; clear HO371; clear HO378; clear HO383; clear HO387; clear HO391; clear BK365; clear BK373; clear HB; have HO357 := n0_; have HO360 := n1_; have HO363 := n2_; have HO368 := n3_; have HO371 := n4_; have HO378 := n5_; have HO383 := n6_; have HO387 := n7_; have HO391 := n8_; have BK365 := n9_; have BK373 := n10_; have HB := n11_; clear n0_ n1_ n2_ n3_ n4_ n5_ n6_ n7_ n8_ n9_ n10_ n11_; (try clear hb); (try clear hb2); (try clear hk); (try clear hi); (try simp only [])))
               go_meet
               case rel => (refine ⟨_, (true), lF, H', ?_⟩; refine ⟨⟨lN⟩, ?_⟩; refine ⟨⟨by (with_reducible repeat (first | apply Kd.R_alloc | apply Kd.R_drewN | apply Kd.R_drew)); exact Kd.R_mono HO378.out (fun _ hk => hk.1.2)⟩, ?_⟩; refine ⟨⟨by (with_reducible repeat (first | apply Kd.R_alloc | apply Kd.R_drewN | apply Kd.R_drew)); exact Kd.R_mono HO387.out (fun _ hk => hk.1.1.2)⟩, ?_⟩; refine ⟨⟨by (with_reducible repeat (first | apply Kd.R_alloc | apply Kd.R_drewN | apply Kd.R_drew)); exact Kd.R_mono HO360.out (fun _ hk => trivial)⟩, ?_⟩; refine ⟨⟨by (with_reducible repeat (first | apply Kd.R_alloc | apply Kd.R_drewN | apply Kd.R_drew)); exact Kd.R_mono HO363.out (fun _ hk => trivial)⟩, ?_⟩; refine ⟨⟨lK BK365.out⟩, ?_⟩; exact ⟨lB⟩)
        · replace c30 := Bool.eq_false_iff.mpr c30
          subst c30
          rw [if_neg (show ¬ (false = true) by decide)] at H
          have H' := Aside0.mk H
          clear H
          have hnb76 := NB365_373.out
          have hnc76 := NB373_365.out
          obtain ⟨hcz77_0, hfz77_0, hcz77_1, hfz77_1⟩ := bk2 BK365.out
          obtain ⟨hcz78_0, hfz78_0, hcz78_1, hfz78_1⟩ := bk2 BK373.out
          as_aux_lemma =>
           go_wp2_with (first | (go_at_call 42; (with_reducible refine (laws_sameLined.calls k _ _ t358 _ _ t361 _ _ t366 _ _ t369 false _ ?side1 ?side2 ?side3 ?side4 ?side5 ?side6 ?side7 ?side8 A29.out).mono ?_); (case side1 => repeat (first | exact (Kd.R_reads' HO360.out).2.2 | (with_reducible refine Kd.C_alloc ?_ _) | (with_reducible refine Kd.C_drewN ?_ _) | (with_reducible refine Kd.C_drew ?_))); (case side2 => exact (Kd.R_reads' HO360.out).2.1); (case side3 => repeat (first | exact (Kd.R_reads' HO363.out).2.2 | (with_reducible refine Kd.C_alloc ?_ _) | (with_reducible refine Kd.C_drewN ?_ _) | (with_reducible refine Kd.C_drew ?_))); (case side4 => exact (Kd.R_reads' HO363.out).2.1); (case side5 => repeat (first | exact (Kd.R_reads' HO368.out).2.2 | (with_reducible refine Kd.C_alloc ?_ _) | (with_reducible refine Kd.C_drewN ?_ _) | (with_reducible refine Kd.C_drew ?_))); (case side6 => exact (Kd.R_reads' HO368.out).2.1); (case side7 => repeat (first | exact (Kd.R_reads' HO371.out).2.2 | (with_reducible refine Kd.C_alloc ?_ _) | (with_reducible refine Kd.C_drewN ?_ _) | (with_reducible refine Kd.C_drew ?_))); (case side8 => exact (Kd.R_reads' HO371.out).2.1); rintro e w79 ⟨rfl, hb⟩; have n0_ := Aside0.mk (Kd.R_below (lR HO357.out) hb); have n1_ := Aside0.mk (Kd.R_below (lR HO360.out) hb); have n2_ := Aside0.mk (Kd.R_below (lR HO363.out) hb); have n3_ := Aside0.mk (Kd.R_below (lR HO368.out) hb); have n4_ := Aside0.mk (Kd.R_below (lR HO371.out) hb); have n5_ := Aside0.mk (Kd.R_below (lR HO378.out) hb); have n6_ := Aside0.mk (Kd.R_below (lR HO383.out) hb); have n7_ := Aside0.mk (Kd.R_below (lR HO387.out) hb); have n8_ := Aside0.mk (Kd.R_below (lR HO391.out) hb); have n9_ := Aside0.mk (blk_below (lK BK365.out) hb); have n10_ := Aside0.mk (blk_below (lK BK373.out) hb); have n11_ := Aside0.mk (below_step lB hb); clear HO357; clear HO360; clear HO363; clear HO368; clear HO371; clear HO378; clear HO383; clear HO387; clear HO391; clear BK365; clear BK373; clear HB; have HO357 := n0_; have HO360 := n1_; have HO363 := n2_; have HO368 := n3_; have HO371 := n4_; have HO378 := n5_; have HO383 := n6_; have HO387 := n7_; have HO391 := n8_; have BK365 := n9_; have BK373 := n10_; have HB := n11_; clear n0_ n1_ n2_ n3_ n4_ n5_ n6_ n7_ n8_ n9_ n10_ n11_; (try clear hb); (try clear hb2); (try clear hk); (try clear hi); (try simp only [])))
           go_meet
           case rel => (refine ⟨_, (true), lF, H', ?_⟩; refine ⟨⟨lN⟩, ?_⟩; refine ⟨⟨by (with_reducible repeat (first | apply Kd.R_alloc | apply Kd.R_drewN | apply Kd.R_drew)); exact Kd.R_mono HO378.out (fun _ hk => hk.1.2)⟩, ?_⟩; refine ⟨⟨by (with_reducible repeat (first | apply Kd.R_alloc | apply Kd.R_drewN | apply Kd.R_drew)); exact Kd.R_mono HO387.out (fun _ hk => hk.1.1.2)⟩, ?_⟩; refine ⟨⟨by (with_reducible repeat (first | apply Kd.R_alloc | apply Kd.R_drewN | apply Kd.R_drew)); exact Kd.R_mono HO360.out (fun _ hk => trivial)⟩, ?_⟩; refine ⟨⟨by (with_reducible repeat (first | apply Kd.R_alloc | apply Kd.R_drewN | apply Kd.R_drew)); exact Kd.R_mono HO363.out (fun _ hk => trivial)⟩, ?_⟩; refine ⟨⟨lK BK365.out⟩, ?_⟩; exact ⟨lB⟩)
    case rest =>
      clear HC10
      try clear c1
      try clear c2
      try clear c2b0
      try clear c2b1
      try clear p2
      try clear c3
      try clear c4
      try clear c5
      try clear c6
      try clear c7
      try clear c11
      try clear c21
      try clear c24
      try clear c25
      try clear c28
      try clear c28b0
      try clear c28b1
      try clear c28b2
      try clear c30
      try clear c31
      try clear c31b0
      try clear c31b1
      try clear c31b2
      try clear c32
      try clear c35
      try clear c36
      try clear c36b0
      try clear c36b1
      try clear c38
      try clear c39
      try clear c39b0
      try clear c39b1
      try clear c39b2
      try clear c40
      try clear c41
      try clear c47
      try clear c49
      try clear c58
      try clear c66
      try clear c72
      try clear c76
      try clear hcz16_0 hcz16_1
      try clear hcz22_0 hcz22_1
      try clear hcz33_0 hcz33_1
      try clear hcz34_0 hcz34_1
      try clear hcz41_0 hcz41_1
      try clear hcz42_0 hcz42_1
      try clear hcz50_0 hcz50_1
      try clear hcz51_0 hcz51_1
      try clear hcz59_0 hcz59_1
      try clear hcz60_0 hcz60_1
      try clear hcz67_0 hcz67_1
      try clear hcz68_0 hcz68_1
      try clear hcz73_0 hcz73_1
      try clear hcz74_0 hcz74_1
      try clear hcz77_0 hcz77_1
      try clear hcz78_0 hcz78_1
      try clear hfz16_0 hfz16_1
      try clear hfz22_0 hfz22_1
      try clear hfz33_0 hfz33_1
      try clear hfz34_0 hfz34_1
      try clear hfz41_0 hfz41_1
      try clear hfz42_0 hfz42_1
      try clear hfz50_0 hfz50_1
      try clear hfz51_0 hfz51_1
      try clear hfz59_0 hfz59_1
      try clear hfz60_0 hfz60_1
      try clear hfz67_0 hfz67_1
      try clear hfz68_0 hfz68_1
      try clear hfz73_0 hfz73_1
      try clear hfz74_0 hfz74_1
      try clear hfz77_0 hfz77_1
      try clear hfz78_0 hfz78_1
      obtain ⟨kq, x100_9, rfl, HA, HJ9, HO_8, HO_14, HO_366000, HO_366001, BK365, HB⟩ := hcut
      cases kq with
      | zero => exact absurd HA.out (by simp [laws_FnHandled.j0])
      | succ kj9 =>
        have H := HA.out
        clear HA
        simp only [laws_FnHandled.j0] at H
        by_cases c80 : x100_9 = true
        · subst c80
          rw [if_pos rfl] at H
          obtain rfl := Option.some.inj H
          first | (go_wp2; go_ret; exact ⟨lE, lB⟩) | (exfalso; simp only [decide_eq_false_iff_not, decide_eq_true_eq] at *; omega)
        · replace c80 := Bool.eq_false_iff.mpr c80
          subst c80
          rw [if_neg (show ¬ (false = true) by decide)] at H
          have HC81 := Aside0.mk H
          clear H
          go_upto_region 12 with (fail)
          go_cut [111] (fun v111 wc => ∃ (kq : Nat) (x111_80 : Bool), v111 = .bool x111_80 ∧ Aside0 (laws_FnHandled.j1 kq t364 t374 t375 t376 x111_80 t358 t361 = some r) ∧ Aside0 (kq ≤ kj9) ∧ Aside0 (Kd.R (Kd.int .i64) 3 wc w.heap.size (fun _ => True) v377 t374) ∧ Aside0 (Kd.R k86 86 wc w.heap.size (fun _ => True) (.slice Ao15 t358.length co15) t358) ∧ Aside0 (Kd.R k63 63 wc w.heap.size (fun _ => True) (.slice Ao17 t361.length co17) t361) ∧ Aside0 (wc.heap[gb365]? = some (.cells #[(.slice Ao15 t358.length co15), (.slice Ao17 t361.length co17)] 38 (0, 0))) ∧ Aside0 (Below w.heap.size w wc))
          case first =>
            have H := HC81.out
            clear HC81
            by_cases c82 : t376 = true
            · subst c82
              rw [if_pos rfl] at H
              by_cases c83 : t375 = 0
              · rw [if_pos c83] at H
                have c83b0 : (t375 == 0) = true := beq_iff_eq.mpr c83
                have c83b1 : (t375 != 0) = false := bne_eq_false_iff_eq.mpr c83
                clear c83
                (first | rw [c83b0] | (simp only [i64_w, i32_w]; rw [c83b0]) | skip)
                have H' := Aside0.mk H
                clear H
                as_aux_lemma =>
                 go_wp2
                 go_meet
                 case rel => (refine ⟨_, (false), lF, H', ?_⟩; refine ⟨⟨by have := HJ9.out; first | omega | exact Nat.le_refl _⟩, ?_⟩; refine ⟨⟨by (with_reducible repeat (first | apply Kd.R_alloc | apply Kd.R_drewN | apply Kd.R_drew)); exact Kd.R_mono HO_8.out (fun _ hk => trivial)⟩, ?_⟩; refine ⟨⟨lR HO_366000.out⟩, ?_⟩; refine ⟨⟨lR HO_366001.out⟩, ?_⟩; refine ⟨⟨lK BK365.out⟩, ?_⟩; exact ⟨lB⟩)
              · rw [if_neg c83] at H
                have c83b0 : (t375 == 0) = false := beq_eq_false_iff_ne.mpr c83
                have c83b1 : (t375 != 0) = true := bne_iff_ne.mpr c83
                (first | rw [c83b0] | (simp only [i64_w, i32_w]; rw [c83b0]) | skip)
                replace H := lO H
                obtain ⟨t396, A84, H⟩ := H
                have H' := Aside0.mk H
                clear H
                obtain ⟨Ao85, co85, eo85⟩ := Kd.R_slice HO_14.out
                subst eo85
                as_aux_lemma =>
                 go_wp2_with (first | (go_at_call 43; (with_reducible refine (laws_has.calls kj9 _ _ t384 t375 t396 _ ?side1 ?side2 A84.out).mono ?_); (case side1 => repeat (first | exact (Kd.R_reads' HO_14.out).2.2 | (with_reducible refine Kd.C_alloc ?_ _) | (with_reducible refine Kd.C_drewN ?_ _) | (with_reducible refine Kd.C_drew ?_))); (case side2 => exact (Kd.R_reads' HO_14.out).2.1); rintro e w' ⟨rfl, ⟨nd, rfl⟩⟩))
                 go_meet
                 case rel => (refine ⟨_, (!t396), lF, H', ?_⟩; refine ⟨⟨by have := HJ9.out; first | omega | exact Nat.le_refl _⟩, ?_⟩; refine ⟨⟨by (with_reducible repeat (first | apply Kd.R_alloc | apply Kd.R_drewN | apply Kd.R_drew)); exact Kd.R_mono HO_8.out (fun _ hk => trivial)⟩, ?_⟩; refine ⟨⟨lR HO_366000.out⟩, ?_⟩; refine ⟨⟨lR HO_366001.out⟩, ?_⟩; refine ⟨⟨lK BK365.out⟩, ?_⟩; exact ⟨lB⟩)
            · replace c82 := Bool.eq_false_iff.mpr c82
              subst c82
              rw [if_neg (show ¬ (false = true) by decide)] at H
              have H' := Aside0.mk H
              clear H
              as_aux_lemma =>
               go_wp2
               go_meet
               case rel => (refine ⟨_, (false), lF, H', ?_⟩; refine ⟨⟨by have := HJ9.out; first | omega | exact Nat.le_refl _⟩, ?_⟩; refine ⟨⟨by (with_reducible repeat (first | apply Kd.R_alloc | apply Kd.R_drewN | apply Kd.R_drew)); exact Kd.R_mono HO_8.out (fun _ hk => trivial)⟩, ?_⟩; refine ⟨⟨lR HO_366000.out⟩, ?_⟩; refine ⟨⟨lR HO_366001.out⟩, ?_⟩; refine ⟨⟨lK BK365.out⟩, ?_⟩; exact ⟨lB⟩)
          case rest =>
            clear HC81
            try clear c1
            try clear c2
            try clear c2b0
            try clear c2b1
            try clear p2
            try clear c3
            try clear c4
            try clear c5
            try clear c6
            try clear c7
            try clear c8
            try clear c11
            try clear c21
            try clear c24
            try clear c25
            try clear c28
            try clear c28b0
            try clear c28b1
            try clear c28b2
            try clear c30
            try clear c31
            try clear c31b0
            try clear c31b1
            try clear c31b2
            try clear c32
            try clear c35
            try clear c36
            try clear c36b0
            try clear c36b1
            try clear c38
            try clear c39
            try clear c39b0
            try clear c39b1
            try clear c39b2
            try clear c40
            try clear c41
            try clear c47
            try clear c49
            try clear c58
            try clear c66
            try clear c72
            try clear c76
            try clear c80
            try clear c82
            try clear c83
            try clear c83b0
            try clear c83b1
            try clear hcz16_0 hcz16_1
            try clear hcz22_0 hcz22_1
            try clear hcz33_0 hcz33_1
            try clear hcz34_0 hcz34_1
            try clear hcz41_0 hcz41_1
            try clear hcz42_0 hcz42_1
            try clear hcz50_0 hcz50_1
            try clear hcz51_0 hcz51_1
            try clear hcz59_0 hcz59_1
            try clear hcz60_0 hcz60_1
            try clear hcz67_0 hcz67_1
            try clear hcz68_0 hcz68_1
            try clear hcz73_0 hcz73_1
            try clear hcz74_0 hcz74_1
            try clear hcz77_0 hcz77_1
            try clear hcz78_0 hcz78_1
            try clear hfz16_0 hfz16_1
            try clear hfz22_0 hfz22_1
            try clear hfz33_0 hfz33_1
            try clear hfz34_0 hfz34_1
            try clear hfz41_0 hfz41_1
            try clear hfz42_0 hfz42_1
            try clear hfz50_0 hfz50_1
            try clear hfz51_0 hfz51_1
            try clear hfz59_0 hfz59_1
            try clear hfz60_0 hfz60_1
            try clear hfz67_0 hfz67_1
            try clear hfz68_0 hfz68_1
            try clear hfz73_0 hfz73_1
            try clear hfz74_0 hfz74_1
            try clear hfz77_0 hfz77_1
            try clear hfz78_0 hfz78_1
            try clear p2
            obtain ⟨kq, x111_80, rfl, HA, HJ80, HO_8, HO_366000, HO_366001, BK365, HB⟩ := hcut
            cases kq with
            | zero => exact absurd HA.out (by simp [laws_FnHandled.j1])
            | succ kj80 =>
              have H := HA.out
              clear HA
              simp only [laws_FnHandled.j1] at H
              by_cases c86 : x111_80 = true
              · subst c86
                rw [if_pos rfl] at H
                obtain rfl := Option.some.inj H
                first | (go_wp2; go_ret; exact ⟨lE, lB⟩) | (exfalso; simp only [decide_eq_false_iff_not, decide_eq_true_eq] at *; omega)
              · replace c86 := Bool.eq_false_iff.mpr c86
                subst c86
                rw [if_neg (show ¬ (false = true) by decide)] at H
                have HC87 := Aside0.mk H
                clear H
                go_upto_if 112 with (fail)
                go_cut [] (fun wc => ∃ (kq : Nat), Aside0 (laws_FnHandled.j3 kq  = some r) ∧ Aside0 (kq ≤ kj80) ∧ Aside0 (Below w.heap.size w wc))
                case first =>
                  have H := HC87.out
                  clear HC87
                  by_cases c88 : t364 = true
                  · subst c88
                    rw [if_pos rfl] at H
                    replace H := Option.bind_eq_some_iff.mp H
                    obtain ⟨⟨t397, t400, t401, t402⟩, A890, H⟩ := H
                    replace H : ((impl_GoodLined.f kj80 t358 t361).bind fun t403 => (if t403 = true then (if t402 = true then (if t376 = true then (if t400 = t375 then ((laws_sameInts.f kj80 t397 t374).bind fun t404 => (if t404 = true then (laws_FnHandled.j2 kj80 (!t376)) else (laws_FnHandled.j2 kj80 true))) else (laws_FnHandled.j2 kj80 true)) else (laws_FnHandled.j2 kj80 (!t376))) else (laws_FnHandled.j2 kj80 false)) else (laws_FnHandled.j2 kj80 true))) = some r := H
                    have A89 := Aside0.mk A890
                    clear A890
                    have HC90 := Aside0.mk H
                    clear H
                    obtain ⟨hcz91_0, hfz91_0, hcz91_1, hfz91_1⟩ := bk2 BK365.out
                    go_upto_region 16 with (first | ((with_reducible refine gate_callee (f := 33) rfl ?_); refine gl_ (some 115) (Try.func33) #[.agg #[.slice Ao15 t358.length co15, .slice Ao17 t361.length co17], .int .i64 2000] ?_; (with_reducible refine (impl_RunLined.calls kj80 _ _ t358 _ _ t361 2000 t397 t400 t401 t402 _ ?side1 ?side2 ?side3 ?side4 A89.out).mono ?_); (case side1 => repeat (first | exact (Kd.R_reads' HO_366000.out).2.2 | (with_reducible refine Kd.C_alloc ?_ _) | (with_reducible refine Kd.C_drewN ?_ _) | (with_reducible refine Kd.C_drew ?_))); (case side2 => exact (Kd.R_reads' HO_366000.out).2.1); (case side3 => repeat (first | exact (Kd.R_reads' HO_366001.out).2.2 | (with_reducible refine Kd.C_alloc ?_ _) | (with_reducible refine Kd.C_drewN ?_ _) | (with_reducible refine Kd.C_drew ?_))); (case side4 => exact (Kd.R_reads' HO_366001.out).2.1); rintro e w92 ⟨v398, rfl, ho0, hb⟩; refine ⟨_, rfl, ?_⟩; have n0_ := Aside0.mk (Kd.R_elder' (lR HO_8.out) (Kd.R_base ho0) hb); have n1_ := Aside0.mk (Kd.R_below (lR HO_366000.out) hb); have n2_ := Aside0.mk (Kd.R_below (lR HO_366001.out) hb); have n3_ := Aside0.mk (Kd.R_lower (Kd.R_new' ho0 (Kd.R_lt (lR HO_8.out))) (below_size lB)); have n4_ := Aside0.mk (blk_below (lK BK365.out) hb); have n5_ := Aside0.mk (below_step lB hb); clear HO_8; clear HO_366000; clear HO_366001; clear BK365; clear HB; have HO_8 := n0_; have HO_366000 := n1_; have HO_366001 := n2_; have HO399 := n3_; have BK365 := n4_; have HB := n5_; clear n0_ n1_ n2_ n3_ n4_ n5_; (try clear hb); (try clear hb2); (try clear hk); (try clear hi); (try clear ho0)))
                    (try simp only [Act.put, List.setIfInBounds_toArray, List.set_cons_zero, List.set_cons_succ])
                    go_cut [146] (fun v146 wc => ∃ (kq : Nat) (x146_89 : Bool), v146 = .bool x146_89 ∧ Aside0 (laws_FnHandled.j2 kq x146_89 = some r) ∧ Aside0 (kq ≤ kj80) ∧ Aside0 (Below w.heap.size w wc))
                    case first =>
                      have H := HC90.out
                      clear HC90
                      replace H := lO H
                      obtain ⟨t403, A93, H⟩ := H
                      by_cases c94 : t403 = true
                      · subst c94
                        rw [if_pos rfl] at H
                        by_cases c95 : t402 = true
                        · subst c95
                          rw [if_pos rfl] at H
                          by_cases c96 : t376 = true
                          · subst c96
                            rw [if_pos rfl] at H
                            by_cases c97 : t400 = t375
                            · rw [if_pos c97] at H
                              have c97b0 : (t400 == t375) = true := beq_iff_eq.mpr c97
                              have c97b1 : (t400 != t375) = false := bne_eq_false_iff_eq.mpr c97
                              clear c97
                              (first | rw [c97b0] | (simp only [i64_w, i32_w]; rw [c97b0]) | skip)
                              replace H := lO H
                              obtain ⟨t404, A98, H⟩ := H
                              by_cases c99 : t404 = true
                              · subst c99
                                rw [if_pos rfl] at H
                                have H' := Aside0.mk H
                                clear H
                                obtain ⟨hcz100_0, hfz100_0, hcz100_1, hfz100_1⟩ := bk2 BK365.out
                                as_aux_lemma =>
                                 go_wp2_with (first | ((with_reducible refine gate_callee (f := 20) rfl ?_); refine gl_ (some 121) (Try.func20) #[.agg #[.slice Ao15 t358.length co15, .slice Ao17 t361.length co17]] ?_; (with_reducible refine (impl_GoodLined.calls kj80 _ _ t358 _ _ t361 true _ ?side1 ?side2 ?side3 ?side4 A93.out).mono ?_); (case side1 => repeat (first | exact (Kd.R_reads' HO_366000.out).2.2 | (with_reducible refine Kd.C_alloc ?_ _) | (with_reducible refine Kd.C_drewN ?_ _) | (with_reducible refine Kd.C_drew ?_))); (case side2 => exact (Kd.R_reads' HO_366000.out).2.1); (case side3 => repeat (first | exact (Kd.R_reads' HO_366001.out).2.2 | (with_reducible refine Kd.C_alloc ?_ _) | (with_reducible refine Kd.C_drewN ?_ _) | (with_reducible refine Kd.C_drew ?_))); (case side4 => exact (Kd.R_reads' HO_366001.out).2.1); rintro e w101 ⟨rfl, hb⟩; refine ⟨_, rfl, ?_⟩; have n0_ := Aside0.mk (Kd.R_below (lR HO_8.out) hb); have n1_ := Aside0.mk (Kd.R_below (lR HO_366000.out) hb); have n2_ := Aside0.mk (Kd.R_below (lR HO_366001.out) hb); have n3_ := Aside0.mk (Kd.R_below (lR HO399.out) hb); have n4_ := Aside0.mk (blk_below (lK BK365.out) hb); have n5_ := Aside0.mk (below_step lB hb); clear HO_8; clear HO_366000; clear HO_366001; clear HO399; clear BK365; clear HB; have HO_8 := n0_; have HO_366000 := n1_; have HO_366001 := n2_; have HO399 := n3_; have BK365 := n4_; have HB := n5_; clear n0_ n1_ n2_ n3_ n4_ n5_; (try clear hb); (try clear hb2); (try clear hk); (try clear hi); obtain ⟨Ao102, co102, eo102⟩ := Kd.R_slice HO399.out; subst eo102; obtain ⟨Ao103, co103, eo103⟩ := Kd.R_slice HO_8.out; subst eo103) | (go_at_call 40; (with_reducible refine (laws_sameInts.calls kj80 _ _ t397 _ _ t374 true _ ?side1 ?side2 ?side3 ?side4 A98.out).mono ?_); (case side1 => repeat (first | exact (Kd.R_reads' HO399.out).2.2 | (with_reducible refine Kd.C_alloc ?_ _) | (with_reducible refine Kd.C_drewN ?_ _) | (with_reducible refine Kd.C_drew ?_))); (case side2 => exact (Kd.R_reads' HO399.out).2.1); (case side3 => repeat (first | exact (Kd.R_reads' HO_8.out).2.2 | (with_reducible refine Kd.C_alloc ?_ _) | (with_reducible refine Kd.C_drewN ?_ _) | (with_reducible refine Kd.C_drew ?_))); (case side4 => exact (Kd.R_reads' HO_8.out).2.1); rintro e w' ⟨rfl, ⟨nd, rfl⟩⟩))
                                 go_meet
                                 case rel => (refine ⟨_, (!true), lF, H', ?_⟩; refine ⟨⟨by have := HJ9.out; have := HJ80.out; first | omega | exact Nat.le_refl _⟩, ?_⟩; exact ⟨lB⟩)
                              · replace c99 := Bool.eq_false_iff.mpr c99
                                subst c99
                                rw [if_neg (show ¬ (false = true) by decide)] at H
                                have H' := Aside0.mk H
                                clear H
                                obtain ⟨hcz104_0, hfz104_0, hcz104_1, hfz104_1⟩ := bk2 BK365.out
                                as_aux_lemma =>
                                 go_wp2_with (first | ((with_reducible refine gate_callee (f := 20) rfl ?_); refine gl_ (some 121) (Try.func20) #[.agg #[.slice Ao15 t358.length co15, .slice Ao17 t361.length co17]] ?_; (with_reducible refine (impl_GoodLined.calls kj80 _ _ t358 _ _ t361 true _ ?side1 ?side2 ?side3 ?side4 A93.out).mono ?_); (case side1 => repeat (first | exact (Kd.R_reads' HO_366000.out).2.2 | (with_reducible refine Kd.C_alloc ?_ _) | (with_reducible refine Kd.C_drewN ?_ _) | (with_reducible refine Kd.C_drew ?_))); (case side2 => exact (Kd.R_reads' HO_366000.out).2.1); (case side3 => repeat (first | exact (Kd.R_reads' HO_366001.out).2.2 | (with_reducible refine Kd.C_alloc ?_ _) | (with_reducible refine Kd.C_drewN ?_ _) | (with_reducible refine Kd.C_drew ?_))); (case side4 => exact (Kd.R_reads' HO_366001.out).2.1); rintro e w105 ⟨rfl, hb⟩; refine ⟨_, rfl, ?_⟩; have n0_ := Aside0.mk (Kd.R_below (lR HO_8.out) hb); have n1_ := Aside0.mk (Kd.R_below (lR HO_366000.out) hb); have n2_ := Aside0.mk (Kd.R_below (lR HO_366001.out) hb); have n3_ := Aside0.mk (Kd.R_below (lR HO399.out) hb); have n4_ := Aside0.mk (blk_below (lK BK365.out) hb); have n5_ := Aside0.mk (below_step lB hb); clear HO_8; clear HO_366000; clear HO_366001; clear HO399; clear BK365; clear HB; have HO_8 := n0_; have HO_366000 := n1_; have HO_366001 := n2_; have HO399 := n3_; have BK365 := n4_; have HB := n5_; clear n0_ n1_ n2_ n3_ n4_ n5_; (try clear hb); (try clear hb2); (try clear hk); (try clear hi); obtain ⟨Ao106, co106, eo106⟩ := Kd.R_slice HO399.out; subst eo106; obtain ⟨Ao107, co107, eo107⟩ := Kd.R_slice HO_8.out; subst eo107) | (go_at_call 40; (with_reducible refine (laws_sameInts.calls kj80 _ _ t397 _ _ t374 false _ ?side1 ?side2 ?side3 ?side4 A98.out).mono ?_); (case side1 => repeat (first | exact (Kd.R_reads' HO399.out).2.2 | (with_reducible refine Kd.C_alloc ?_ _) | (with_reducible refine Kd.C_drewN ?_ _) | (with_reducible refine Kd.C_drew ?_))); (case side2 => exact (Kd.R_reads' HO399.out).2.1); (case side3 => repeat (first | exact (Kd.R_reads' HO_8.out).2.2 | (with_reducible refine Kd.C_alloc ?_ _) | (with_reducible refine Kd.C_drewN ?_ _) | (with_reducible refine Kd.C_drew ?_))); (case side4 => exact (Kd.R_reads' HO_8.out).2.1); rintro e w' ⟨rfl, ⟨nd, rfl⟩⟩))
                                 go_meet
                                 case rel => (refine ⟨_, (true), lF, H', ?_⟩; refine ⟨⟨by have := HJ9.out; have := HJ80.out; first | omega | exact Nat.le_refl _⟩, ?_⟩; exact ⟨lB⟩)
                            · rw [if_neg c97] at H
                              have c97b0 : (t400 == t375) = false := beq_eq_false_iff_ne.mpr c97
                              have c97b1 : (t400 != t375) = true := bne_iff_ne.mpr c97
                              (first | rw [c97b0] | (simp only [i64_w, i32_w]; rw [c97b0]) | skip)
                              have H' := Aside0.mk H
                              clear H
                              obtain ⟨hcz108_0, hfz108_0, hcz108_1, hfz108_1⟩ := bk2 BK365.out
                              as_aux_lemma =>
                               go_wp2_with (first | ((with_reducible refine gate_callee (f := 20) rfl ?_); refine gl_ (some 121) (Try.func20) #[.agg #[.slice Ao15 t358.length co15, .slice Ao17 t361.length co17]] ?_; (with_reducible refine (impl_GoodLined.calls kj80 _ _ t358 _ _ t361 true _ ?side1 ?side2 ?side3 ?side4 A93.out).mono ?_); (case side1 => repeat (first | exact (Kd.R_reads' HO_366000.out).2.2 | (with_reducible refine Kd.C_alloc ?_ _) | (with_reducible refine Kd.C_drewN ?_ _) | (with_reducible refine Kd.C_drew ?_))); (case side2 => exact (Kd.R_reads' HO_366000.out).2.1); (case side3 => repeat (first | exact (Kd.R_reads' HO_366001.out).2.2 | (with_reducible refine Kd.C_alloc ?_ _) | (with_reducible refine Kd.C_drewN ?_ _) | (with_reducible refine Kd.C_drew ?_))); (case side4 => exact (Kd.R_reads' HO_366001.out).2.1); rintro e w109 ⟨rfl, hb⟩; refine ⟨_, rfl, ?_⟩; have n0_ := Aside0.mk (Kd.R_below (lR HO_8.out) hb); have n1_ := Aside0.mk (Kd.R_below (lR HO_366000.out) hb); have n2_ := Aside0.mk (Kd.R_below (lR HO_366001.out) hb); have n3_ := Aside0.mk (Kd.R_below (lR HO399.out) hb); have n4_ := Aside0.mk (blk_below (lK BK365.out) hb); have n5_ := Aside0.mk (below_step lB hb); clear HO_8; clear HO_366000; clear HO_366001; clear HO399; clear BK365; clear HB; have HO_8 := n0_; have HO_366000 := n1_; have HO_366001 := n2_; have HO399 := n3_; have BK365 := n4_; have HB := n5_; clear n0_ n1_ n2_ n3_ n4_ n5_; (try clear hb); (try clear hb2); (try clear hk); (try clear hi)))
                               go_meet
                               case rel => (refine ⟨_, (true), lF, H', ?_⟩; refine ⟨⟨by have := HJ9.out; have := HJ80.out; first | omega | exact Nat.le_refl _⟩, ?_⟩; exact ⟨lB⟩)
                          · replace c96 := Bool.eq_false_iff.mpr c96
                            subst c96
                            rw [if_neg (show ¬ (false = true) by decide)] at H
                            have H' := Aside0.mk H
                            clear H
                            obtain ⟨hcz110_0, hfz110_0, hcz110_1, hfz110_1⟩ := bk2 BK365.out
                            as_aux_lemma =>
                             go_wp2_with (first | ((with_reducible refine gate_callee (f := 20) rfl ?_); refine gl_ (some 121) (Try.func20) #[.agg #[.slice Ao15 t358.length co15, .slice Ao17 t361.length co17]] ?_; (with_reducible refine (impl_GoodLined.calls kj80 _ _ t358 _ _ t361 true _ ?side1 ?side2 ?side3 ?side4 A93.out).mono ?_); (case side1 => repeat (first | exact (Kd.R_reads' HO_366000.out).2.2 | (with_reducible refine Kd.C_alloc ?_ _) | (with_reducible refine Kd.C_drewN ?_ _) | (with_reducible refine Kd.C_drew ?_))); (case side2 => exact (Kd.R_reads' HO_366000.out).2.1); (case side3 => repeat (first | exact (Kd.R_reads' HO_366001.out).2.2 | (with_reducible refine Kd.C_alloc ?_ _) | (with_reducible refine Kd.C_drewN ?_ _) | (with_reducible refine Kd.C_drew ?_))); (case side4 => exact (Kd.R_reads' HO_366001.out).2.1); rintro e w111 ⟨rfl, hb⟩; refine ⟨_, rfl, ?_⟩; have n0_ := Aside0.mk (Kd.R_below (lR HO_8.out) hb); have n1_ := Aside0.mk (Kd.R_below (lR HO_366000.out) hb); have n2_ := Aside0.mk (Kd.R_below (lR HO_366001.out) hb); have n3_ := Aside0.mk (Kd.R_below (lR HO399.out) hb); have n4_ := Aside0.mk (blk_below (lK BK365.out) hb); have n5_ := Aside0.mk (below_step lB hb); clear HO_8; clear HO_366000; clear HO_366001; clear HO399; clear BK365; clear HB; have HO_8 := n0_; have HO_366000 := n1_; have HO_366001 := n2_; have HO399 := n3_; have BK365 := n4_; have HB := n5_; clear n0_ n1_ n2_ n3_ n4_ n5_; (try clear hb); (try clear hb2); (try clear hk); (try clear hi)))
                             go_meet
                             case rel => (refine ⟨_, (!false), lF, H', ?_⟩; refine ⟨⟨by have := HJ9.out; have := HJ80.out; first | omega | exact Nat.le_refl _⟩, ?_⟩; exact ⟨lB⟩)
                        · replace c95 := Bool.eq_false_iff.mpr c95
                          subst c95
                          rw [if_neg (show ¬ (false = true) by decide)] at H
                          have H' := Aside0.mk H
                          clear H
                          obtain ⟨hcz112_0, hfz112_0, hcz112_1, hfz112_1⟩ := bk2 BK365.out
                          as_aux_lemma =>
                           go_wp2_with (first | ((with_reducible refine gate_callee (f := 20) rfl ?_); refine gl_ (some 121) (Try.func20) #[.agg #[.slice Ao15 t358.length co15, .slice Ao17 t361.length co17]] ?_; (with_reducible refine (impl_GoodLined.calls kj80 _ _ t358 _ _ t361 true _ ?side1 ?side2 ?side3 ?side4 A93.out).mono ?_); (case side1 => repeat (first | exact (Kd.R_reads' HO_366000.out).2.2 | (with_reducible refine Kd.C_alloc ?_ _) | (with_reducible refine Kd.C_drewN ?_ _) | (with_reducible refine Kd.C_drew ?_))); (case side2 => exact (Kd.R_reads' HO_366000.out).2.1); (case side3 => repeat (first | exact (Kd.R_reads' HO_366001.out).2.2 | (with_reducible refine Kd.C_alloc ?_ _) | (with_reducible refine Kd.C_drewN ?_ _) | (with_reducible refine Kd.C_drew ?_))); (case side4 => exact (Kd.R_reads' HO_366001.out).2.1); rintro e w113 ⟨rfl, hb⟩; refine ⟨_, rfl, ?_⟩; have n0_ := Aside0.mk (Kd.R_below (lR HO_8.out) hb); have n1_ := Aside0.mk (Kd.R_below (lR HO_366000.out) hb); have n2_ := Aside0.mk (Kd.R_below (lR HO_366001.out) hb); have n3_ := Aside0.mk (Kd.R_below (lR HO399.out) hb); have n4_ := Aside0.mk (blk_below (lK BK365.out) hb); have n5_ := Aside0.mk (below_step lB hb); clear HO_8; clear HO_366000; clear HO_366001; clear HO399; clear BK365; clear HB; have HO_8 := n0_; have HO_366000 := n1_; have HO_366001 := n2_; have HO399 := n3_; have BK365 := n4_; have HB := n5_; clear n0_ n1_ n2_ n3_ n4_ n5_; (try clear hb); (try clear hb2); (try clear hk); (try clear hi)))
                           go_meet
                           case rel => (refine ⟨_, (false), lF, H', ?_⟩; refine ⟨⟨by have := HJ9.out; have := HJ80.out; first | omega | exact Nat.le_refl _⟩, ?_⟩; exact ⟨lB⟩)
                      · replace c94 := Bool.eq_false_iff.mpr c94
                        subst c94
                        rw [if_neg (show ¬ (false = true) by decide)] at H
                        have H' := Aside0.mk H
                        clear H
                        obtain ⟨hcz114_0, hfz114_0, hcz114_1, hfz114_1⟩ := bk2 BK365.out
                        as_aux_lemma =>
                         go_wp2_with (first | ((with_reducible refine gate_callee (f := 20) rfl ?_); refine gl_ (some 121) (Try.func20) #[.agg #[.slice Ao15 t358.length co15, .slice Ao17 t361.length co17]] ?_; (with_reducible refine (impl_GoodLined.calls kj80 _ _ t358 _ _ t361 false _ ?side1 ?side2 ?side3 ?side4 A93.out).mono ?_); (case side1 => repeat (first | exact (Kd.R_reads' HO_366000.out).2.2 | (with_reducible refine Kd.C_alloc ?_ _) | (with_reducible refine Kd.C_drewN ?_ _) | (with_reducible refine Kd.C_drew ?_))); (case side2 => exact (Kd.R_reads' HO_366000.out).2.1); (case side3 => repeat (first | exact (Kd.R_reads' HO_366001.out).2.2 | (with_reducible refine Kd.C_alloc ?_ _) | (with_reducible refine Kd.C_drewN ?_ _) | (with_reducible refine Kd.C_drew ?_))); (case side4 => exact (Kd.R_reads' HO_366001.out).2.1); rintro e w115 ⟨rfl, hb⟩; refine ⟨_, rfl, ?_⟩; have n0_ := Aside0.mk (Kd.R_below (lR HO_8.out) hb); have n1_ := Aside0.mk (Kd.R_below (lR HO_366000.out) hb); have n2_ := Aside0.mk (Kd.R_below (lR HO_366001.out) hb); have n3_ := Aside0.mk (Kd.R_below (lR HO399.out) hb); have n4_ := Aside0.mk (blk_below (lK BK365.out) hb); have n5_ := Aside0.mk (below_step lB hb); clear HO_8; clear HO_366000; clear HO_366001; clear HO399; clear BK365; clear HB; have HO_8 := n0_; have HO_366000 := n1_; have HO_366001 := n2_; have HO399 := n3_; have BK365 := n4_; have HB := n5_; clear n0_ n1_ n2_ n3_ n4_ n5_; (try clear hb); (try clear hb2); (try clear hk); (try clear hi)))
                         go_meet
                         case rel => (refine ⟨_, (true), lF, H', ?_⟩; refine ⟨⟨by have := HJ9.out; have := HJ80.out; first | omega | exact Nat.le_refl _⟩, ?_⟩; exact ⟨lB⟩)
                    case rest =>
                      clear HC90
                      try clear c1
                      try clear c2
                      try clear c2b0
                      try clear c2b1
                      try clear p2
                      try clear c3
                      try clear c4
                      try clear c5
                      try clear c6
                      try clear c7
                      try clear c8
                      try clear c9
                      try clear c11
                      try clear c20
                      try clear c21
                      try clear c24
                      try clear c25
                      try clear c28
                      try clear c28b0
                      try clear c28b1
                      try clear c28b2
                      try clear c30
                      try clear c31
                      try clear c31b0
                      try clear c31b1
                      try clear c31b2
                      try clear c32
                      try clear c33
                      try clear c35
                      try clear c36
                      try clear c36b0
                      try clear c36b1
                      try clear c38
                      try clear c39
                      try clear c39b0
                      try clear c39b1
                      try clear c39b2
                      try clear c40
                      try clear c41
                      try clear c47
                      try clear c49
                      try clear c58
                      try clear c66
                      try clear c72
                      try clear c76
                      try clear c80
                      try clear c82
                      try clear c83
                      try clear c83b0
                      try clear c83b1
                      try clear c86
                      try clear c88
                      try clear c94
                      try clear c95
                      try clear c96
                      try clear c97
                      try clear c97b0
                      try clear c97b1
                      try clear c99
                      try clear hcz100_0 hcz100_1
                      try clear hcz104_0 hcz104_1
                      try clear hcz108_0 hcz108_1
                      try clear hcz110_0 hcz110_1
                      try clear hcz112_0 hcz112_1
                      try clear hcz114_0 hcz114_1
                      try clear hcz16_0 hcz16_1
                      try clear hcz22_0 hcz22_1
                      try clear hcz33_0 hcz33_1
                      try clear hcz34_0 hcz34_1
                      try clear hcz41_0 hcz41_1
                      try clear hcz42_0 hcz42_1
                      try clear hcz50_0 hcz50_1
                      try clear hcz51_0 hcz51_1
                      try clear hcz59_0 hcz59_1
                      try clear hcz60_0 hcz60_1
                      try clear hcz67_0 hcz67_1
                      try clear hcz68_0 hcz68_1
                      try clear hcz73_0 hcz73_1
                      try clear hcz74_0 hcz74_1
                      try clear hcz77_0 hcz77_1
                      try clear hcz78_0 hcz78_1
                      try clear hcz91_0 hcz91_1
                      try clear hfz100_0 hfz100_1
                      try clear hfz104_0 hfz104_1
                      try clear hfz108_0 hfz108_1
                      try clear hfz110_0 hfz110_1
                      try clear hfz112_0 hfz112_1
                      try clear hfz114_0 hfz114_1
                      try clear hfz16_0 hfz16_1
                      try clear hfz22_0 hfz22_1
                      try clear hfz33_0 hfz33_1
                      try clear hfz34_0 hfz34_1
                      try clear hfz41_0 hfz41_1
                      try clear hfz42_0 hfz42_1
                      try clear hfz50_0 hfz50_1
                      try clear hfz51_0 hfz51_1
                      try clear hfz59_0 hfz59_1
                      try clear hfz60_0 hfz60_1
                      try clear hfz67_0 hfz67_1
                      try clear hfz68_0 hfz68_1
                      try clear hfz73_0 hfz73_1
                      try clear hfz74_0 hfz74_1
                      try clear hfz77_0 hfz77_1
                      try clear hfz78_0 hfz78_1
                      try clear hfz91_0 hfz91_1
                      try clear p2
                      obtain ⟨kq, x146_89, rfl, HA, HJ89, HB⟩ := hcut
                      cases kq with
                      | zero => exact absurd HA.out (by simp [laws_FnHandled.j2])
                      | succ kj89 =>
                        have H := HA.out
                        clear HA
                        simp only [laws_FnHandled.j2] at H
                        by_cases c116 : x146_89 = true
                        · subst c116
                          rw [if_pos rfl] at H
                          obtain rfl := Option.some.inj H
                          first | (go_wp2; go_ret; exact ⟨lE, lB⟩) | (exfalso; simp only [decide_eq_false_iff_not, decide_eq_true_eq] at *; omega)
                        · replace c116 := Bool.eq_false_iff.mpr c116
                          subst c116
                          rw [if_neg (show ¬ (false = true) by decide)] at H
                          have H' := Aside0.mk H
                          clear H
                          as_aux_lemma =>
                           go_wp2
                           go_meet
                           case rel => (refine ⟨_, H', ?_⟩; refine ⟨⟨by have := HJ9.out; have := HJ80.out; have := HJ89.out; first | omega | exact Nat.le_refl _⟩, ?_⟩; exact ⟨lB⟩)
                  · replace c88 := Bool.eq_false_iff.mpr c88
                    subst c88
                    rw [if_neg (show ¬ (false = true) by decide)] at H
                    have H' := Aside0.mk H
                    clear H
                    as_aux_lemma =>
                     go_wp2
                     go_meet
                     case rel => (refine ⟨_, H', ?_⟩; refine ⟨⟨by have := HJ9.out; have := HJ80.out; first | omega | exact Nat.le_refl _⟩, ?_⟩; exact ⟨lB⟩)
                case rest =>
                  clear HC87
                  try clear c1
                  try clear c2
                  try clear c2b0
                  try clear c2b1
                  try clear p2
                  try clear c3
                  try clear c4
                  try clear c5
                  try clear c6
                  try clear c7
                  try clear c8
                  try clear c9
                  try clear c11
                  try clear c20
                  try clear c21
                  try clear c24
                  try clear c25
                  try clear c28
                  try clear c28b0
                  try clear c28b1
                  try clear c28b2
                  try clear c30
                  try clear c31
                  try clear c31b0
                  try clear c31b1
                  try clear c31b2
                  try clear c32
                  try clear c33
                  try clear c35
                  try clear c36
                  try clear c36b0
                  try clear c36b1
                  try clear c38
                  try clear c39
                  try clear c39b0
                  try clear c39b1
                  try clear c39b2
                  try clear c40
                  try clear c41
                  try clear c47
                  try clear c49
                  try clear c58
                  try clear c66
                  try clear c72
                  try clear c76
                  try clear c80
                  try clear c82
                  try clear c83
                  try clear c83b0
                  try clear c83b1
                  try clear c86
                  try clear c88
                  try clear c94
                  try clear c95
                  try clear c96
                  try clear c97
                  try clear c97b0
                  try clear c97b1
                  try clear c99
                  try clear c116
                  try clear hcz100_0 hcz100_1
                  try clear hcz104_0 hcz104_1
                  try clear hcz108_0 hcz108_1
                  try clear hcz110_0 hcz110_1
                  try clear hcz112_0 hcz112_1
                  try clear hcz114_0 hcz114_1
                  try clear hcz16_0 hcz16_1
                  try clear hcz22_0 hcz22_1
                  try clear hcz33_0 hcz33_1
                  try clear hcz34_0 hcz34_1
                  try clear hcz41_0 hcz41_1
                  try clear hcz42_0 hcz42_1
                  try clear hcz50_0 hcz50_1
                  try clear hcz51_0 hcz51_1
                  try clear hcz59_0 hcz59_1
                  try clear hcz60_0 hcz60_1
                  try clear hcz67_0 hcz67_1
                  try clear hcz68_0 hcz68_1
                  try clear hcz73_0 hcz73_1
                  try clear hcz74_0 hcz74_1
                  try clear hcz77_0 hcz77_1
                  try clear hcz78_0 hcz78_1
                  try clear hcz91_0 hcz91_1
                  try clear hfz100_0 hfz100_1
                  try clear hfz104_0 hfz104_1
                  try clear hfz108_0 hfz108_1
                  try clear hfz110_0 hfz110_1
                  try clear hfz112_0 hfz112_1
                  try clear hfz114_0 hfz114_1
                  try clear hfz16_0 hfz16_1
                  try clear hfz22_0 hfz22_1
                  try clear hfz33_0 hfz33_1
                  try clear hfz34_0 hfz34_1
                  try clear hfz41_0 hfz41_1
                  try clear hfz42_0 hfz42_1
                  try clear hfz50_0 hfz50_1
                  try clear hfz51_0 hfz51_1
                  try clear hfz59_0 hfz59_1
                  try clear hfz60_0 hfz60_1
                  try clear hfz67_0 hfz67_1
                  try clear hfz68_0 hfz68_1
                  try clear hfz73_0 hfz73_1
                  try clear hfz74_0 hfz74_1
                  try clear hfz77_0 hfz77_1
                  try clear hfz78_0 hfz78_1
                  try clear hfz91_0 hfz91_1
                  try clear p2
                  obtain ⟨kq, HA, HJ86, HB⟩ := hcut
                  cases kq with
                  | zero => exact absurd HA.out (by simp [laws_FnHandled.j3])
                  | succ kj86 =>
                    have H := HA.out
                    clear HA
                    simp only [laws_FnHandled.j3] at H
                    obtain rfl := Option.some.inj H
                    first | (go_wp2; go_ret; exact ⟨lE, lB⟩) | (exfalso; simp only [decide_eq_false_iff_not, decide_eq_true_eq] at *; omega)
def laws_FnHandled.Pure : Prop := ∀ (l0 : List Int), l0.length ≤ maxLen → l0.length * 1 ≤ 140737488351232 → (∀ x ∈ l0, (Lit.int .u8 x).wf = true) → ∃ k, laws_FnHandled.f k l0 = some true
end Go.Proofs.Ytgjojppbichaiaa.Q
