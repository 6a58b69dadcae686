-- Written by the program wip/tools/pr.py of this claim's session, over the kit's print.py.
import Derived.Test.YtgjojppbichaiaaQx0
import Derived.Test.YtgjojppbichaiaaQx1
import Derived.Test.YtgjojppbichaiaaQx2
import Derived.Test.YtgjojppbichaiaaQx3
import Derived.Test.YtgjojppbichaiaaQx4
import Derived.Test.YtgjojppbichaiaaQx5
import Derived.Test.YtgjojppbichaiaaQx12
namespace Go.Proofs.Ytgjojppbichaiaa.Q
open Go.RowKit Go.Proofs.YtgjojppbichaiaaW.PrintWords Go.Proofs.YtgjojppbichaiaaW.PrintLast Go.Proofs.YtgjojppbichaiaaW.PrintMore
attribute [local go_sem] max2_int min2_int max_two min_two max_three min_three max_four min_four   -- for this text's walks alone
set_option linter.unusedVariables false
set_option linter.unusedSimpArgs false

/-! ### laws_FnGuards: function 10 -/
mutual
def laws_FnGuards.j0 : Nat → List Int → Int → Int → Int → Bool → Bool → List (S86) → List (S63) → Option (Bool)
  | 0, _, _, _, _, _, _, _, _ => none
  | k + 1, x1, x6, x7, x8, x9, x65, x412000, x412001 => if x65 = true then (some false) else (if x9 = true then (laws_FnGuards.l0 k x1 x6 x7 x8 0 x412000 x412001) else (laws_FnGuards.j2 k x1))
def laws_FnGuards.j2 : Nat → List Int → Option (Bool)
  | 0, _ => none
  | k + 1, x1 => (spec_DrawRunLined.f k x1).bind fun bt420 => ((impl_RunLined.f k bt420.1 bt420.2.1 bt420.2.2).bind fun bt428 => ((spec_RunLined.f k bt420.1 bt420.2.1 bt420.2.2).bind fun bt434 => (if (bt428.2.2.2 == bt434.2.2.2) = true then ((laws_sameInts.f k bt428.1 bt434.1).bind fun t440 => (if t440 = true then (if bt428.2.1 = bt434.2.1 then (if bt428.2.2.1 = bt434.2.2.1 then (if bt428.2.2.2 = true then (some (decide (bt428.2.2.1 ≤ bt420.2.2))) else (some true)) else (some false)) else (some false)) else (some false))) else (some false))))
def laws_FnGuards.l0 : Nat → List Int → Int → Int → Int → Int → List (S86) → List (S63) → Option (Bool)
  | 0, _, _, _, _, _, _, _ => none
  | k + 1, x1, x6, x7, x8, x12, x412000, x412001 => if x12 ≤ x8 then (if 0 ≤ x12 then (if x12 < (x412001.length : Int) then (if x6 ≥ ((rd_T63 x412001 x12).f0) then (if x6 < ((rd_T63 x412001 x12).f1) then (if ((rd_T63 x412001 x12).f2) = 0 then (if (true != (x12 == x8)) = true then (some false) else (laws_FnGuards.l0 k x1 x6 x7 x8 (wrap64 (x12 + 1)) x412000 x412001)) else (if ((((rd_T63 x412001 x12).f2) == x7) != (x12 == x8)) = true then (some false) else (laws_FnGuards.l0 k x1 x6 x7 x8 (wrap64 (x12 + 1)) x412000 x412001))) else (if (false != (x12 == x8)) = true then (some false) else (laws_FnGuards.l0 k x1 x6 x7 x8 (wrap64 (x12 + 1)) x412000 x412001))) else (if (false != (x12 == x8)) = true then (some false) else (laws_FnGuards.l0 k x1 x6 x7 x8 (wrap64 (x12 + 1)) x412000 x412001))) else (none)) else (none)) else (laws_FnGuards.j2 k x1)
end
def laws_FnGuards.f (k : Nat) (l0 : List Int) (l1 : List Int) : Option (Bool) := if (wrap64 ((l0.length : Int) + (l1.length : Int))) > 1048576 then (some true) else ((spec_DrawGuardAt.f k l0).bind fun bt403 => ((impl_GuardAt.f k bt403.1 bt403.2.1 bt403.2.2.1 bt403.2.2.2).bind fun bt412 => ((spec_GuardAt.f k bt403.1 bt403.2.1 bt403.2.2.1 bt403.2.2.2).bind fun bt414 => (if (bt412.2 != bt414.2) = true then (laws_FnGuards.j0 k l1 bt403.2.2.1 bt403.2.2.2 bt412.1 bt412.2 true bt403.1 bt403.2.1) else (if bt412.1 = bt414.1 then ((impl_GoodLined.f k bt403.1 bt403.2.1).bind fun t416 => ((spec_GoodLined.f k bt403.1 bt403.2.1).bind fun t417 => (laws_FnGuards.j0 k l1 bt403.2.2.1 bt403.2.2.2 bt412.1 bt412.2 (t416 != t417) bt403.1 bt403.2.1))) else (laws_FnGuards.j0 k l1 bt403.2.2.1 bt403.2.2.2 bt412.1 bt412.2 true bt403.1 bt403.2.1))))))
theorem laws_FnGuards.mono_l : ∀ k, (∀ y0 y1 y2 y3 y4 y5 y6 y7, LeO (laws_FnGuards.j0 k y0 y1 y2 y3 y4 y5 y6 y7) (laws_FnGuards.j0 (k + 1) y0 y1 y2 y3 y4 y5 y6 y7)) ∧ (∀ y0, LeO (laws_FnGuards.j2 k y0) (laws_FnGuards.j2 (k + 1) y0)) ∧ (∀ y0 y1 y2 y3 y4 y5 y6, LeO (laws_FnGuards.l0 k y0 y1 y2 y3 y4 y5 y6) (laws_FnGuards.l0 (k + 1) y0 y1 y2 y3 y4 y5 y6))
  | 0 => ⟨fun _ _ _ _ _ _ _ _ r h => by simp [laws_FnGuards.j0] at h, fun _ r h => by simp [laws_FnGuards.j2] at h, fun _ _ _ _ _ _ _ r h => by simp [laws_FnGuards.l0] at h⟩
  | k + 1 => by
    obtain ⟨ih0, ih1, ih2⟩ := laws_FnGuards.mono_l k
    refine ⟨?_, ?_, ?_⟩
    · intro y0 y1 y2 y3 y4 y5 y6 y7
      unfold laws_FnGuards.j0
      repeat' first
      | with_reducible apply ih0
      | with_reducible apply ih1
      | with_reducible apply ih2
      | with_reducible apply impl_GoodLined.mono
      | with_reducible apply impl_GuardAt.mono
      | with_reducible apply impl_RunLined.mono
      | with_reducible apply laws_sameInts.mono
      | with_reducible apply spec_DrawGuardAt.mono
      | with_reducible apply spec_DrawRunLined.mono
      | with_reducible apply spec_GoodLined.mono
      | with_reducible apply spec_GuardAt.mono
      | with_reducible apply spec_RunLined.mono
      | (with_reducible exact LeO.refl _)
      | (with_reducible exact LeO.none _)
      | (with_reducible refine LeO.ite ?_ ?_)
      | (with_reducible refine LeO.bind ?_ (fun _ => ?_))
      | apply ih0
      | apply ih1
      | apply ih2
      | apply impl_GoodLined.mono
      | apply impl_GuardAt.mono
      | apply impl_RunLined.mono
      | apply laws_sameInts.mono
      | apply spec_DrawGuardAt.mono
      | apply spec_DrawRunLined.mono
      | apply spec_GoodLined.mono
      | apply spec_GuardAt.mono
      | apply spec_RunLined.mono
      | exact LeO.none _
      | refine LeO.ite ?_ ?_
      | refine LeO.bind ?_ (fun _ => ?_)
    · intro y0
      unfold laws_FnGuards.j2
      repeat' first
      | with_reducible apply ih0
      | with_reducible apply ih1
      | with_reducible apply ih2
      | with_reducible apply impl_GoodLined.mono
      | with_reducible apply impl_GuardAt.mono
      | with_reducible apply impl_RunLined.mono
      | with_reducible apply laws_sameInts.mono
      | with_reducible apply spec_DrawGuardAt.mono
      | with_reducible apply spec_DrawRunLined.mono
      | with_reducible apply spec_GoodLined.mono
      | with_reducible apply spec_GuardAt.mono
      | with_reducible apply spec_RunLined.mono
      | (with_reducible exact LeO.refl _)
      | (with_reducible exact LeO.none _)
      | (with_reducible refine LeO.ite ?_ ?_)
      | (with_reducible refine LeO.bind ?_ (fun _ => ?_))
      | apply ih0
      | apply ih1
      | apply ih2
      | apply impl_GoodLined.mono
      | apply impl_GuardAt.mono
      | apply impl_RunLined.mono
      | apply laws_sameInts.mono
      | apply spec_DrawGuardAt.mono
      | apply spec_DrawRunLined.mono
      | apply spec_GoodLined.mono
      | apply spec_GuardAt.mono
      | apply spec_RunLined.mono
      | exact LeO.none _
      | refine LeO.ite ?_ ?_
      | refine LeO.bind ?_ (fun _ => ?_)
    · intro y0 y1 y2 y3 y4 y5 y6
      unfold laws_FnGuards.l0
      repeat' first
      | with_reducible apply ih0
      | with_reducible apply ih1
      | with_reducible apply ih2
      | with_reducible apply impl_GoodLined.mono
      | with_reducible apply impl_GuardAt.mono
      | with_reducible apply impl_RunLined.mono
      | with_reducible apply laws_sameInts.mono
      | with_reducible apply spec_DrawGuardAt.mono
      | with_reducible apply spec_DrawRunLined.mono
      | with_reducible apply spec_GoodLined.mono
      | with_reducible apply spec_GuardAt.mono
      | with_reducible apply spec_RunLined.mono
      | (with_reducible exact LeO.refl _)
      | (with_reducible exact LeO.none _)
      | (with_reducible refine LeO.ite ?_ ?_)
      | (with_reducible refine LeO.bind ?_ (fun _ => ?_))
      | apply ih0
      | apply ih1
      | apply ih2
      | apply impl_GoodLined.mono
      | apply impl_GuardAt.mono
      | apply impl_RunLined.mono
      | apply laws_sameInts.mono
      | apply spec_DrawGuardAt.mono
      | apply spec_DrawRunLined.mono
      | apply spec_GoodLined.mono
      | apply spec_GuardAt.mono
      | apply spec_RunLined.mono
      | exact LeO.none _
      | refine LeO.ite ?_ ?_
      | refine LeO.bind ?_ (fun _ => ?_)
theorem laws_FnGuards.mono : ∀ a0 a1 k, LeO (laws_FnGuards.f k a0 a1) (laws_FnGuards.f (k + 1) a0 a1) := by
  intro a0 a1 k
  obtain ⟨ih0, ih1, ih2⟩ := laws_FnGuards.mono_l k
  unfold laws_FnGuards.f
  repeat' first
      | with_reducible apply ih0
      | with_reducible apply ih1
      | with_reducible apply ih2
      | with_reducible apply impl_GoodLined.mono
      | with_reducible apply impl_GuardAt.mono
      | with_reducible apply impl_RunLined.mono
      | with_reducible apply laws_sameInts.mono
      | with_reducible apply spec_DrawGuardAt.mono
      | with_reducible apply spec_DrawRunLined.mono
      | with_reducible apply spec_GoodLined.mono
      | with_reducible apply spec_GuardAt.mono
      | with_reducible apply spec_RunLined.mono
      | (with_reducible exact LeO.refl _)
      | (with_reducible exact LeO.none _)
      | (with_reducible refine LeO.ite ?_ ?_)
      | (with_reducible refine LeO.bind ?_ (fun _ => ?_))
      | apply ih0
      | apply ih1
      | apply ih2
      | apply impl_GoodLined.mono
      | apply impl_GuardAt.mono
      | apply impl_RunLined.mono
      | apply laws_sameInts.mono
      | apply spec_DrawGuardAt.mono
      | apply spec_DrawRunLined.mono
      | apply spec_GoodLined.mono
      | apply spec_GuardAt.mono
      | apply spec_RunLined.mono
      | exact LeO.none _
      | refine LeO.ite ?_ ?_
      | refine LeO.bind ?_ (fun _ => ?_)
def laws_FnGuards.T6 : Bool × List (List Nat × List Nat) := (true, [([], []), ([], []), ([0, 1], [0, 1]), ([2], [2]), ([3], [3]), ([3], [3]), ([4, 5, 3], [3, 4, 5]), ([3, 6], [3, 6]), ([7, 3], [7]), ([8], [8]), ([9, 8, 8], [8, 9]), ([8], [8]), ([11, 10, 8], [8, 11]), ([10, 12, 8], [8, 10, 12]), ([8, 13], [8, 13])])
def laws_FnGuards.B6 : List Nat := [0, 0, 3, 7, 15, 15, 63, 127, 255, 511, 1023, 511, 4095, 8191, 16383]
theorem laws_FnGuards.tab6 : rtab .any (opsOf Try.f10 6) = laws_FnGuards.T6 := by kernel_rfl
theorem laws_FnGuards.bits6 : waitsOk laws_FnGuards.T6.2 laws_FnGuards.B6 = true := by kernel_rfl
set_option maxHeartbeats 8000000 in
set_option maxRecDepth 100000 in
theorem laws_FnGuards.calls (k : Nat) (A0 : Option Addr) (c0 : Nat) (l0 : List Int) (A1 : Option Addr) (c1 : Nat) (l1 : List Int) (r : Bool) (w : World) (hr0 : Kd.C (Kd.int .u8) w A0 l0.length l0) (hc0 : l0.length ≤ c0) (hr1 : Kd.C (Kd.int .u8) w A1 l1.length l1) (hc1 : l1.length ≤ c1) (h : laws_FnGuards.f k l0 l1 = some r) :
    Calls Try.prog 10 #[.slice A0 l0.length c0, .slice A1 l1.length c1] w fun e w' => e = .returned (.bool r) ∧ Below w.heap.size w w' := by
  have hu38 := Try.underlying38
  have hu63 := Try.underlying63
  have HR0 := Aside0.mk hr0
  have HC0 := Aside0.mk hc0
  clear hr0 hc0
  have HR1 := Aside0.mk hr1
  have HC1 := Aside0.mk hc1
  clear hr1 hc1
  have HB := Aside0.mk (Below.refl w.heap.size w)
  have H : (if (wrap64 ((l0.length : Int) + (l1.length : Int))) > 1048576 then (some true) else ((spec_DrawGuardAt.f k l0).bind fun bt403 => ((impl_GuardAt.f k bt403.1 bt403.2.1 bt403.2.2.1 bt403.2.2.2).bind fun bt412 => ((spec_GuardAt.f k bt403.1 bt403.2.1 bt403.2.2.1 bt403.2.2.2).bind fun bt414 => (if (bt412.2 != bt414.2) = true then (laws_FnGuards.j0 k l1 bt403.2.2.1 bt403.2.2.2 bt412.1 bt412.2 true bt403.1 bt403.2.1) else (if bt412.1 = bt414.1 then ((impl_GoodLined.f k bt403.1 bt403.2.1).bind fun t416 => ((spec_GoodLined.f k bt403.1 bt403.2.1).bind fun t417 => (laws_FnGuards.j0 k l1 bt403.2.2.1 bt403.2.2.2 bt412.1 bt412.2 (t416 != t417) bt403.1 bt403.2.1))) else (laws_FnGuards.j0 k l1 bt403.2.2.1 bt403.2.2.2 bt412.1 bt412.2 true bt403.1 bt403.2.1))))))) = some r := h
  clear h
  by_cases c3 : (wrap64 ((l0.length : Int) + (l1.length : Int))) > 1048576
  · rw [if_pos c3] at H
    have c3b0 : decide (1048576 < (wrap64 ((l0.length : Int) + (l1.length : Int)))) = true := decide_eq_true c3
    clear c3
    obtain rfl := Option.some.inj H
    go_enter Try.func10, Try.ntmps10
    first | (go_wp2; go_ret; exact ⟨lE, lB⟩) | (exfalso; simp only [decide_eq_false_iff_not, decide_eq_true_eq] at *; omega)
  · rw [if_neg c3] at H
    have c3b0 : decide (1048576 < (wrap64 ((l0.length : Int) + (l1.length : Int)))) = false := decide_eq_false c3
    clear c3
    replace H := Option.bind_eq_some_iff.mp H
    obtain ⟨⟨t403, t406, t409, t410⟩, A40, H⟩ := H
    replace H : ((impl_GuardAt.f k t403 t406 t409 t410).bind fun bt412 => ((spec_GuardAt.f k t403 t406 t409 t410).bind fun bt414 => (if (bt412.2 != bt414.2) = true then (laws_FnGuards.j0 k l1 t409 t410 bt412.1 bt412.2 true t403 t406) else (if bt412.1 = bt414.1 then ((impl_GoodLined.f k t403 t406).bind fun t416 => ((spec_GoodLined.f k t403 t406).bind fun t417 => (laws_FnGuards.j0 k l1 t409 t410 bt412.1 bt412.2 (t416 != t417) t403 t406))) else (laws_FnGuards.j0 k l1 t409 t410 bt412.1 bt412.2 true t403 t406))))) = some r := H
    have A4 := Aside0.mk A40
    clear A40
    replace H := Option.bind_eq_some_iff.mp H
    obtain ⟨⟨t412, t413⟩, A50, H⟩ := H
    replace H : ((spec_GuardAt.f k t403 t406 t409 t410).bind fun bt414 => (if (t413 != bt414.2) = true then (laws_FnGuards.j0 k l1 t409 t410 t412 t413 true t403 t406) else (if t412 = bt414.1 then ((impl_GoodLined.f k t403 t406).bind fun t416 => ((spec_GoodLined.f k t403 t406).bind fun t417 => (laws_FnGuards.j0 k l1 t409 t410 t412 t413 (t416 != t417) t403 t406))) else (laws_FnGuards.j0 k l1 t409 t410 t412 t413 true t403 t406)))) = some r := H
    have A5 := Aside0.mk A50
    clear A50
    replace H := Option.bind_eq_some_iff.mp H
    obtain ⟨⟨t414, t415⟩, A60, H⟩ := H
    replace H : (if (t413 != t415) = true then (laws_FnGuards.j0 k l1 t409 t410 t412 t413 true t403 t406) else (if t412 = t414 then ((impl_GoodLined.f k t403 t406).bind fun t416 => ((spec_GoodLined.f k t403 t406).bind fun t417 => (laws_FnGuards.j0 k l1 t409 t410 t412 t413 (t416 != t417) t403 t406))) else (laws_FnGuards.j0 k l1 t409 t410 t412 t413 true t403 t406))) = some r := H
    have A6 := Aside0.mk A60
    clear A60
    have HC7 := Aside0.mk H
    clear H
    go_enter Try.func10, Try.ntmps10
    go_upto_region 6 with (first | ((with_reducible refine gate_callee (f := 38) rfl ?_); refine gl_ (some 33) (Try.func38) #[.slice A0 l0.length c0] ?_; (with_reducible refine (spec_DrawGuardAt.calls k _ _ l0 t403 t406 t409 t410 _ ?side1 ?side2 A4.out).mono ?_); (case side1 => repeat (first | exact HR0.out | (with_reducible refine Kd.C_alloc ?_ _) | (with_reducible refine Kd.C_drewN ?_ _) | (with_reducible refine Kd.C_drew ?_))); (case side2 => exact HC0.out); rintro e w8 ⟨v404, v407, rfl, ho0, ho1, hb⟩; refine ⟨_, rfl, ?_⟩; have n0_ := Aside0.mk (Kd.R_lower ho0 (below_size lB)); have n1_ := Aside0.mk (Kd.R_lower ho1 (below_size lB)); have n2_ := Aside0.mk (below_step lB hb); clear HB; have HO405 := n0_; have HO408 := n1_; have HB := n2_; clear n0_ n1_ n2_; (try clear hb); (try clear hb2); (try clear hk); (try clear hi); (try clear ho0); (try clear ho1)) | ((with_reducible refine gate_dst (N := 5) rfl ?_); refine bxe 5 #[.slice none 0 0, .slice none 0 0] 38 ?_; intro gb411 hg w9 hbox hb; have n0_ := Aside0.mk (Kd.R_below (lR HO405.out) hb); have n1_ := Aside0.mk (Kd.R_below (lR HO408.out) hb); have n2_ := Aside0.mk (below_step lB hb); have n3_ := Aside0.mk (hbox); have n4_ := lG w hg; have n5_ := lG w hg; clear HO405; clear HO408; clear HB; have HO405 := n0_; have HO408 := n1_; have HB := n2_; have BK411 := n3_; have GW411 := n4_; have GE411 := n5_; clear n0_ n1_ n2_ n3_ n4_ n5_; clear hb hbox hg; obtain ⟨Ao10, co10, eo10⟩ := Kd.R_slice HO405.out; subst eo10; obtain ⟨hcz11_0, hfz11_0, hcz11_1, hfz11_1⟩ := bk2 BK411.out; obtain ⟨Ao12, co12, eo12⟩ := Kd.R_slice HO408.out; subst eo12) | ((with_reducible refine gate_callee (f := 23) rfl ?_); refine gl_ (some 41) (Try.func23) #[.agg #[.slice Ao10 t403.length co10, .slice Ao12 t406.length co12], .int .i64 t409, .int .i64 t410] ?_; (with_reducible refine (impl_GuardAt.calls k _ _ t403 _ _ t406 t409 t410 t412 t413 _ ?side1 ?side2 ?side3 ?side4 A5.out).mono ?_); (case side1 => refine (Kd.R_reads' (e := 86) (base := w.heap.size) (ok := fun k_ => True) (n := t403.length) (c := co10) ?_).2.2; exact (by (with_reducible repeat (first | apply Kd.R_alloc | apply Kd.R_drewN | apply Kd.R_drew)); exact (Kd.R_mono (Kd.R_far (p := ⟨gb411, 1, none⟩) (Kd.R_far (p := ⟨gb411, 0, none⟩) (Kd.R_types HO405.out BK411.out (by decide)) (fun _ hk => hk.2) (.slice Ao10 t403.length co10)) (fun _ hk => hk.2) (.slice Ao12 t406.length co12)) (fun _ h_ => h_.1)))); (case side2 => exact (Kd.R_reads' HO405.out).2.1); (case side3 => refine (Kd.R_reads' (e := 63) (base := w.heap.size) (ok := fun k_ => True) (n := t406.length) (c := co12) ?_).2.2; exact (by (with_reducible repeat (first | apply Kd.R_alloc | apply Kd.R_drewN | apply Kd.R_drew)); exact (Kd.R_mono (Kd.R_far (p := ⟨gb411, 1, none⟩) (Kd.R_far (p := ⟨gb411, 0, none⟩) (Kd.R_types HO408.out BK411.out (by decide)) (fun _ hk => hk.2) (.slice Ao10 t403.length co10)) (fun _ hk => hk.2) (.slice Ao12 t406.length co12)) (fun _ h_ => h_.1)))); (case side4 => exact (Kd.R_reads' HO408.out).2.1); rintro e w13 ⟨rfl, hb⟩; refine ⟨_, rfl, ?_⟩; have n0_ := Aside0.mk (Kd.R_below (by (with_reducible repeat (first | apply Kd.R_alloc | apply Kd.R_drewN | apply Kd.R_drew)); exact (Kd.R_mono (Kd.R_far (p := ⟨gb411, 1, none⟩) (Kd.R_far (p := ⟨gb411, 0, none⟩) (Kd.R_types HO405.out BK411.out (by decide)) (fun _ hk => hk.2) (.slice Ao10 t403.length co10)) (fun _ hk => hk.2) (.slice Ao12 t406.length co12)) (fun _ h_ => h_.1))) hb); have n1_ := Aside0.mk (Kd.R_below (by (with_reducible repeat (first | apply Kd.R_alloc | apply Kd.R_drewN | apply Kd.R_drew)); exact (Kd.R_mono (Kd.R_far (p := ⟨gb411, 1, none⟩) (Kd.R_far (p := ⟨gb411, 0, none⟩) (Kd.R_types HO408.out BK411.out (by decide)) (fun _ hk => hk.2) (.slice Ao10 t403.length co10)) (fun _ hk => hk.2) (.slice Ao12 t406.length co12)) (fun _ h_ => h_.1))) hb); have n2_ := Aside0.mk (blk_below (g := gb411) (o := .cells #[.slice Ao10 t403.length co10, .slice Ao12 t406.length co12] 38 (0, 0)) (by (with_reducible repeat first | apply bN | apply bD | apply bA); refine blk_put (cs := #[.slice Ao10 t403.length co10, .slice none 0 0]) ?_ 1 _ rfl; (with_reducible repeat first | apply bN | apply bD | apply bA); refine blk_put (cs := #[.slice none 0 0, .slice none 0 0]) ?_ 0 _ rfl; (with_reducible repeat first | apply bN | apply bD | apply bA); exact BK411.out) hb); have n3_ := Aside0.mk (below_step lB hb); clear HO405; clear HO408; clear BK411; clear HB; have HO405 := n0_; have HO408 := n1_; have BK411 := n2_; have HB := n3_; clear n0_ n1_ n2_ n3_; (try clear hb); (try clear hb2); (try clear hk); (try clear hi); obtain ⟨hcz14_0, hfz14_0, hcz14_1, hfz14_1⟩ := bk2 BK411.out) | ((with_reducible refine gate_callee (f := 22) rfl ?_); refine gl_ (some 48) (Try.func22) #[.agg #[.slice Ao10 t403.length co10, .slice Ao12 t406.length co12], .int .i64 t409, .int .i64 t410] ?_; (with_reducible refine (spec_GuardAt.calls k _ _ t403 _ _ t406 t409 t410 t414 t415 _ ?side1 ?side2 ?side3 ?side4 A6.out).mono ?_); (case side1 => repeat (first | exact (Kd.R_reads' HO405.out).2.2 | (with_reducible refine Kd.C_alloc ?_ _) | (with_reducible refine Kd.C_drewN ?_ _) | (with_reducible refine Kd.C_drew ?_))); (case side2 => exact (Kd.R_reads' HO405.out).2.1); (case side3 => repeat (first | exact (Kd.R_reads' HO408.out).2.2 | (with_reducible refine Kd.C_alloc ?_ _) | (with_reducible refine Kd.C_drewN ?_ _) | (with_reducible refine Kd.C_drew ?_))); (case side4 => exact (Kd.R_reads' HO408.out).2.1); rintro e w15 ⟨rfl, hb⟩; refine ⟨_, rfl, ?_⟩; have n0_ := Aside0.mk (Kd.R_below (lR HO405.out) hb); have n1_ := Aside0.mk (Kd.R_below (lR HO408.out) hb); have n2_ := Aside0.mk (blk_below (lK BK411.out) hb); have n3_ := Aside0.mk (below_step lB hb); clear HO405; clear HO408; clear BK411; clear HB; have HO405 := n0_; have HO408 := n1_; have BK411 := n2_; have HB := n3_; clear n0_ n1_ n2_ n3_; (try clear hb); (try clear hb2); (try clear hk); (try clear hi)))
    (try simp only [Act.put, List.setIfInBounds_toArray, List.set_cons_zero, List.set_cons_succ])
    go_cut [65] (fun v65 wc => ∃ (kq : Nat) (x65_6 : Bool), v65 = .bool x65_6 ∧ Aside0 (laws_FnGuards.j0 kq l1 t409 t410 t412 t413 x65_6 t403 t406 = some r) ∧ Aside0 (kq ≤ k) ∧ Aside0 (Kd.R k86 86 wc w.heap.size (fun _ => True) (.slice Ao10 t403.length co10) t403) ∧ Aside0 (Kd.R k63 63 wc w.heap.size (fun _ => True) (.slice Ao12 t406.length co12) t406) ∧ Aside0 (wc.heap[gb411]? = some (.cells #[(.slice Ao10 t403.length co10), (.slice Ao12 t406.length co12)] 38 (0, 0))) ∧ Aside0 (Below w.heap.size w wc))
    case first =>
      have H := HC7.out
      clear HC7
      by_cases c16 : (t413 != t415) = true
      · rw [if_pos c16] at H
        have c16b0 : (t413 != t415) = true := c16
        (try (have c16b1 : decide (t413 = t415) = false := by simpa using c16))
        (try (have c16b2 : (t413 == t415) = false := by simpa using c16))
        (try (have c16b3 : ¬ (t413 = t415) := by simpa using c16))
        clear c16
        (first | rw [c16b0] | (simp only [i64_w, i32_w]; rw [c16b0]) | skip)
        have H' := Aside0.mk H
        clear H
        try go_wp2
        have n0_ := Aside0.mk (Kd.R_drew HO405.out)
        have n1_ := Aside0.mk (Kd.R_drew HO408.out)
        have n2_ := Aside0.mk (blk_drew BK411.out)
        have n3_ := Aside0.mk (below_drew1 HB.out)
        clear HO405
        clear HO408
        clear BK411
        clear HB
        have HO405 := n0_
        have HO408 := n1_
        have BK411 := n2_
        have HB := n3_
        clear n0_ n1_ n2_ n3_
        refine start_ (n := 15) (S := fun w' => True) (ds := []) (bs 15 0) kR rfl kR trivial (fun hHeld => ?_); refine with_tabW laws_FnGuards.tab6 laws_FnGuards.bits6 (fun HT_ HW_ => ?_)
        generalize w15.drew = w17 at HO405 HO408 BK411 HB hHeld ⊢
        refine pure_ (i := 0) (N := some 51) (v := ?_) (a' := ?_) (bs 15 1) rfl rfl (any_of HT_.out (by kernel_rfl)) (fun _ _ _ h => h) (Or.inl ⟨by rfl, ?_⟩) ?_ ?_
        rotate_left
        · intro w'
          go_simp
          with_reducible rfl
        rotate_left
        · simp only [Act.put, List.setIfInBounds_toArray, List.set_cons_zero, List.set_cons_succ, i64_w, i32_w]
          rfl
        refine pure_ (i := 1) (N := some 52) (v := ?_) (a' := ?_) (bs 15 3) rfl rfl (any_of HT_.out (by kernel_rfl)) (fun _ _ _ h => h) (Or.inl ⟨by rfl, ?_⟩) ?_ ?_
        rotate_left
        · intro w'
          go_simp
          with_reducible rfl
        rotate_left
        · simp only [Act.put, List.setIfInBounds_toArray, List.set_cons_zero, List.set_cons_succ, i64_w, i32_w]
          rfl
        refine pure_ (i := 2) (N := some 53) (v := ?_) (a' := ?_) (bs 15 7) rfl rfl (any_of HT_.out (by kernel_rfl)) (fun _ _ _ h => h) (Or.inl ⟨by rfl, ?_⟩) ?_ ?_
        rotate_left
        · intro w'
          go_simp
          with_reducible rfl
        rotate_left
        · simp only [Act.put, List.setIfInBounds_toArray, List.set_cons_zero, List.set_cons_succ, i64_w, i32_w]
          rfl
        refine pure_ (i := 3) (N := some 54) (v := ?_) (a' := ?_) (bs 15 15) rfl rfl (any_of HT_.out (by kernel_rfl)) (fun _ _ _ h => h) (Or.inl ⟨by rfl, ?_⟩) ?_ ?_
        rotate_left
        · intro w'
          go_simp
          with_reducible rfl
        rotate_left
        · simp only [Act.put, List.setIfInBounds_toArray, List.set_cons_zero, List.set_cons_succ, i64_w, i32_w]
          rfl
        refine pure_ (i := 4) (N := some 55) (v := undef) (a' := ?_) (bs 15 31) rfl rfl (any_of HT_.out (by kernel_rfl)) (fun _ _ _ h => h) (Or.inr ⟨by rfl, rfl⟩) ?_ ?_
        rotate_left
        · simp only [Act.put, List.setIfInBounds_toArray, List.set_cons_zero, List.set_cons_succ, i64_w, i32_w]
          rfl
        refine pure_ (i := 5) (N := some 56) (v := undef) (a' := ?_) (bs 15 63) rfl rfl (any_of HT_.out (by kernel_rfl)) (fun _ _ _ h => h) (Or.inr ⟨by rfl, rfl⟩) ?_ ?_
        rotate_left
        · simp only [Act.put, List.setIfInBounds_toArray, List.set_cons_zero, List.set_cons_succ, i64_w, i32_w]
          rfl
        refine pure_ (i := 6) (N := some 57) (v := undef) (a' := ?_) (bs 15 127) rfl rfl (any_of HT_.out (by kernel_rfl)) (fun _ _ _ h => h) (Or.inr ⟨by rfl, rfl⟩) ?_ ?_
        rotate_left
        · simp only [Act.put, List.setIfInBounds_toArray, List.set_cons_zero, List.set_cons_succ, i64_w, i32_w]
          rfl
        refine pure_ (i := 7) (N := some 58) (v := ?_) (a' := ?_) (bs 15 255) rfl rfl (any_of HT_.out (by kernel_rfl)) (fun _ _ _ h => h) (Or.inl ⟨by rfl, ?_⟩) ?_ ?_
        rotate_left
        · intro w'
          go_simp
          with_reducible rfl
        rotate_left
        · simp only [Act.put, List.setIfInBounds_toArray, List.set_cons_zero, List.set_cons_succ, i64_w, i32_w]
          rfl
        refine pure_ (i := 8) (N := some 59) (v := ?_) (a' := ?_) (bs 15 511) rfl rfl (any_of HT_.out (by kernel_rfl)) (fun _ _ _ h => h) (Or.inl ⟨by rfl, ?_⟩) ?_ ?_
        rotate_left
        · intro w'
          go_simp
          with_reducible rfl
        rotate_left
        · simp only [Act.put, List.setIfInBounds_toArray, List.set_cons_zero, List.set_cons_succ, i64_w, i32_w]
          rfl
        refine pure_ (i := 9) (N := some 60) (v := undef) (a' := ?_) (bs 15 1023) rfl rfl (any_of HT_.out (by kernel_rfl)) (fun _ _ _ h => h) (Or.inr ⟨by rfl, rfl⟩) ?_ ?_
        rotate_left
        · simp only [Act.put, List.setIfInBounds_toArray, List.set_cons_zero, List.set_cons_succ, i64_w, i32_w]
          rfl
        refine pure_ (i := 10) (N := some 61) (v := undef) (a' := ?_) (bs 15 2047) rfl rfl (any_of HT_.out (by kernel_rfl)) (fun _ _ _ h => h) (Or.inr ⟨by rfl, rfl⟩) ?_ ?_
        rotate_left
        · simp only [Act.put, List.setIfInBounds_toArray, List.set_cons_zero, List.set_cons_succ, i64_w, i32_w]
          rfl
        refine pure_ (i := 11) (N := some 62) (v := undef) (a' := ?_) (bs 15 4095) rfl rfl (any_of HT_.out (by kernel_rfl)) (fun _ _ _ h => h) (Or.inr ⟨by rfl, rfl⟩) ?_ ?_
        rotate_left
        · simp only [Act.put, List.setIfInBounds_toArray, List.set_cons_zero, List.set_cons_succ, i64_w, i32_w]
          rfl
        refine pure_ (i := 12) (N := some 63) (v := undef) (a' := ?_) (bs 15 8191) rfl rfl (any_of HT_.out (by kernel_rfl)) (fun _ _ _ h => h) (Or.inr ⟨by rfl, rfl⟩) ?_ ?_
        rotate_left
        · simp only [Act.put, List.setIfInBounds_toArray, List.set_cons_zero, List.set_cons_succ, i64_w, i32_w]
          rfl
        refine pure_ (i := 13) (N := some 64) (v := undef) (a' := ?_) (bs 15 16383) rfl rfl (any_of HT_.out (by kernel_rfl)) (fun _ _ _ h => h) (Or.inr ⟨by rfl, rfl⟩) ?_ ?_
        rotate_left
        · simp only [Act.put, List.setIfInBounds_toArray, List.set_cons_zero, List.set_cons_succ, i64_w, i32_w]
          rfl
        refine pure_ (i := 14) (N := some 65) (v := ?_) (a' := ?_) (bs 15 32767) rfl rfl (any_of HT_.out (by kernel_rfl)) (fun _ _ _ h => h) (Or.inl ⟨by rfl, ?_⟩) ?_ ?_
        rotate_left
        · intro w'
          go_simp
          with_reducible rfl
        rotate_left
        · simp only [Act.put, List.setIfInBounds_toArray, List.set_cons_zero, List.set_cons_succ, i64_w, i32_w]
          rfl
        refine done_ (done_of HT_.out (by kernel_rfl)) ?_
        try go_wp2
        go_meet
        case rel => exact ⟨_, (true), lF, H', ⟨lN⟩, ⟨lR HO405.out⟩, ⟨lR HO408.out⟩, ⟨lK BK411.out⟩, ⟨lB⟩⟩
      · rw [if_neg c16] at H
        have c16b0 : (t413 != t415) = false := by simpa using c16
        (try (have c16b1 : decide (t413 = t415) = true := by simpa using c16))
        (try (have c16b2 : (t413 == t415) = true := by simpa using c16))
        clear c16
        (first | rw [c16b0] | (simp only [i64_w, i32_w]; rw [c16b0]) | skip)
        by_cases c18 : t412 = t414
        · rw [if_pos c18] at H
          have c18b0 : (t412 == t414) = true := beq_iff_eq.mpr c18
          have c18b1 : (t412 != t414) = false := bne_eq_false_iff_eq.mpr c18
          clear c18
          replace H := lO H
          obtain ⟨t416, A19, H⟩ := H
          replace H := lO H
          obtain ⟨t417, A20, H⟩ := H
          have H' := Aside0.mk H
          clear H
          try go_wp2
          have n0_ := Aside0.mk (Kd.R_drew HO405.out)
          have n1_ := Aside0.mk (Kd.R_drew HO408.out)
          have n2_ := Aside0.mk (blk_drew BK411.out)
          have n3_ := Aside0.mk (below_drew1 HB.out)
          clear HO405
          clear HO408
          clear BK411
          clear HB
          have HO405 := n0_
          have HO408 := n1_
          have BK411 := n2_
          have HB := n3_
          clear n0_ n1_ n2_ n3_
          refine start_ (n := 15) (S := fun w' => w'.cell? ⟨gb411, 0, none⟩ = some (.slice Ao10 t403.length co10) ∧ w'.cell? ⟨gb411, 1, none⟩ = some (.slice Ao12 t406.length co12)) (ds := []) (bs 15 0) kR rfl kR ⟨bZ BK411.out 0, bZ BK411.out 1⟩ (fun hHeld => ?_); refine with_tabW laws_FnGuards.tab6 laws_FnGuards.bits6 (fun HT_ HW_ => ?_)
          generalize w15.drew = w21 at HO405 HO408 BK411 HB hHeld ⊢
          refine pure_ (i := 0) (N := some 51) (v := ?_) (a' := ?_) (bs 15 1) rfl rfl (any_of HT_.out (by kernel_rfl)) (fun _ _ _ h => h) (Or.inl ⟨by rfl, ?_⟩) ?_ ?_
          rotate_left
          · intro w'
            go_simp
            with_reducible rfl
          rotate_left
          · simp only [Act.put, List.setIfInBounds_toArray, List.set_cons_zero, List.set_cons_succ, i64_w, i32_w]
            rfl
          refine pure_ (i := 1) (N := some 52) (v := ?_) (a' := ?_) (bs 15 3) rfl rfl (any_of HT_.out (by kernel_rfl)) (fun _ _ _ h => h) (Or.inl ⟨by rfl, ?_⟩) ?_ ?_
          rotate_left
          · intro w'
            go_simp
            with_reducible rfl
          rotate_left
          · simp only [Act.put, List.setIfInBounds_toArray, List.set_cons_zero, List.set_cons_succ, i64_w, i32_w]
            rfl
          refine pure_ (i := 2) (N := some 53) (v := ?_) (a' := ?_) (bs 15 7) rfl rfl (any_of HT_.out (by kernel_rfl)) (fun _ _ _ h => h) (Or.inl ⟨by rfl, ?_⟩) ?_ ?_
          rotate_left
          · intro w'
            go_simp
            with_reducible rfl
          rotate_left
          · simp only [Act.put, List.setIfInBounds_toArray, List.set_cons_zero, List.set_cons_succ, i64_w, i32_w]
            rfl
          refine pure_ (i := 3) (N := some 54) (v := ?_) (a' := ?_) (bs 15 15) rfl rfl (any_of HT_.out (by kernel_rfl)) (fun _ _ _ h => h) (Or.inl ⟨by rfl, ?_⟩) ?_ ?_
          rotate_left
          · intro w'
            go_simp
            with_reducible rfl
          rotate_left
          · simp only [Act.put, List.setIfInBounds_toArray, List.set_cons_zero, List.set_cons_succ, i64_w, i32_w]
            rfl
          refine pure_ (i := 4) (N := some 55) (v := ?_) (a' := ?_) (bs 15 31) rfl rfl (any_of HT_.out (by kernel_rfl)) (fun _ _ _ h => h) (Or.inl ⟨by rfl, ?_⟩) ?_ ?_
          rotate_left
          · intro w'
            go_simp
            with_reducible rfl
          rotate_left
          · simp only [Act.put, List.setIfInBounds_toArray, List.set_cons_zero, List.set_cons_succ, i64_w, i32_w]
            rfl
          refine pure_ (i := 5) (N := some 56) (v := ?_) (a' := ?_) (bs 15 63) rfl rfl (any_of HT_.out (by kernel_rfl)) (fun _ _ _ h => h) (Or.inl ⟨by rfl, ?_⟩) ?_ ?_
          rotate_left
          · intro w'
            go_simp
            with_reducible rfl
          rotate_left
          · simp only [Act.put, List.setIfInBounds_toArray, List.set_cons_zero, List.set_cons_succ, i64_w, i32_w]
            rfl
          refine pure_ (i := 6) (N := some 57) (v := ?_) (a' := ?_) (bs 15 127) rfl rfl (any_of HT_.out (by kernel_rfl)) (fun _ _ _ h => h) (Or.inl ⟨by rfl, ?_⟩) ?_ ?_
          rotate_left
          · intro w'
            go_simp
            with_reducible rfl
          rotate_left
          · simp only [Act.put, List.setIfInBounds_toArray, List.set_cons_zero, List.set_cons_succ, i64_w, i32_w]
            rfl
          refine pure_ (i := 7) (N := some 58) (v := ?_) (a' := ?_) (bs 15 255) rfl rfl (any_of HT_.out (by kernel_rfl)) (fun _ _ _ h => h) (Or.inl ⟨by rfl, ?_⟩) ?_ ?_
          rotate_left
          · intro w'
            go_simp
            with_reducible rfl
          rotate_left
          · simp only [Act.put, List.setIfInBounds_toArray, List.set_cons_zero, List.set_cons_succ, i64_w, i32_w]
            rfl
          refine pure_ (i := 8) (N := some 59) (v := ?_) (a' := ?_) (bs 15 511) rfl rfl (any_of HT_.out (by kernel_rfl)) (fun _ _ _ h => h) (Or.inl ⟨by rfl, ?_⟩) ?_ ?_
          rotate_left
          · intro w'
            go_simp
            with_reducible rfl
          rotate_left
          · simp only [Act.put, List.setIfInBounds_toArray, List.set_cons_zero, List.set_cons_succ, i64_w, i32_w]
            rfl
          refine take_ (i := 9) (N := some 60) (v := ?_) (a' := ?_) (bs 15 1023) rfl rfl (take_ofW HT_.out HW_.out (by kernel_rfl)) (fun _ _ _ h => h) (Or.inl ⟨by rfl, ?_⟩) hHeld ?_ ?_
          rotate_left
          · rintro w' ⟨s0, s1⟩
            go_simp
            with_reducible rfl
          rotate_left
          · simp only [Act.put, List.setIfInBounds_toArray, List.set_cons_zero, List.set_cons_succ, i64_w, i32_w]
            rfl
          refine take_ (i := 11) (N := some 62) (v := ?_) (a' := ?_) (bs 15 3071) rfl rfl (take_ofW HT_.out HW_.out (by kernel_rfl)) (fun _ _ _ h => h) (Or.inl ⟨by rfl, ?_⟩) hHeld ?_ ?_
          rotate_left
          · rintro w' ⟨s0, s1⟩
            go_simp
            with_reducible rfl
          rotate_left
          · simp only [Act.put, List.setIfInBounds_toArray, List.set_cons_zero, List.set_cons_succ, i64_w, i32_w]
            rfl
          refine one_ (i := 10) (N := some 61) (bs 15 4095) rfl rfl (one_of HT_.out (by kernel_rfl)) (by decide) (fun K hK => ?_)
          refine goes_ Try.func20 (by kernel_rfl) rfl #[.agg #[.slice Ao10 t403.length co10, .slice Ao12 t406.length co12]] (by rfl) rfl rfl (by (try simp only [List.map_toArray, List.map_cons, List.map_nil]); first | done | rfl | (simp only [List.length_drop, List.length_take]; rfl)) ?_
          with_reducible refine (impl_GoodLined.calls k _ _ t403 _ _ t406 t416 _ ?side1 ?side2 ?side3 ?side4 A19.out).mono ?_
          (case side1 => repeat (first | exact (Kd.R_reads' HO405.out).2.2 | (with_reducible refine Kd.C_alloc ?_ _) | (with_reducible refine Kd.C_drewN ?_ _) | (with_reducible refine Kd.C_drew ?_)))
          (case side2 => exact (Kd.R_reads' HO405.out).2.1)
          (case side3 => repeat (first | exact (Kd.R_reads' HO408.out).2.2 | (with_reducible refine Kd.C_alloc ?_ _) | (with_reducible refine Kd.C_drewN ?_ _) | (with_reducible refine Kd.C_drew ?_)))
          (case side4 => exact (Kd.R_reads' HO408.out).2.1)
          rintro e w22 ⟨rfl, hb⟩
          refine ⟨_, rfl, ?_⟩
          have n0_ := Aside0.mk (Kd.R_below (lR HO405.out) hb)
          have n1_ := Aside0.mk (Kd.R_below (lR HO408.out) hb)
          have n2_ := Aside0.mk (blk_below (lK BK411.out) hb)
          have n3_ := Aside0.mk (below_step lB hb)
          clear HO405
          clear HO408
          clear BK411
          clear HB
          have HO405 := n0_
          have HO408 := n1_
          have BK411 := n2_
          have HB := n3_
          clear n0_ n1_ n2_ n3_
          (try clear hb)
          (try clear hb2)
          (try clear hk)
          (try clear hi)
          refine hK.out _ _ ⟨bZ BK411.out 0, bZ BK411.out 1⟩ (fun hHeld => ?_)
          clear hK K
          refine norm_ (a' := ?_) ?_ ?_
          rotate_left
          · show Act.put _ (some 61) _ = _
            simp only [Act.put, List.setIfInBounds_toArray, List.set_cons_zero, List.set_cons_succ, i64_w, i32_w]
            rfl
          refine one_ (i := 12) (N := some 63) (bs 15 8191) rfl rfl (one_of HT_.out (by kernel_rfl)) (by decide) (fun K hK => ?_)
          refine goes_ Try.func18 (by kernel_rfl) rfl #[.agg #[.slice Ao10 t403.length co10, .slice Ao12 t406.length co12]] (by rfl) rfl rfl (by (try simp only [List.map_toArray, List.map_cons, List.map_nil]); first | done | rfl | (simp only [List.length_drop, List.length_take]; rfl)) ?_
          with_reducible refine (spec_GoodLined.calls k _ _ t403 _ _ t406 t417 _ ?side1 ?side2 ?side3 ?side4 A20.out).mono ?_
          (case side1 => repeat (first | exact (Kd.R_reads' HO405.out).2.2 | (with_reducible refine Kd.C_alloc ?_ _) | (with_reducible refine Kd.C_drewN ?_ _) | (with_reducible refine Kd.C_drew ?_)))
          (case side2 => exact (Kd.R_reads' HO405.out).2.1)
          (case side3 => repeat (first | exact (Kd.R_reads' HO408.out).2.2 | (with_reducible refine Kd.C_alloc ?_ _) | (with_reducible refine Kd.C_drewN ?_ _) | (with_reducible refine Kd.C_drew ?_)))
          (case side4 => exact (Kd.R_reads' HO408.out).2.1)
          rintro e w23 ⟨rfl, hb⟩
          refine ⟨_, rfl, ?_⟩
          have n0_ := Aside0.mk (Kd.R_below (lR HO405.out) hb)
          have n1_ := Aside0.mk (Kd.R_below (lR HO408.out) hb)
          have n2_ := Aside0.mk (blk_below (lK BK411.out) hb)
          have n3_ := Aside0.mk (below_step lB hb)
          clear HO405
          clear HO408
          clear BK411
          clear HB
          have HO405 := n0_
          have HO408 := n1_
          have BK411 := n2_
          have HB := n3_
          clear n0_ n1_ n2_ n3_
          (try clear hb)
          (try clear hb2)
          (try clear hk)
          (try clear hi)
          refine hK.out _ _ ⟨bZ BK411.out 0, bZ BK411.out 1⟩ (fun hHeld => ?_)
          clear hK K
          refine norm_ (a' := ?_) ?_ ?_
          rotate_left
          · show Act.put _ (some 63) _ = _
            simp only [Act.put, List.setIfInBounds_toArray, List.set_cons_zero, List.set_cons_succ, i64_w, i32_w]
            rfl
          refine pure_ (i := 13) (N := some 64) (v := ?_) (a' := ?_) (bs 15 16383) rfl rfl (any_of HT_.out (by kernel_rfl)) (fun _ _ _ h => h) (Or.inl ⟨by rfl, ?_⟩) ?_ ?_
          rotate_left
          · intro w'
            go_simp
            with_reducible rfl
          rotate_left
          · simp only [Act.put, List.setIfInBounds_toArray, List.set_cons_zero, List.set_cons_succ, i64_w, i32_w]
            rfl
          refine pure_ (i := 14) (N := some 65) (v := ?_) (a' := ?_) (bs 15 32767) rfl rfl (any_of HT_.out (by kernel_rfl)) (fun _ _ _ h => h) (Or.inl ⟨by rfl, ?_⟩) ?_ ?_
          rotate_left
          · intro w'
            go_simp
            with_reducible rfl
          rotate_left
          · simp only [Act.put, List.setIfInBounds_toArray, List.set_cons_zero, List.set_cons_succ, i64_w, i32_w]
            rfl
          refine done_ (done_of HT_.out (by kernel_rfl)) ?_
          try go_wp2
          go_meet
          case rel => exact ⟨_, ((t416 != t417)), lF, H', ⟨lN⟩, ⟨lR HO405.out⟩, ⟨lR HO408.out⟩, ⟨lK BK411.out⟩, ⟨lB⟩⟩
        · rw [if_neg c18] at H
          have c18b0 : (t412 == t414) = false := beq_eq_false_iff_ne.mpr c18
          have c18b1 : (t412 != t414) = true := bne_iff_ne.mpr c18
          have H' := Aside0.mk H
          clear H
          try go_wp2
          have n0_ := Aside0.mk (Kd.R_drew HO405.out)
          have n1_ := Aside0.mk (Kd.R_drew HO408.out)
          have n2_ := Aside0.mk (blk_drew BK411.out)
          have n3_ := Aside0.mk (below_drew1 HB.out)
          clear HO405
          clear HO408
          clear BK411
          clear HB
          have HO405 := n0_
          have HO408 := n1_
          have BK411 := n2_
          have HB := n3_
          clear n0_ n1_ n2_ n3_
          refine start_ (n := 15) (S := fun w' => True) (ds := []) (bs 15 0) kR rfl kR trivial (fun hHeld => ?_); refine with_tabW laws_FnGuards.tab6 laws_FnGuards.bits6 (fun HT_ HW_ => ?_)
          generalize w15.drew = w24 at HO405 HO408 BK411 HB hHeld ⊢
          refine pure_ (i := 0) (N := some 51) (v := ?_) (a' := ?_) (bs 15 1) rfl rfl (any_of HT_.out (by kernel_rfl)) (fun _ _ _ h => h) (Or.inl ⟨by rfl, ?_⟩) ?_ ?_
          rotate_left
          · intro w'
            go_simp
            with_reducible rfl
          rotate_left
          · simp only [Act.put, List.setIfInBounds_toArray, List.set_cons_zero, List.set_cons_succ, i64_w, i32_w]
            rfl
          refine pure_ (i := 1) (N := some 52) (v := ?_) (a' := ?_) (bs 15 3) rfl rfl (any_of HT_.out (by kernel_rfl)) (fun _ _ _ h => h) (Or.inl ⟨by rfl, ?_⟩) ?_ ?_
          rotate_left
          · intro w'
            go_simp
            with_reducible rfl
          rotate_left
          · simp only [Act.put, List.setIfInBounds_toArray, List.set_cons_zero, List.set_cons_succ, i64_w, i32_w]
            rfl
          refine pure_ (i := 2) (N := some 53) (v := ?_) (a' := ?_) (bs 15 7) rfl rfl (any_of HT_.out (by kernel_rfl)) (fun _ _ _ h => h) (Or.inl ⟨by rfl, ?_⟩) ?_ ?_
          rotate_left
          · intro w'
            go_simp
            with_reducible rfl
          rotate_left
          · simp only [Act.put, List.setIfInBounds_toArray, List.set_cons_zero, List.set_cons_succ, i64_w, i32_w]
            rfl
          refine pure_ (i := 3) (N := some 54) (v := ?_) (a' := ?_) (bs 15 15) rfl rfl (any_of HT_.out (by kernel_rfl)) (fun _ _ _ h => h) (Or.inl ⟨by rfl, ?_⟩) ?_ ?_
          rotate_left
          · intro w'
            go_simp
            with_reducible rfl
          rotate_left
          · simp only [Act.put, List.setIfInBounds_toArray, List.set_cons_zero, List.set_cons_succ, i64_w, i32_w]
            rfl
          refine pure_ (i := 4) (N := some 55) (v := ?_) (a' := ?_) (bs 15 31) rfl rfl (any_of HT_.out (by kernel_rfl)) (fun _ _ _ h => h) (Or.inl ⟨by rfl, ?_⟩) ?_ ?_
          rotate_left
          · intro w'
            go_simp
            with_reducible rfl
          rotate_left
          · simp only [Act.put, List.setIfInBounds_toArray, List.set_cons_zero, List.set_cons_succ, i64_w, i32_w]
            rfl
          refine pure_ (i := 5) (N := some 56) (v := ?_) (a' := ?_) (bs 15 63) rfl rfl (any_of HT_.out (by kernel_rfl)) (fun _ _ _ h => h) (Or.inl ⟨by rfl, ?_⟩) ?_ ?_
          rotate_left
          · intro w'
            go_simp
            with_reducible rfl
          rotate_left
          · simp only [Act.put, List.setIfInBounds_toArray, List.set_cons_zero, List.set_cons_succ, i64_w, i32_w]
            rfl
          refine pure_ (i := 6) (N := some 57) (v := ?_) (a' := ?_) (bs 15 127) rfl rfl (any_of HT_.out (by kernel_rfl)) (fun _ _ _ h => h) (Or.inl ⟨by rfl, ?_⟩) ?_ ?_
          rotate_left
          · intro w'
            go_simp
            with_reducible rfl
          rotate_left
          · simp only [Act.put, List.setIfInBounds_toArray, List.set_cons_zero, List.set_cons_succ, i64_w, i32_w]
            rfl
          refine pure_ (i := 7) (N := some 58) (v := ?_) (a' := ?_) (bs 15 255) rfl rfl (any_of HT_.out (by kernel_rfl)) (fun _ _ _ h => h) (Or.inl ⟨by rfl, ?_⟩) ?_ ?_
          rotate_left
          · intro w'
            go_simp
            with_reducible rfl
          rotate_left
          · simp only [Act.put, List.setIfInBounds_toArray, List.set_cons_zero, List.set_cons_succ, i64_w, i32_w]
            rfl
          refine pure_ (i := 8) (N := some 59) (v := ?_) (a' := ?_) (bs 15 511) rfl rfl (any_of HT_.out (by kernel_rfl)) (fun _ _ _ h => h) (Or.inl ⟨by rfl, ?_⟩) ?_ ?_
          rotate_left
          · intro w'
            go_simp
            with_reducible rfl
          rotate_left
          · simp only [Act.put, List.setIfInBounds_toArray, List.set_cons_zero, List.set_cons_succ, i64_w, i32_w]
            rfl
          refine pure_ (i := 9) (N := some 60) (v := undef) (a' := ?_) (bs 15 1023) rfl rfl (any_of HT_.out (by kernel_rfl)) (fun _ _ _ h => h) (Or.inr ⟨by rfl, rfl⟩) ?_ ?_
          rotate_left
          · simp only [Act.put, List.setIfInBounds_toArray, List.set_cons_zero, List.set_cons_succ, i64_w, i32_w]
            rfl
          refine pure_ (i := 10) (N := some 61) (v := undef) (a' := ?_) (bs 15 2047) rfl rfl (any_of HT_.out (by kernel_rfl)) (fun _ _ _ h => h) (Or.inr ⟨by rfl, rfl⟩) ?_ ?_
          rotate_left
          · simp only [Act.put, List.setIfInBounds_toArray, List.set_cons_zero, List.set_cons_succ, i64_w, i32_w]
            rfl
          refine pure_ (i := 11) (N := some 62) (v := undef) (a' := ?_) (bs 15 4095) rfl rfl (any_of HT_.out (by kernel_rfl)) (fun _ _ _ h => h) (Or.inr ⟨by rfl, rfl⟩) ?_ ?_
          rotate_left
          · simp only [Act.put, List.setIfInBounds_toArray, List.set_cons_zero, List.set_cons_succ, i64_w, i32_w]
            rfl
          refine pure_ (i := 12) (N := some 63) (v := undef) (a' := ?_) (bs 15 8191) rfl rfl (any_of HT_.out (by kernel_rfl)) (fun _ _ _ h => h) (Or.inr ⟨by rfl, rfl⟩) ?_ ?_
          rotate_left
          · simp only [Act.put, List.setIfInBounds_toArray, List.set_cons_zero, List.set_cons_succ, i64_w, i32_w]
            rfl
          refine pure_ (i := 13) (N := some 64) (v := undef) (a' := ?_) (bs 15 16383) rfl rfl (any_of HT_.out (by kernel_rfl)) (fun _ _ _ h => h) (Or.inr ⟨by rfl, rfl⟩) ?_ ?_
          rotate_left
          · simp only [Act.put, List.setIfInBounds_toArray, List.set_cons_zero, List.set_cons_succ, i64_w, i32_w]
            rfl
          refine pure_ (i := 14) (N := some 65) (v := ?_) (a' := ?_) (bs 15 32767) rfl rfl (any_of HT_.out (by kernel_rfl)) (fun _ _ _ h => h) (Or.inl ⟨by rfl, ?_⟩) ?_ ?_
          rotate_left
          · intro w'
            go_simp
            with_reducible rfl
          rotate_left
          · simp only [Act.put, List.setIfInBounds_toArray, List.set_cons_zero, List.set_cons_succ, i64_w, i32_w]
            rfl
          refine done_ (done_of HT_.out (by kernel_rfl)) ?_
          try go_wp2
          go_meet
          case rel => exact ⟨_, (true), lF, H', ⟨lN⟩, ⟨lR HO405.out⟩, ⟨lR HO408.out⟩, ⟨lK BK411.out⟩, ⟨lB⟩⟩
    case rest =>
      clear HC7
      try clear c1
      try clear c2
      try clear p2
      try clear c3
      try clear c3b0
      try clear p6
      try clear c10
      try clear c16
      try clear c16b0
      try clear c16b1
      try clear c16b2
      try clear c18
      try clear c18b0
      try clear c18b1
      try clear c20
      try clear c22
      try clear c23
      try clear hcz11_0 hcz11_1
      try clear hcz14_0 hcz14_1
      try clear hfz11_0 hfz11_1
      try clear hfz14_0 hfz14_1
      obtain ⟨kq, x65_6, rfl, HA, HJ6, HO_412000, HO_412001, BK411, HB⟩ := hcut
      cases kq with
      | zero => exact absurd HA.out (by simp [laws_FnGuards.j0])
      | succ kj6 =>
        have H := HA.out
        clear HA
        simp only [laws_FnGuards.j0] at H
        by_cases c25 : x65_6 = true
        · subst c25
          rw [if_pos rfl] at H
          obtain rfl := Option.some.inj H
          first | (go_wp2; go_ret; exact ⟨lE, lB⟩) | (exfalso; simp only [decide_eq_false_iff_not, decide_eq_true_eq] at *; omega)
        · replace c25 := Bool.eq_false_iff.mpr c25
          subst c25
          rw [if_neg (show ¬ (false = true) by decide)] at H
          have HC26 := Aside0.mk H
          clear H
          go_upto_if 66 with (fail)
          go_cut [] (fun wc => ∃ (kq : Nat), Aside0 (laws_FnGuards.j2 kq l1 = some r) ∧ Aside0 (kq ≤ kj6) ∧ Aside0 (Kd.R k86 86 wc w.heap.size (fun _ => True) (.slice Ao10 t403.length co10) t403) ∧ Aside0 (Kd.R k63 63 wc w.heap.size (fun _ => True) (.slice Ao12 t406.length co12) t406) ∧ Aside0 (wc.heap[gb411]? = some (.cells #[(.slice Ao10 t403.length co10), (.slice Ao12 t406.length co12)] 38 (0, 0))) ∧ Aside0 (Below w.heap.size w wc))
          case first =>
            have H := HC26.out
            clear HC26
            by_cases c27 : t413 = true
            · subst c27
              rw [if_pos rfl] at H
              have H' := Aside0.mk H
              clear H
              go_wp2
              go_loopg [12] kj6 (fun kq v12 w' => ∃ (x12_2 : Int), v12 = .int .i64 x12_2 ∧ Aside0 (laws_FnGuards.l0 kq l1 t409 t410 t412 x12_2 t403 t406 = some r) ∧ Aside0 (kq ≤ kj6) ∧ Aside0 (Kd.R k86 86 w' w.heap.size (fun _ => True) (.slice Ao10 t403.length co10) t403) ∧ Aside0 (Kd.R k63 63 w' w.heap.size (fun _ => True) (.slice Ao12 t406.length co12) t406) ∧ Aside0 (w'.heap[gb411]? = some (.cells #[(.slice Ao10 t403.length co10), (.slice Ao12 t406.length co12)] 38 (0, 0))) ∧ Aside0 (Below w.heap.size w w'))
              case atStart => exact ⟨(0), lF, H', ⟨Nat.le_refl _⟩, ⟨lR HO_412000.out⟩, ⟨lR HO_412001.out⟩, ⟨lK BK411.out⟩, ⟨lB⟩⟩
              case round =>
                clear H'
                try clear c1
                try clear c2
                try clear p2
                try clear c3
                try clear c3b0
                try clear p6
                try clear c10
                try clear c16
                try clear c16b0
                try clear c16b1
                try clear c16b2
                try clear c18
                try clear c18b0
                try clear c18b1
                try clear c20
                try clear c22
                try clear c23
                try clear c25
                try clear c27
                try clear hcz11_0 hcz11_1
                try clear hcz14_0 hcz14_1
                try clear hfz11_0 hfz11_1
                try clear hfz14_0 hfz14_1
                try clear p2
                try clear p6
                obtain ⟨x12_2, rfl, HA, HK2, HO_412000, HO_412001, BK411, HB⟩ := hrel
                cases gk with
                | zero => exact absurd HA.out (by simp [laws_FnGuards.l0])
                | succ k2 =>
                  have H := HA.out
                  clear HA
                  simp only [laws_FnGuards.l0] at H
                  by_cases c28 : x12_2 ≤ t412
                  · rw [if_pos c28] at H
                    have c28b0 : decide (x12_2 ≤ t412) = true := decide_eq_true c28
                    clear c28
                    (first | rw [c28b0] | (simp only [i64_w, i32_w]; rw [c28b0]) | skip)
                    by_cases c29 : 0 ≤ x12_2
                    · rw [if_pos c29] at H
                      have c29b0 : decide (0 ≤ x12_2) = true := decide_eq_true c29
                      clear c29
                      by_cases c30 : x12_2 < (t406.length : Int)
                      · rw [if_pos c30] at H
                        have c30b0 : decide (x12_2 < (t406.length : Int)) = true := decide_eq_true c30
                        clear c30
                        by_cases c31 : t409 ≥ ((rd_T63 t406 x12_2).f0)
                        · rw [if_pos c31] at H
                          have c31b0 : decide (((rd_T63 t406 x12_2).f0) ≤ t409) = true := decide_eq_true c31
                          clear c31
                          by_cases c32 : t409 < ((rd_T63 t406 x12_2).f1)
                          · rw [if_pos c32] at H
                            have c32b0 : decide (t409 < ((rd_T63 t406 x12_2).f1)) = true := decide_eq_true c32
                            clear c32
                            by_cases c33 : ((rd_T63 t406 x12_2).f2) = 0
                            · rw [if_pos c33] at H
                              have c33b0 : (((rd_T63 t406 x12_2).f2) == 0) = true := beq_iff_eq.mpr c33
                              have c33b1 : (((rd_T63 t406 x12_2).f2) != 0) = false := bne_eq_false_iff_eq.mpr c33
                              clear c33
                              by_cases c34 : (true != (x12_2 == t412)) = true
                              · rw [if_pos c34] at H
                                have c34b0 : (true != (x12_2 == t412)) = true := c34
                                (try (have c34b1 : decide (true = (x12_2 == t412)) = false := by simpa using c34))
                                (try (have c34b2 : (true == (x12_2 == t412)) = false := by simpa using c34))
                                (try (have c34b3 : ¬ (true = (x12_2 == t412)) := by simpa using c34))
                                clear c34
                                obtain rfl := Option.some.inj H
                                obtain ⟨hcz35_0, hfz35_0, hcz35_1, hfz35_1⟩ := bk2 BK411.out
                                have p418 : 0 ≤ (x12_2 : Int) := lD
                                have q418 : x12_2 < (t406.length : Int) := lD
                                obtain ⟨ad418, e418, hx418_0, hx418_1, hx418_2, hx418_3⟩ := at_T63 (Kd.R_reads' HO_412001.out).2.2 x12_2 p418 q418
                                cases e418
                                replace p418 := eq_true p418
                                replace q418 := eq_true q418
                                as_aux_lemma =>
                                 go_wp2_with (first | ((with_reducible refine gate_dst (N := 13) rfl ?_); refine bxe 13 #[.int .i64 0, .int .i64 0, .int .i64 0, .int .i64 0] 63 ?_; intro gb419 hg w36 hbox hb; have n0_ := Aside0.mk (Kd.R_below (lR HO_412000.out) hb); have n1_ := Aside0.mk (Kd.R_below (Kd.R_elderB (lR HO_412001.out) gb419 (Nat.le_of_eq hg.symm)) hb); have n2_ := Aside0.mk (blk_below (lK BK411.out) hb); have n3_ := Aside0.mk (below_step lB hb); have n4_ := Aside0.mk (hbox); have n5_ := lG w hg; have n6_ := lG w hg; have n7_ := Aside0.mk ((by rw [hg]; exact Nat.ne_of_lt (blk_lt (lK BK411.out)) : gb411 ≠ gb419)); have n8_ := Aside0.mk ((by rw [hg]; exact Nat.ne_of_gt (blk_lt (lK BK411.out)) : gb419 ≠ gb411)); clear HO_412000; clear HO_412001; clear BK411; clear HB; have HO_412000 := n0_; have HO_412001 := n1_; have BK411 := n2_; have HB := n3_; have BK419 := n4_; have GW419 := n5_; have GE419 := n6_; have NB411_419 := n7_; have NB419_411 := n8_; clear n0_ n1_ n2_ n3_ n4_ n5_ n6_ n7_ n8_; clear hb hbox hg; have hnb37 := NB419_411.out; have hnc37 := NB411_419.out; obtain ⟨hcz38_0, hfz38_0, hcz38_1, hfz38_1, hcz38_2, hfz38_2, hcz38_3, hfz38_3⟩ := bk4 BK419.out))
                                 go_ret
                                 exact ⟨lE, lB⟩
                              · rw [if_neg c34] at H
                                have c34b0 : (true != (x12_2 == t412)) = false := by simpa using c34
                                (try (have c34b1 : decide (true = (x12_2 == t412)) = true := by simpa using c34))
                                (try (have c34b2 : (true == (x12_2 == t412)) = true := by simpa using c34))
                                clear c34
                                have H' := Aside0.mk H
                                clear H
                                obtain ⟨hcz39_0, hfz39_0, hcz39_1, hfz39_1⟩ := bk2 BK411.out
                                have p418 : 0 ≤ (x12_2 : Int) := lD
                                have q418 : x12_2 < (t406.length : Int) := lD
                                obtain ⟨ad418, e418, hx418_0, hx418_1, hx418_2, hx418_3⟩ := at_T63 (Kd.R_reads' HO_412001.out).2.2 x12_2 p418 q418
                                cases e418
                                replace p418 := eq_true p418
                                replace q418 := eq_true q418
                                as_aux_lemma =>
                                 go_wp2_with (first | ((with_reducible refine gate_dst (N := 13) rfl ?_); refine bxe 13 #[.int .i64 0, .int .i64 0, .int .i64 0, .int .i64 0] 63 ?_; intro gb419 hg w40 hbox hb; have n0_ := Aside0.mk (Kd.R_below (lR HO_412000.out) hb); have n1_ := Aside0.mk (Kd.R_below (Kd.R_elderB (lR HO_412001.out) gb419 (Nat.le_of_eq hg.symm)) hb); have n2_ := Aside0.mk (blk_below (lK BK411.out) hb); have n3_ := Aside0.mk (below_step lB hb); have n4_ := Aside0.mk (hbox); have n5_ := lG w hg; have n6_ := lG w hg; have n7_ := Aside0.mk ((by rw [hg]; exact Nat.ne_of_lt (blk_lt (lK BK411.out)) : gb411 ≠ gb419)); have n8_ := Aside0.mk ((by rw [hg]; exact Nat.ne_of_gt (blk_lt (lK BK411.out)) : gb419 ≠ gb411)); clear HO_412000; clear HO_412001; clear BK411; clear HB; have HO_412000 := n0_; have HO_412001 := n1_; have BK411 := n2_; have HB := n3_; have BK419 := n4_; have GW419 := n5_; have GE419 := n6_; have NB411_419 := n7_; have NB419_411 := n8_; clear n0_ n1_ n2_ n3_ n4_ n5_ n6_ n7_ n8_; clear hb hbox hg; have hnb41 := NB419_411.out; have hnc41 := NB411_419.out; obtain ⟨hcz42_0, hfz42_0, hcz42_1, hfz42_1, hcz42_2, hfz42_2, hcz42_3, hfz42_3⟩ := bk4 BK419.out))
                                 go_roundg k2
                                 case measure => have := HJ6.out; have := HK2.out; omega
                                 case rel => exact ⟨(wrap64 (x12_2 + 1)), lF, H', ⟨by have := HJ6.out; have := HK2.out; omega⟩, ⟨by (with_reducible repeat (first | apply Kd.R_alloc | apply Kd.R_drewN | apply Kd.R_drew)); exact Kd.R_mono (Kd.R_far (p := ⟨gb419, 3, none⟩) (Kd.R_far (p := ⟨gb419, 2, none⟩) (Kd.R_far (p := ⟨gb419, 1, none⟩) (Kd.R_far (p := ⟨gb419, 0, none⟩) (Kd.R_types HO_412000.out BK419.out (by decide)) (fun _ hk => hk.2) (.int .i64 ((rd_T63 t406 x12_2).f0))) (fun _ hk => hk.2) (.int .i64 ((rd_T63 t406 x12_2).f1))) (fun _ hk => hk.2) (.int .i64 ((rd_T63 t406 x12_2).f2))) (fun _ hk => hk.2) (.int .i64 ((rd_T63 t406 x12_2).f3))) (fun _ hk => trivial)⟩, ⟨by (with_reducible repeat (first | apply Kd.R_alloc | apply Kd.R_drewN | apply Kd.R_drew)); exact Kd.R_mono (Kd.R_far (p := ⟨gb419, 3, none⟩) (Kd.R_far (p := ⟨gb419, 2, none⟩) (Kd.R_far (p := ⟨gb419, 1, none⟩) (Kd.R_far (p := ⟨gb419, 0, none⟩) (Kd.R_mono HO_412001.out (fun k_ hk => (⟨hk, hk.2⟩ : _ ∧ k_ ≠ gb419))) (fun _ hk => hk.2) (.int .i64 ((rd_T63 t406 x12_2).f0))) (fun _ hk => hk.2) (.int .i64 ((rd_T63 t406 x12_2).f1))) (fun _ hk => hk.2) (.int .i64 ((rd_T63 t406 x12_2).f2))) (fun _ hk => hk.2) (.int .i64 ((rd_T63 t406 x12_2).f3))) (fun _ hk => trivial)⟩, ⟨lJ BK411.out⟩, ⟨lB⟩⟩
                            · rw [if_neg c33] at H
                              have c33b0 : (((rd_T63 t406 x12_2).f2) == 0) = false := beq_eq_false_iff_ne.mpr c33
                              have c33b1 : (((rd_T63 t406 x12_2).f2) != 0) = true := bne_iff_ne.mpr c33
                              by_cases c43 : ((((rd_T63 t406 x12_2).f2) == t410) != (x12_2 == t412)) = true
                              · rw [if_pos c43] at H
                                have c43b0 : ((((rd_T63 t406 x12_2).f2) == t410) != (x12_2 == t412)) = true := c43
                                (try (have c43b1 : decide ((((rd_T63 t406 x12_2).f2) == t410) = (x12_2 == t412)) = false := by simpa using c43))
                                (try (have c43b2 : ((((rd_T63 t406 x12_2).f2) == t410) == (x12_2 == t412)) = false := by simpa using c43))
                                (try (have c43b3 : ¬ ((((rd_T63 t406 x12_2).f2) == t410) = (x12_2 == t412)) := by simpa using c43))
                                clear c43
                                obtain rfl := Option.some.inj H
                                obtain ⟨hcz44_0, hfz44_0, hcz44_1, hfz44_1⟩ := bk2 BK411.out
                                have p418 : 0 ≤ (x12_2 : Int) := lD
                                have q418 : x12_2 < (t406.length : Int) := lD
                                obtain ⟨ad418, e418, hx418_0, hx418_1, hx418_2, hx418_3⟩ := at_T63 (Kd.R_reads' HO_412001.out).2.2 x12_2 p418 q418
                                cases e418
                                replace p418 := eq_true p418
                                replace q418 := eq_true q418
                                as_aux_lemma =>
                                 go_wp2_with (first | ((with_reducible refine gate_dst (N := 13) rfl ?_); refine bxe 13 #[.int .i64 0, .int .i64 0, .int .i64 0, .int .i64 0] 63 ?_; intro gb419 hg w45 hbox hb; have n0_ := Aside0.mk (Kd.R_below (lR HO_412000.out) hb); have n1_ := Aside0.mk (Kd.R_below (Kd.R_elderB (lR HO_412001.out) gb419 (Nat.le_of_eq hg.symm)) hb); have n2_ := Aside0.mk (blk_below (lK BK411.out) hb); have n3_ := Aside0.mk (below_step lB hb); have n4_ := Aside0.mk (hbox); have n5_ := lG w hg; have n6_ := lG w hg; have n7_ := Aside0.mk ((by rw [hg]; exact Nat.ne_of_lt (blk_lt (lK BK411.out)) : gb411 ≠ gb419)); have n8_ := Aside0.mk ((by rw [hg]; exact Nat.ne_of_gt (blk_lt (lK BK411.out)) : gb419 ≠ gb411)); clear HO_412000; clear HO_412001; clear BK411; clear HB; have HO_412000 := n0_; have HO_412001 := n1_; have BK411 := n2_; have HB := n3_; have BK419 := n4_; have GW419 := n5_; have GE419 := n6_; have NB411_419 := n7_; have NB419_411 := n8_; clear n0_ n1_ n2_ n3_ n4_ n5_ n6_ n7_ n8_; clear hb hbox hg; have hnb46 := NB419_411.out; have hnc46 := NB411_419.out; obtain ⟨hcz47_0, hfz47_0, hcz47_1, hfz47_1, hcz47_2, hfz47_2, hcz47_3, hfz47_3⟩ := bk4 BK419.out))
                                 go_ret
                                 exact ⟨lE, lB⟩
                              · rw [if_neg c43] at H
                                have c43b0 : ((((rd_T63 t406 x12_2).f2) == t410) != (x12_2 == t412)) = false := by simpa using c43
                                (try (have c43b1 : decide ((((rd_T63 t406 x12_2).f2) == t410) = (x12_2 == t412)) = true := by simpa using c43))
                                (try (have c43b2 : ((((rd_T63 t406 x12_2).f2) == t410) == (x12_2 == t412)) = true := by simpa using c43))
                                clear c43
                                have H' := Aside0.mk H
                                clear H
                                obtain ⟨hcz48_0, hfz48_0, hcz48_1, hfz48_1⟩ := bk2 BK411.out
                                have p418 : 0 ≤ (x12_2 : Int) := lD
                                have q418 : x12_2 < (t406.length : Int) := lD
                                obtain ⟨ad418, e418, hx418_0, hx418_1, hx418_2, hx418_3⟩ := at_T63 (Kd.R_reads' HO_412001.out).2.2 x12_2 p418 q418
                                cases e418
                                replace p418 := eq_true p418
                                replace q418 := eq_true q418
                                as_aux_lemma =>
                                 go_wp2_with (first | ((with_reducible refine gate_dst (N := 13) rfl ?_); refine bxe 13 #[.int .i64 0, .int .i64 0, .int .i64 0, .int .i64 0] 63 ?_; intro gb419 hg w49 hbox hb; have n0_ := Aside0.mk (Kd.R_below (lR HO_412000.out) hb); have n1_ := Aside0.mk (Kd.R_below (Kd.R_elderB (lR HO_412001.out) gb419 (Nat.le_of_eq hg.symm)) hb); have n2_ := Aside0.mk (blk_below (lK BK411.out) hb); have n3_ := Aside0.mk (below_step lB hb); have n4_ := Aside0.mk (hbox); have n5_ := lG w hg; have n6_ := lG w hg; have n7_ := Aside0.mk ((by rw [hg]; exact Nat.ne_of_lt (blk_lt (lK BK411.out)) : gb411 ≠ gb419)); have n8_ := Aside0.mk ((by rw [hg]; exact Nat.ne_of_gt (blk_lt (lK BK411.out)) : gb419 ≠ gb411)); clear HO_412000; clear HO_412001; clear BK411; clear HB; have HO_412000 := n0_; have HO_412001 := n1_; have BK411 := n2_; have HB := n3_; have BK419 := n4_; have GW419 := n5_; have GE419 := n6_; have NB411_419 := n7_; have NB419_411 := n8_; clear n0_ n1_ n2_ n3_ n4_ n5_ n6_ n7_ n8_; clear hb hbox hg; have hnb50 := NB419_411.out; have hnc50 := NB411_419.out; obtain ⟨hcz51_0, hfz51_0, hcz51_1, hfz51_1, hcz51_2, hfz51_2, hcz51_3, hfz51_3⟩ := bk4 BK419.out))
                                 go_roundg k2
                                 case measure => have := HJ6.out; have := HK2.out; omega
                                 case rel => exact ⟨(wrap64 (x12_2 + 1)), lF, H', ⟨by have := HJ6.out; have := HK2.out; omega⟩, ⟨by (with_reducible repeat (first | apply Kd.R_alloc | apply Kd.R_drewN | apply Kd.R_drew)); exact Kd.R_mono (Kd.R_far (p := ⟨gb419, 3, none⟩) (Kd.R_far (p := ⟨gb419, 2, none⟩) (Kd.R_far (p := ⟨gb419, 1, none⟩) (Kd.R_far (p := ⟨gb419, 0, none⟩) (Kd.R_types HO_412000.out BK419.out (by decide)) (fun _ hk => hk.2) (.int .i64 ((rd_T63 t406 x12_2).f0))) (fun _ hk => hk.2) (.int .i64 ((rd_T63 t406 x12_2).f1))) (fun _ hk => hk.2) (.int .i64 ((rd_T63 t406 x12_2).f2))) (fun _ hk => hk.2) (.int .i64 ((rd_T63 t406 x12_2).f3))) (fun _ hk => trivial)⟩, ⟨by (with_reducible repeat (first | apply Kd.R_alloc | apply Kd.R_drewN | apply Kd.R_drew)); exact Kd.R_mono (Kd.R_far (p := ⟨gb419, 3, none⟩) (Kd.R_far (p := ⟨gb419, 2, none⟩) (Kd.R_far (p := ⟨gb419, 1, none⟩) (Kd.R_far (p := ⟨gb419, 0, none⟩) (Kd.R_mono HO_412001.out (fun k_ hk => (⟨hk, hk.2⟩ : _ ∧ k_ ≠ gb419))) (fun _ hk => hk.2) (.int .i64 ((rd_T63 t406 x12_2).f0))) (fun _ hk => hk.2) (.int .i64 ((rd_T63 t406 x12_2).f1))) (fun _ hk => hk.2) (.int .i64 ((rd_T63 t406 x12_2).f2))) (fun _ hk => hk.2) (.int .i64 ((rd_T63 t406 x12_2).f3))) (fun _ hk => trivial)⟩, ⟨lJ BK411.out⟩, ⟨lB⟩⟩
                          · rw [if_neg c32] at H
                            have c32b0 : decide (t409 < ((rd_T63 t406 x12_2).f1)) = false := decide_eq_false c32
                            clear c32
                            by_cases c52 : (false != (x12_2 == t412)) = true
                            · rw [if_pos c52] at H
                              have c52b0 : (false != (x12_2 == t412)) = true := c52
                              (try (have c52b1 : decide (false = (x12_2 == t412)) = false := by simpa using c52))
                              (try (have c52b2 : (false == (x12_2 == t412)) = false := by simpa using c52))
                              (try (have c52b3 : ¬ (false = (x12_2 == t412)) := by simpa using c52))
                              clear c52
                              obtain rfl := Option.some.inj H
                              obtain ⟨hcz53_0, hfz53_0, hcz53_1, hfz53_1⟩ := bk2 BK411.out
                              have p418 : 0 ≤ (x12_2 : Int) := lD
                              have q418 : x12_2 < (t406.length : Int) := lD
                              obtain ⟨ad418, e418, hx418_0, hx418_1, hx418_2, hx418_3⟩ := at_T63 (Kd.R_reads' HO_412001.out).2.2 x12_2 p418 q418
                              cases e418
                              replace p418 := eq_true p418
                              replace q418 := eq_true q418
                              as_aux_lemma =>
                               go_wp2_with (first | ((with_reducible refine gate_dst (N := 13) rfl ?_); refine bxe 13 #[.int .i64 0, .int .i64 0, .int .i64 0, .int .i64 0] 63 ?_; intro gb419 hg w54 hbox hb; have n0_ := Aside0.mk (Kd.R_below (lR HO_412000.out) hb); have n1_ := Aside0.mk (Kd.R_below (Kd.R_elderB (lR HO_412001.out) gb419 (Nat.le_of_eq hg.symm)) hb); have n2_ := Aside0.mk (blk_below (lK BK411.out) hb); have n3_ := Aside0.mk (below_step lB hb); have n4_ := Aside0.mk (hbox); have n5_ := lG w hg; have n6_ := lG w hg; have n7_ := Aside0.mk ((by rw [hg]; exact Nat.ne_of_lt (blk_lt (lK BK411.out)) : gb411 ≠ gb419)); have n8_ := Aside0.mk ((by rw [hg]; exact Nat.ne_of_gt (blk_lt (lK BK411.out)) : gb419 ≠ gb411)); clear HO_412000; clear HO_412001; clear BK411; clear HB; have HO_412000 := n0_; have HO_412001 := n1_; have BK411 := n2_; have HB := n3_; have BK419 := n4_; have GW419 := n5_; have GE419 := n6_; have NB411_419 := n7_; have NB419_411 := n8_; clear n0_ n1_ n2_ n3_ n4_ n5_ n6_ n7_ n8_; clear hb hbox hg; have hnb55 := NB419_411.out; have hnc55 := NB411_419.out; obtain ⟨hcz56_0, hfz56_0, hcz56_1, hfz56_1, hcz56_2, hfz56_2, hcz56_3, hfz56_3⟩ := bk4 BK419.out))
                               go_ret
                               exact ⟨lE, lB⟩
                            · rw [if_neg c52] at H
                              have c52b0 : (false != (x12_2 == t412)) = false := by simpa using c52
                              (try (have c52b1 : decide (false = (x12_2 == t412)) = true := by simpa using c52))
                              (try (have c52b2 : (false == (x12_2 == t412)) = true := by simpa using c52))
                              clear c52
                              have H' := Aside0.mk H
                              clear H
                              obtain ⟨hcz57_0, hfz57_0, hcz57_1, hfz57_1⟩ := bk2 BK411.out
                              have p418 : 0 ≤ (x12_2 : Int) := lD
                              have q418 : x12_2 < (t406.length : Int) := lD
                              obtain ⟨ad418, e418, hx418_0, hx418_1, hx418_2, hx418_3⟩ := at_T63 (Kd.R_reads' HO_412001.out).2.2 x12_2 p418 q418
                              cases e418
                              replace p418 := eq_true p418
                              replace q418 := eq_true q418
                              as_aux_lemma =>
                               go_wp2_with (first | ((with_reducible refine gate_dst (N := 13) rfl ?_); refine bxe 13 #[.int .i64 0, .int .i64 0, .int .i64 0, .int .i64 0] 63 ?_; intro gb419 hg w58 hbox hb; have n0_ := Aside0.mk (Kd.R_below (lR HO_412000.out) hb); have n1_ := Aside0.mk (Kd.R_below (Kd.R_elderB (lR HO_412001.out) gb419 (Nat.le_of_eq hg.symm)) hb); have n2_ := Aside0.mk (blk_below (lK BK411.out) hb); have n3_ := Aside0.mk (below_step lB hb); have n4_ := Aside0.mk (hbox); have n5_ := lG w hg; have n6_ := lG w hg; have n7_ := Aside0.mk ((by rw [hg]; exact Nat.ne_of_lt (blk_lt (lK BK411.out)) : gb411 ≠ gb419)); have n8_ := Aside0.mk ((by rw [hg]; exact Nat.ne_of_gt (blk_lt (lK BK411.out)) : gb419 ≠ gb411)); clear HO_412000; clear HO_412001; clear BK411; clear HB; have HO_412000 := n0_; have HO_412001 := n1_; have BK411 := n2_; have HB := n3_; have BK419 := n4_; have GW419 := n5_; have GE419 := n6_; have NB411_419 := n7_; have NB419_411 := n8_; clear n0_ n1_ n2_ n3_ n4_ n5_ n6_ n7_ n8_; clear hb hbox hg; have hnb59 := NB419_411.out; have hnc59 := NB411_419.out; obtain ⟨hcz60_0, hfz60_0, hcz60_1, hfz60_1, hcz60_2, hfz60_2, hcz60_3, hfz60_3⟩ := bk4 BK419.out))
                               go_roundg k2
                               case measure => have := HJ6.out; have := HK2.out; omega
                               case rel => exact ⟨(wrap64 (x12_2 + 1)), lF, H', ⟨by have := HJ6.out; have := HK2.out; omega⟩, ⟨by (with_reducible repeat (first | apply Kd.R_alloc | apply Kd.R_drewN | apply Kd.R_drew)); exact Kd.R_mono (Kd.R_far (p := ⟨gb419, 3, none⟩) (Kd.R_far (p := ⟨gb419, 2, none⟩) (Kd.R_far (p := ⟨gb419, 1, none⟩) (Kd.R_far (p := ⟨gb419, 0, none⟩) (Kd.R_types HO_412000.out BK419.out (by decide)) (fun _ hk => hk.2) (.int .i64 ((rd_T63 t406 x12_2).f0))) (fun _ hk => hk.2) (.int .i64 ((rd_T63 t406 x12_2).f1))) (fun _ hk => hk.2) (.int .i64 ((rd_T63 t406 x12_2).f2))) (fun _ hk => hk.2) (.int .i64 ((rd_T63 t406 x12_2).f3))) (fun _ hk => trivial)⟩, ⟨by (with_reducible repeat (first | apply Kd.R_alloc | apply Kd.R_drewN | apply Kd.R_drew)); exact Kd.R_mono (Kd.R_far (p := ⟨gb419, 3, none⟩) (Kd.R_far (p := ⟨gb419, 2, none⟩) (Kd.R_far (p := ⟨gb419, 1, none⟩) (Kd.R_far (p := ⟨gb419, 0, none⟩) (Kd.R_mono HO_412001.out (fun k_ hk => (⟨hk, hk.2⟩ : _ ∧ k_ ≠ gb419))) (fun _ hk => hk.2) (.int .i64 ((rd_T63 t406 x12_2).f0))) (fun _ hk => hk.2) (.int .i64 ((rd_T63 t406 x12_2).f1))) (fun _ hk => hk.2) (.int .i64 ((rd_T63 t406 x12_2).f2))) (fun _ hk => hk.2) (.int .i64 ((rd_T63 t406 x12_2).f3))) (fun _ hk => trivial)⟩, ⟨lJ BK411.out⟩, ⟨lB⟩⟩
                        · rw [if_neg c31] at H
                          have c31b0 : decide (((rd_T63 t406 x12_2).f0) ≤ t409) = false := decide_eq_false c31
                          clear c31
                          by_cases c61 : (false != (x12_2 == t412)) = true
                          · rw [if_pos c61] at H
                            have c61b0 : (false != (x12_2 == t412)) = true := c61
                            (try (have c61b1 : decide (false = (x12_2 == t412)) = false := by simpa using c61))
                            (try (have c61b2 : (false == (x12_2 == t412)) = false := by simpa using c61))
                            (try (have c61b3 : ¬ (false = (x12_2 == t412)) := by simpa using c61))
                            clear c61
                            obtain rfl := Option.some.inj H
                            obtain ⟨hcz62_0, hfz62_0, hcz62_1, hfz62_1⟩ := bk2 BK411.out
                            have p418 : 0 ≤ (x12_2 : Int) := lD
                            have q418 : x12_2 < (t406.length : Int) := lD
                            obtain ⟨ad418, e418, hx418_0, hx418_1, hx418_2, hx418_3⟩ := at_T63 (Kd.R_reads' HO_412001.out).2.2 x12_2 p418 q418
                            cases e418
                            replace p418 := eq_true p418
                            replace q418 := eq_true q418
                            as_aux_lemma =>
                             go_wp2_with (first | ((with_reducible refine gate_dst (N := 13) rfl ?_); refine bxe 13 #[.int .i64 0, .int .i64 0, .int .i64 0, .int .i64 0] 63 ?_; intro gb419 hg w63 hbox hb; have n0_ := Aside0.mk (Kd.R_below (lR HO_412000.out) hb); have n1_ := Aside0.mk (Kd.R_below (Kd.R_elderB (lR HO_412001.out) gb419 (Nat.le_of_eq hg.symm)) hb); have n2_ := Aside0.mk (blk_below (lK BK411.out) hb); have n3_ := Aside0.mk (below_step lB hb); have n4_ := Aside0.mk (hbox); have n5_ := lG w hg; have n6_ := lG w hg; have n7_ := Aside0.mk ((by rw [hg]; exact Nat.ne_of_lt (blk_lt (lK BK411.out)) : gb411 ≠ gb419)); have n8_ := Aside0.mk ((by rw [hg]; exact Nat.ne_of_gt (blk_lt (lK BK411.out)) : gb419 ≠ gb411)); clear HO_412000; clear HO_412001; clear BK411; clear HB; have HO_412000 := n0_; have HO_412001 := n1_; have BK411 := n2_; have HB := n3_; have BK419 := n4_; have GW419 := n5_; have GE419 := n6_; have NB411_419 := n7_; have NB419_411 := n8_; clear n0_ n1_ n2_ n3_ n4_ n5_ n6_ n7_ n8_; clear hb hbox hg; have hnb64 := NB419_411.out; have hnc64 := NB411_419.out; obtain ⟨hcz65_0, hfz65_0, hcz65_1, hfz65_1, hcz65_2, hfz65_2, hcz65_3, hfz65_3⟩ := bk4 BK419.out))
                             go_ret
                             exact ⟨lE, lB⟩
                          · rw [if_neg c61] at H
                            have c61b0 : (false != (x12_2 == t412)) = false := by simpa using c61
                            (try (have c61b1 : decide (false = (x12_2 == t412)) = true := by simpa using c61))
                            (try (have c61b2 : (false == (x12_2 == t412)) = true := by simpa using c61))
                            clear c61
                            have H' := Aside0.mk H
                            clear H
                            obtain ⟨hcz66_0, hfz66_0, hcz66_1, hfz66_1⟩ := bk2 BK411.out
                            have p418 : 0 ≤ (x12_2 : Int) := lD
                            have q418 : x12_2 < (t406.length : Int) := lD
                            obtain ⟨ad418, e418, hx418_0, hx418_1, hx418_2, hx418_3⟩ := at_T63 (Kd.R_reads' HO_412001.out).2.2 x12_2 p418 q418
                            cases e418
                            replace p418 := eq_true p418
                            replace q418 := eq_true q418
                            as_aux_lemma =>
                             go_wp2_with (first | ((with_reducible refine gate_dst (N := 13) rfl ?_); refine bxe 13 #[.int .i64 0, .int .i64 0, .int .i64 0, .int .i64 0] 63 ?_; intro gb419 hg w67 hbox hb; have n0_ := Aside0.mk (Kd.R_below (lR HO_412000.out) hb); have n1_ := Aside0.mk (Kd.R_below (Kd.R_elderB (lR HO_412001.out) gb419 (Nat.le_of_eq hg.symm)) hb); have n2_ := Aside0.mk (blk_below (lK BK411.out) hb); have n3_ := Aside0.mk (below_step lB hb); have n4_ := Aside0.mk (hbox); have n5_ := lG w hg; have n6_ := lG w hg; have n7_ := Aside0.mk ((by rw [hg]; exact Nat.ne_of_lt (blk_lt (lK BK411.out)) : gb411 ≠ gb419)); have n8_ := Aside0.mk ((by rw [hg]; exact Nat.ne_of_gt (blk_lt (lK BK411.out)) : gb419 ≠ gb411)); clear HO_412000; clear HO_412001; clear BK411; clear HB; have HO_412000 := n0_; have HO_412001 := n1_; have BK411 := n2_; have HB := n3_; have BK419 := n4_; have GW419 := n5_; have GE419 := n6_; have NB411_419 := n7_; have NB419_411 := n8_; clear n0_ n1_ n2_ n3_ n4_ n5_ n6_ n7_ n8_; clear hb hbox hg; have hnb68 := NB419_411.out; have hnc68 := NB411_419.out; obtain ⟨hcz69_0, hfz69_0, hcz69_1, hfz69_1, hcz69_2, hfz69_2, hcz69_3, hfz69_3⟩ := bk4 BK419.out))
                             go_roundg k2
                             case measure => have := HJ6.out; have := HK2.out; omega
                             case rel => exact ⟨(wrap64 (x12_2 + 1)), lF, H', ⟨by have := HJ6.out; have := HK2.out; omega⟩, ⟨by (with_reducible repeat (first | apply Kd.R_alloc | apply Kd.R_drewN | apply Kd.R_drew)); exact Kd.R_mono (Kd.R_far (p := ⟨gb419, 3, none⟩) (Kd.R_far (p := ⟨gb419, 2, none⟩) (Kd.R_far (p := ⟨gb419, 1, none⟩) (Kd.R_far (p := ⟨gb419, 0, none⟩) (Kd.R_types HO_412000.out BK419.out (by decide)) (fun _ hk => hk.2) (.int .i64 ((rd_T63 t406 x12_2).f0))) (fun _ hk => hk.2) (.int .i64 ((rd_T63 t406 x12_2).f1))) (fun _ hk => hk.2) (.int .i64 ((rd_T63 t406 x12_2).f2))) (fun _ hk => hk.2) (.int .i64 ((rd_T63 t406 x12_2).f3))) (fun _ hk => trivial)⟩, ⟨by (with_reducible repeat (first | apply Kd.R_alloc | apply Kd.R_drewN | apply Kd.R_drew)); exact Kd.R_mono (Kd.R_far (p := ⟨gb419, 3, none⟩) (Kd.R_far (p := ⟨gb419, 2, none⟩) (Kd.R_far (p := ⟨gb419, 1, none⟩) (Kd.R_far (p := ⟨gb419, 0, none⟩) (Kd.R_mono HO_412001.out (fun k_ hk => (⟨hk, hk.2⟩ : _ ∧ k_ ≠ gb419))) (fun _ hk => hk.2) (.int .i64 ((rd_T63 t406 x12_2).f0))) (fun _ hk => hk.2) (.int .i64 ((rd_T63 t406 x12_2).f1))) (fun _ hk => hk.2) (.int .i64 ((rd_T63 t406 x12_2).f2))) (fun _ hk => hk.2) (.int .i64 ((rd_T63 t406 x12_2).f3))) (fun _ hk => trivial)⟩, ⟨lJ BK411.out⟩, ⟨lB⟩⟩
                      · rw [if_neg c30] at H
                        exact absurd H (by simp)
                    · rw [if_neg c29] at H
                      exact absurd H (by simp)
                  · rw [if_neg c28] at H
                    have c28b0 : decide (x12_2 ≤ t412) = false := decide_eq_false c28
                    clear c28
                    (first | rw [c28b0] | (simp only [i64_w, i32_w]; rw [c28b0]) | skip)
                    have H' := Aside0.mk H
                    clear H
                    as_aux_lemma =>
                     go_wp2
                     go_meet
                     case rel => exact ⟨_, H', ⟨by have := HJ6.out; have := HK2.out; first | omega | exact Nat.le_refl _⟩, ⟨lR HO_412000.out⟩, ⟨lR HO_412001.out⟩, ⟨lK BK411.out⟩, ⟨lB⟩⟩
            · replace c27 := Bool.eq_false_iff.mpr c27
              subst c27
              rw [if_neg (show ¬ (false = true) by decide)] at H
              have H' := Aside0.mk H
              clear H
              as_aux_lemma =>
               go_wp2
               go_meet
               case rel => exact ⟨_, H', ⟨by have := HJ6.out; first | omega | exact Nat.le_refl _⟩, ⟨lR HO_412000.out⟩, ⟨lR HO_412001.out⟩, ⟨lK BK411.out⟩, ⟨lB⟩⟩
          case rest =>
            clear HC26
            try clear c1
            try clear c2
            try clear p2
            try clear c3
            try clear c3b0
            try clear c4
            try clear p4
            try clear q4
            try clear hx4
            try clear c5
            try clear c6
            try clear p6
            try clear c10
            try clear c16
            try clear c16b0
            try clear c16b1
            try clear c16b2
            try clear c18
            try clear c18b0
            try clear c18b1
            try clear c20
            try clear c22
            try clear c23
            try clear c25
            try clear c27
            try clear c28
            try clear c28b0
            try clear c29
            try clear c29b0
            try clear c30
            try clear c30b0
            try clear c31
            try clear c31b0
            try clear c32
            try clear c32b0
            try clear c33
            try clear c33b0
            try clear c33b1
            try clear c34
            try clear c34b0
            try clear c34b1
            try clear c34b2
            try clear c37
            try clear c41
            try clear p41
            try clear q41
            try clear hx41
            try clear c43
            try clear c43b0
            try clear c43b1
            try clear c43b2
            try clear c46
            try clear c50
            try clear c52
            try clear c52b0
            try clear c52b1
            try clear c52b2
            try clear c55
            try clear c59
            try clear c61
            try clear c61b0
            try clear c61b1
            try clear c61b2
            try clear c64
            try clear p64
            try clear c68
            try clear hcz11_0 hcz11_1
            try clear hcz14_0 hcz14_1
            try clear hcz35_0 hcz35_1
            try clear hcz38_0 hcz38_1 hcz38_2 hcz38_3
            try clear hcz39_0 hcz39_1
            try clear hcz42_0 hcz42_1 hcz42_2 hcz42_3
            try clear hcz44_0 hcz44_1
            try clear hcz47_0 hcz47_1 hcz47_2 hcz47_3
            try clear hcz48_0 hcz48_1
            try clear hcz51_0 hcz51_1 hcz51_2 hcz51_3
            try clear hcz53_0 hcz53_1
            try clear hcz56_0 hcz56_1 hcz56_2 hcz56_3
            try clear hcz57_0 hcz57_1
            try clear hcz60_0 hcz60_1 hcz60_2 hcz60_3
            try clear hcz62_0 hcz62_1
            try clear hcz65_0 hcz65_1 hcz65_2 hcz65_3
            try clear hcz66_0 hcz66_1
            try clear hcz69_0 hcz69_1 hcz69_2 hcz69_3
            try clear hfz11_0 hfz11_1
            try clear hfz14_0 hfz14_1
            try clear hfz35_0 hfz35_1
            try clear hfz38_0 hfz38_1 hfz38_2 hfz38_3
            try clear hfz39_0 hfz39_1
            try clear hfz42_0 hfz42_1 hfz42_2 hfz42_3
            try clear hfz44_0 hfz44_1
            try clear hfz47_0 hfz47_1 hfz47_2 hfz47_3
            try clear hfz48_0 hfz48_1
            try clear hfz51_0 hfz51_1 hfz51_2 hfz51_3
            try clear hfz53_0 hfz53_1
            try clear hfz56_0 hfz56_1 hfz56_2 hfz56_3
            try clear hfz57_0 hfz57_1
            try clear hfz60_0 hfz60_1 hfz60_2 hfz60_3
            try clear hfz62_0 hfz62_1
            try clear hfz65_0 hfz65_1 hfz65_2 hfz65_3
            try clear hfz66_0 hfz66_1
            try clear hfz69_0 hfz69_1 hfz69_2 hfz69_3
            try clear hx418_0
            try clear hx418_1
            try clear hx418_2
            try clear hx418_3
            try clear p2
            try clear p418
            try clear p6
            try clear q418
            obtain ⟨kq, HA, HJ25, HO_412000, HO_412001, BK411, HB⟩ := hcut
            cases kq with
            | zero => exact absurd HA.out (by simp [laws_FnGuards.j2])
            | succ kj25 =>
              have H := HA.out
              clear HA
              simp only [laws_FnGuards.j2] at H
              replace H := Option.bind_eq_some_iff.mp H
              obtain ⟨⟨t420, t423, t426⟩, A700, H⟩ := H
              replace H : ((impl_RunLined.f kj25 t420 t423 t426).bind fun bt428 => ((spec_RunLined.f kj25 t420 t423 t426).bind fun bt434 => (if (bt428.2.2.2 == bt434.2.2.2) = true then ((laws_sameInts.f kj25 bt428.1 bt434.1).bind fun t440 => (if t440 = true then (if bt428.2.1 = bt434.2.1 then (if bt428.2.2.1 = bt434.2.2.1 then (if bt428.2.2.2 = true then (some (decide (bt428.2.2.1 ≤ t426))) else (some true)) else (some false)) else (some false)) else (some false))) else (some false)))) = some r := H
              have A70 := Aside0.mk A700
              clear A700
              replace H := Option.bind_eq_some_iff.mp H
              obtain ⟨⟨t428, t431, t432, t433⟩, A710, H⟩ := H
              replace H : ((spec_RunLined.f kj25 t420 t423 t426).bind fun bt434 => (if (t433 == bt434.2.2.2) = true then ((laws_sameInts.f kj25 t428 bt434.1).bind fun t440 => (if t440 = true then (if t431 = bt434.2.1 then (if t432 = bt434.2.2.1 then (if t433 = true then (some (decide (t432 ≤ t426))) else (some true)) else (some false)) else (some false)) else (some false))) else (some false))) = some r := H
              have A71 := Aside0.mk A710
              clear A710
              replace H := Option.bind_eq_some_iff.mp H
              obtain ⟨⟨t434, t437, t438, t439⟩, A720, H⟩ := H
              replace H : (if (t433 == t439) = true then ((laws_sameInts.f kj25 t428 t434).bind fun t440 => (if t440 = true then (if t431 = t437 then (if t432 = t438 then (if t433 = true then (some (decide (t432 ≤ t426))) else (some true)) else (some false)) else (some false)) else (some false))) else (some false)) = some r := H
              have A72 := Aside0.mk A720
              clear A720
              by_cases c73 : (t433 == t439) = true
              · rw [if_pos c73] at H
                have c73b0 : (t433 == t439) = true := c73
                (try (have c73b1 : decide (t433 = t439) = true := by simpa using c73))
                (try (have c73b2 : (t433 == t439) = true := by simpa using c73))
                clear c73
                replace H := lO H
                obtain ⟨t440, A74, H⟩ := H
                by_cases c75 : t440 = true
                · subst c75
                  rw [if_pos rfl] at H
                  by_cases c76 : t431 = t437
                  · rw [if_pos c76] at H
                    have c76b0 : (t431 == t437) = true := beq_iff_eq.mpr c76
                    have c76b1 : (t431 != t437) = false := bne_eq_false_iff_eq.mpr c76
                    clear c76
                    by_cases c77 : t432 = t438
                    · rw [if_pos c77] at H
                      have c77b0 : (t432 == t438) = true := beq_iff_eq.mpr c77
                      have c77b1 : (t432 != t438) = false := bne_eq_false_iff_eq.mpr c77
                      clear c77
                      by_cases c78 : t433 = true
                      · subst c78
                        rw [if_pos rfl] at H
                        obtain rfl := Option.some.inj H
                        as_aux_lemma =>
                         go_wp2_with (first | ((with_reducible refine gate_callee (f := 39) rfl ?_); refine gl_ (some 105) (Try.func39) #[.slice A1 l1.length c1] ?_; (with_reducible refine (spec_DrawRunLined.calls kj25 _ _ l1 t420 t423 t426 _ ?side1 ?side2 A70.out).mono ?_); (case side1 => exact lC (Kd.C_below HR1.out HB.out)); (case side2 => exact HC1.out); rintro e w79 ⟨v421, v424, rfl, ho0, ho1, hb⟩; refine ⟨_, rfl, ?_⟩; have n0_ := Aside0.mk (Kd.R_elder' (lR HO_412000.out) (Kd.R_base ho0) hb); have n1_ := Aside0.mk (Kd.R_elder' (lR HO_412001.out) (Kd.R_base ho1) hb); have n2_ := Aside0.mk (Kd.R_lower (Kd.R_new' ho0 (Kd.R_lt (lR HO_412000.out))) (below_size lB)); have n3_ := Aside0.mk (Kd.R_lower (Kd.R_new' ho1 (Kd.R_lt (lR HO_412001.out))) (below_size lB)); have n4_ := Aside0.mk (blk_below (lK BK411.out) hb); have n5_ := Aside0.mk (below_step lB hb); clear HO_412000; clear HO_412001; clear BK411; clear HB; have HO_412000 := n0_; have HO_412001 := n1_; have HO422 := n2_; have HO425 := n3_; have BK411 := n4_; have HB := n5_; clear n0_ n1_ n2_ n3_ n4_ n5_; (try clear hb); (try clear hb2); (try clear hk); (try clear hi); (try clear ho0); (try clear ho1)) | ((with_reducible refine gate_dst (N := 15) rfl ?_); refine bxe 15 #[.slice none 0 0, .slice none 0 0] 38 ?_; intro gb427 hg w80 hbox hb; have n0_ := Aside0.mk (Kd.R_below (lR HO_412000.out) hb); have n1_ := Aside0.mk (Kd.R_below (lR HO_412001.out) hb); have n2_ := Aside0.mk (Kd.R_below (lR HO422.out) hb); have n3_ := Aside0.mk (Kd.R_below (lR HO425.out) hb); have n4_ := Aside0.mk (blk_below (lK BK411.out) hb); have n5_ := Aside0.mk (below_step lB hb); have n6_ := Aside0.mk (hbox); have n7_ := lG w hg; have n8_ := lG w hg; have n9_ := Aside0.mk ((by rw [hg]; exact Nat.ne_of_lt (blk_lt (lK BK411.out)) : gb411 ≠ gb427)); have n10_ := Aside0.mk ((by rw [hg]; exact Nat.ne_of_gt (blk_lt (lK BK411.out)) : gb427 ≠ gb411)); clear HO_412000; clear HO_412001; clear HO422; clear HO425; clear BK411; clear HB; have HO_412000 := n0_; have HO_412001 := n1_; have HO422 := n2_; have HO425 := n3_; have BK411 := n4_; have HB := n5_; have BK427 := n6_; have GW427 := n7_; have GE427 := n8_; have NB411_427 := n9_; have NB427_411 := n10_; clear n0_ n1_ n2_ n3_ n4_ n5_ n6_ n7_ n8_ n9_ n10_; clear hb hbox hg; obtain ⟨Ao81, co81, eo81⟩ := Kd.R_slice HO422.out; subst eo81; have hnb82 := NB427_411.out; have hnc82 := NB411_427.out; obtain ⟨hcz83_0, hfz83_0, hcz83_1, hfz83_1⟩ := bk2 BK427.out; obtain ⟨Ao84, co84, eo84⟩ := Kd.R_slice HO425.out; subst eo84) | ((with_reducible refine gate_callee (f := 33) rfl ?_); refine gl_ (some 111) (Try.func33) #[.agg #[.slice Ao81 t420.length co81, .slice Ao84 t423.length co84], .int .i64 t426] ?_; (with_reducible refine (impl_RunLined.calls kj25 _ _ t420 _ _ t423 t426 t428 t431 t432 true _ ?side1 ?side2 ?side3 ?side4 A71.out).mono ?_); (case side1 => refine (Kd.R_reads' (e := 86) (base := w.heap.size) (ok := fun k_ => (True ∧ some k_ ≠ (.slice Ao10 t403.length co10 : Value).ownBlock)) (n := t420.length) (c := co81) ?_).2.2; exact (by (with_reducible repeat (first | apply Kd.R_alloc | apply Kd.R_drewN | apply Kd.R_drew)); exact (Kd.R_mono (Kd.R_far (p := ⟨gb427, 1, none⟩) (Kd.R_far (p := ⟨gb427, 0, none⟩) (Kd.R_types HO422.out BK427.out (by decide)) (fun _ hk => hk.2) (.slice Ao81 t420.length co81)) (fun _ hk => hk.2) (.slice Ao84 t423.length co84)) (fun _ h_ => h_.1)))); (case side2 => exact (Kd.R_reads' HO422.out).2.1); (case side3 => refine (Kd.R_reads' (e := 63) (base := w.heap.size) (ok := fun k_ => (True ∧ some k_ ≠ (.slice Ao12 t406.length co12 : Value).ownBlock)) (n := t423.length) (c := co84) ?_).2.2; exact (by (with_reducible repeat (first | apply Kd.R_alloc | apply Kd.R_drewN | apply Kd.R_drew)); exact (Kd.R_mono (Kd.R_far (p := ⟨gb427, 1, none⟩) (Kd.R_far (p := ⟨gb427, 0, none⟩) (Kd.R_types HO425.out BK427.out (by decide)) (fun _ hk => hk.2) (.slice Ao81 t420.length co81)) (fun _ hk => hk.2) (.slice Ao84 t423.length co84)) (fun _ h_ => h_.1)))); (case side4 => exact (Kd.R_reads' HO425.out).2.1); rintro e w85 ⟨v429, rfl, ho0, hb⟩; refine ⟨_, rfl, ?_⟩; have n0_ := Aside0.mk (Kd.R_below (by (with_reducible repeat (first | apply Kd.R_alloc | apply Kd.R_drewN | apply Kd.R_drew)); exact (Kd.R_mono (Kd.R_far (p := ⟨gb427, 1, none⟩) (Kd.R_far (p := ⟨gb427, 0, none⟩) (Kd.R_types HO_412000.out BK427.out (by decide)) (fun _ hk => hk.2) (.slice Ao81 t420.length co81)) (fun _ hk => hk.2) (.slice Ao84 t423.length co84)) (fun _ h_ => h_.1))) hb); have n1_ := Aside0.mk (Kd.R_below (by (with_reducible repeat (first | apply Kd.R_alloc | apply Kd.R_drewN | apply Kd.R_drew)); exact (Kd.R_mono (Kd.R_far (p := ⟨gb427, 1, none⟩) (Kd.R_far (p := ⟨gb427, 0, none⟩) (Kd.R_types HO_412001.out BK427.out (by decide)) (fun _ hk => hk.2) (.slice Ao81 t420.length co81)) (fun _ hk => hk.2) (.slice Ao84 t423.length co84)) (fun _ h_ => h_.1))) hb); have n2_ := Aside0.mk (Kd.R_below (by (with_reducible repeat (first | apply Kd.R_alloc | apply Kd.R_drewN | apply Kd.R_drew)); exact (Kd.R_mono (Kd.R_far (p := ⟨gb427, 1, none⟩) (Kd.R_far (p := ⟨gb427, 0, none⟩) (Kd.R_types HO422.out BK427.out (by decide)) (fun _ hk => hk.2) (.slice Ao81 t420.length co81)) (fun _ hk => hk.2) (.slice Ao84 t423.length co84)) (fun _ h_ => h_.1))) hb); have n3_ := Aside0.mk (Kd.R_below (by (with_reducible repeat (first | apply Kd.R_alloc | apply Kd.R_drewN | apply Kd.R_drew)); exact (Kd.R_mono (Kd.R_far (p := ⟨gb427, 1, none⟩) (Kd.R_far (p := ⟨gb427, 0, none⟩) (Kd.R_types HO425.out BK427.out (by decide)) (fun _ hk => hk.2) (.slice Ao81 t420.length co81)) (fun _ hk => hk.2) (.slice Ao84 t423.length co84)) (fun _ h_ => h_.1))) hb); have n4_ := Aside0.mk (Kd.R_lower ho0 (below_size lB)); have n5_ := Aside0.mk (blk_below (lJ BK411.out) hb); have n6_ := Aside0.mk (blk_below (g := gb427) (o := .cells #[.slice Ao81 t420.length co81, .slice Ao84 t423.length co84] 38 (0, 0)) (by (with_reducible repeat first | apply bN | apply bD | apply bA); refine blk_put (cs := #[.slice Ao81 t420.length co81, .slice none 0 0]) ?_ 1 _ rfl; (with_reducible repeat first | apply bN | apply bD | apply bA); refine blk_put (cs := #[.slice none 0 0, .slice none 0 0]) ?_ 0 _ rfl; (with_reducible repeat first | apply bN | apply bD | apply bA); exact BK427.out) hb); have n7_ := Aside0.mk (below_step lB hb); clear HO_412000; clear HO_412001; clear HO422; clear HO425; clear BK411; clear BK427; clear HB; have HO_412000 := n0_; have HO_412001 := n1_; have HO422 := n2_; have HO425 := n3_; have HO430 := n4_; have BK411 := n5_; have BK427 := n6_; have HB := n7_; clear n0_ n1_ n2_ n3_ n4_ n5_ n6_ n7_; (try clear hb); (try clear hb2); (try clear hk); (try clear hi); (try clear ho0); obtain ⟨hcz86_0, hfz86_0, hcz86_1, hfz86_1⟩ := bk2 BK427.out) | ((with_reducible refine gate_callee (f := 32) rfl ?_); refine gl_ (some 119) (Try.func32) #[.agg #[.slice Ao81 t420.length co81, .slice Ao84 t423.length co84], .int .i64 t426] ?_; (with_reducible refine (spec_RunLined.calls kj25 _ _ t420 _ _ t423 t426 t434 t437 t438 t439 _ ?side1 ?side2 ?side3 ?side4 A72.out).mono ?_); (case side1 => repeat (first | exact (Kd.R_reads' HO422.out).2.2 | (with_reducible refine Kd.C_alloc ?_ _) | (with_reducible refine Kd.C_drewN ?_ _) | (with_reducible refine Kd.C_drew ?_))); (case side2 => exact (Kd.R_reads' HO422.out).2.1); (case side3 => repeat (first | exact (Kd.R_reads' HO425.out).2.2 | (with_reducible refine Kd.C_alloc ?_ _) | (with_reducible refine Kd.C_drewN ?_ _) | (with_reducible refine Kd.C_drew ?_))); (case side4 => exact (Kd.R_reads' HO425.out).2.1); rintro e w87 ⟨v435, rfl, ho0, hb⟩; refine ⟨_, rfl, ?_⟩; have n0_ := Aside0.mk (Kd.R_below (lR HO_412000.out) hb); have n1_ := Aside0.mk (Kd.R_below (lR HO_412001.out) hb); have n2_ := Aside0.mk (Kd.R_below (lR HO422.out) hb); have n3_ := Aside0.mk (Kd.R_below (lR HO425.out) hb); have n4_ := Aside0.mk (Kd.R_elder' (lR HO430.out) (Kd.R_base ho0) hb); have n5_ := Aside0.mk (Kd.R_lower (Kd.R_new' ho0 (Kd.R_lt (lR HO430.out))) (below_size lB)); have n6_ := Aside0.mk (blk_below (lK BK411.out) hb); have n7_ := Aside0.mk (blk_below (lK BK427.out) hb); have n8_ := Aside0.mk (below_step lB hb); clear HO_412000; clear HO_412001; clear HO422; clear HO425; clear HO430; clear BK411; clear BK427; clear HB; have HO_412000 := n0_; have HO_412001 := n1_; have HO422 := n2_; have HO425 := n3_; have HO430 := n4_; have HO436 := n5_; have BK411 := n6_; have BK427 := n7_; have HB := n8_; clear n0_ n1_ n2_ n3_ n4_ n5_ n6_ n7_ n8_; (try clear hb); (try clear hb2); (try clear hk); (try clear hi); (try clear ho0); obtain ⟨Ao88, co88, eo88⟩ := Kd.R_slice HO430.out; subst eo88; obtain ⟨Ao89, co89, eo89⟩ := Kd.R_slice HO436.out; subst eo89) | (go_at_call 40; (with_reducible refine (laws_sameInts.calls kj25 _ _ t428 _ _ t434 true _ ?side1 ?side2 ?side3 ?side4 A74.out).mono ?_); (case side1 => repeat (first | exact (Kd.R_reads' HO430.out).2.2 | (with_reducible refine Kd.C_alloc ?_ _) | (with_reducible refine Kd.C_drewN ?_ _) | (with_reducible refine Kd.C_drew ?_))); (case side2 => exact (Kd.R_reads' HO430.out).2.1); (case side3 => repeat (first | exact (Kd.R_reads' HO436.out).2.2 | (with_reducible refine Kd.C_alloc ?_ _) | (with_reducible refine Kd.C_drewN ?_ _) | (with_reducible refine Kd.C_drew ?_))); (case side4 => exact (Kd.R_reads' HO436.out).2.1); rintro e w' ⟨rfl, ⟨nd, rfl⟩⟩))
                         go_ret
                         exact ⟨lE, lB⟩
                      · replace c78 := Bool.eq_false_iff.mpr c78
                        subst c78
                        rw [if_neg (show ¬ (false = true) by decide)] at H
                        obtain rfl := Option.some.inj H
                        as_aux_lemma =>
                         go_wp2_with (first | ((with_reducible refine gate_callee (f := 39) rfl ?_); refine gl_ (some 105) (Try.func39) #[.slice A1 l1.length c1] ?_; (with_reducible refine (spec_DrawRunLined.calls kj25 _ _ l1 t420 t423 t426 _ ?side1 ?side2 A70.out).mono ?_); (case side1 => exact lC (Kd.C_below HR1.out HB.out)); (case side2 => exact HC1.out); rintro e w90 ⟨v421, v424, rfl, ho0, ho1, hb⟩; refine ⟨_, rfl, ?_⟩; have n0_ := Aside0.mk (Kd.R_elder' (lR HO_412000.out) (Kd.R_base ho0) hb); have n1_ := Aside0.mk (Kd.R_elder' (lR HO_412001.out) (Kd.R_base ho1) hb); have n2_ := Aside0.mk (Kd.R_lower (Kd.R_new' ho0 (Kd.R_lt (lR HO_412000.out))) (below_size lB)); have n3_ := Aside0.mk (Kd.R_lower (Kd.R_new' ho1 (Kd.R_lt (lR HO_412001.out))) (below_size lB)); have n4_ := Aside0.mk (blk_below (lK BK411.out) hb); have n5_ := Aside0.mk (below_step lB hb); clear HO_412000; clear HO_412001; clear BK411; clear HB; have HO_412000 := n0_; have HO_412001 := n1_; have HO422 := n2_; have HO425 := n3_; have BK411 := n4_; have HB := n5_; clear n0_ n1_ n2_ n3_ n4_ n5_; (try clear hb); (try clear hb2); (try clear hk); (try clear hi); (try clear ho0); (try clear ho1)) | ((with_reducible refine gate_dst (N := 15) rfl ?_); refine bxe 15 #[.slice none 0 0, .slice none 0 0] 38 ?_; intro gb427 hg w91 hbox hb; have n0_ := Aside0.mk (Kd.R_below (lR HO_412000.out) hb); have n1_ := Aside0.mk (Kd.R_below (lR HO_412001.out) hb); have n2_ := Aside0.mk (Kd.R_below (lR HO422.out) hb); have n3_ := Aside0.mk (Kd.R_below (lR HO425.out) hb); have n4_ := Aside0.mk (blk_below (lK BK411.out) hb); have n5_ := Aside0.mk (below_step lB hb); have n6_ := Aside0.mk (hbox); have n7_ := lG w hg; have n8_ := lG w hg; have n9_ := Aside0.mk ((by rw [hg]; exact Nat.ne_of_lt (blk_lt (lK BK411.out)) : gb411 ≠ gb427)); have n10_ := Aside0.mk ((by rw [hg]; exact Nat.ne_of_gt (blk_lt (lK BK411.out)) : gb427 ≠ gb411)); clear HO_412000; clear HO_412001; clear HO422; clear HO425; clear BK411; clear HB; have HO_412000 := n0_; have HO_412001 := n1_; have HO422 := n2_; have HO425 := n3_; have BK411 := n4_; have HB := n5_; have BK427 := n6_; have GW427 := n7_; have GE427 := n8_; have NB411_427 := n9_; have NB427_411 := n10_; clear n0_ n1_ n2_ n3_ n4_ n5_ n6_ n7_ n8_ n9_ n10_; clear hb hbox hg; obtain ⟨Ao92, co92, eo92⟩ := Kd.R_slice HO422.out; subst eo92; have hnb93 := NB427_411.out; have hnc93 := NB411_427.out; obtain ⟨hcz94_0, hfz94_0, hcz94_1, hfz94_1⟩ := bk2 BK427.out; obtain ⟨Ao95, co95, eo95⟩ := Kd.R_slice HO425.out; subst eo95) | ((with_reducible refine gate_callee (f := 33) rfl ?_); refine gl_ (some 111) (Try.func33) #[.agg #[.slice Ao92 t420.length co92, .slice Ao95 t423.length co95], .int .i64 t426] ?_; (with_reducible refine (impl_RunLined.calls kj25 _ _ t420 _ _ t423 t426 t428 t431 t432 false _ ?side1 ?side2 ?side3 ?side4 A71.out).mono ?_); (case side1 => refine (Kd.R_reads' (e := 86) (base := w.heap.size) (ok := fun k_ => (True ∧ some k_ ≠ (.slice Ao10 t403.length co10 : Value).ownBlock)) (n := t420.length) (c := co92) ?_).2.2; exact (by (with_reducible repeat (first | apply Kd.R_alloc | apply Kd.R_drewN | apply Kd.R_drew)); exact (Kd.R_mono (Kd.R_far (p := ⟨gb427, 1, none⟩) (Kd.R_far (p := ⟨gb427, 0, none⟩) (Kd.R_types HO422.out BK427.out (by decide)) (fun _ hk => hk.2) (.slice Ao92 t420.length co92)) (fun _ hk => hk.2) (.slice Ao95 t423.length co95)) (fun _ h_ => h_.1)))); (case side2 => exact (Kd.R_reads' HO422.out).2.1); (case side3 => refine (Kd.R_reads' (e := 63) (base := w.heap.size) (ok := fun k_ => (True ∧ some k_ ≠ (.slice Ao12 t406.length co12 : Value).ownBlock)) (n := t423.length) (c := co95) ?_).2.2; exact (by (with_reducible repeat (first | apply Kd.R_alloc | apply Kd.R_drewN | apply Kd.R_drew)); exact (Kd.R_mono (Kd.R_far (p := ⟨gb427, 1, none⟩) (Kd.R_far (p := ⟨gb427, 0, none⟩) (Kd.R_types HO425.out BK427.out (by decide)) (fun _ hk => hk.2) (.slice Ao92 t420.length co92)) (fun _ hk => hk.2) (.slice Ao95 t423.length co95)) (fun _ h_ => h_.1)))); (case side4 => exact (Kd.R_reads' HO425.out).2.1); rintro e w96 ⟨v429, rfl, ho0, hb⟩; refine ⟨_, rfl, ?_⟩; have n0_ := Aside0.mk (Kd.R_below (by (with_reducible repeat (first | apply Kd.R_alloc | apply Kd.R_drewN | apply Kd.R_drew)); exact (Kd.R_mono (Kd.R_far (p := ⟨gb427, 1, none⟩) (Kd.R_far (p := ⟨gb427, 0, none⟩) (Kd.R_types HO_412000.out BK427.out (by decide)) (fun _ hk => hk.2) (.slice Ao92 t420.length co92)) (fun _ hk => hk.2) (.slice Ao95 t423.length co95)) (fun _ h_ => h_.1))) hb); have n1_ := Aside0.mk (Kd.R_below (by (with_reducible repeat (first | apply Kd.R_alloc | apply Kd.R_drewN | apply Kd.R_drew)); exact (Kd.R_mono (Kd.R_far (p := ⟨gb427, 1, none⟩) (Kd.R_far (p := ⟨gb427, 0, none⟩) (Kd.R_types HO_412001.out BK427.out (by decide)) (fun _ hk => hk.2) (.slice Ao92 t420.length co92)) (fun _ hk => hk.2) (.slice Ao95 t423.length co95)) (fun _ h_ => h_.1))) hb); have n2_ := Aside0.mk (Kd.R_below (by (with_reducible repeat (first | apply Kd.R_alloc | apply Kd.R_drewN | apply Kd.R_drew)); exact (Kd.R_mono (Kd.R_far (p := ⟨gb427, 1, none⟩) (Kd.R_far (p := ⟨gb427, 0, none⟩) (Kd.R_types HO422.out BK427.out (by decide)) (fun _ hk => hk.2) (.slice Ao92 t420.length co92)) (fun _ hk => hk.2) (.slice Ao95 t423.length co95)) (fun _ h_ => h_.1))) hb); have n3_ := Aside0.mk (Kd.R_below (by (with_reducible repeat (first | apply Kd.R_alloc | apply Kd.R_drewN | apply Kd.R_drew)); exact (Kd.R_mono (Kd.R_far (p := ⟨gb427, 1, none⟩) (Kd.R_far (p := ⟨gb427, 0, none⟩) (Kd.R_types HO425.out BK427.out (by decide)) (fun _ hk => hk.2) (.slice Ao92 t420.length co92)) (fun _ hk => hk.2) (.slice Ao95 t423.length co95)) (fun _ h_ => h_.1))) hb); have n4_ := Aside0.mk (Kd.R_lower ho0 (below_size lB)); have n5_ := Aside0.mk (blk_below (lJ BK411.out) hb); have n6_ := Aside0.mk (blk_below (g := gb427) (o := .cells #[.slice Ao92 t420.length co92, .slice Ao95 t423.length co95] 38 (0, 0)) (by (with_reducible repeat first | apply bN | apply bD | apply bA); refine blk_put (cs := #[.slice Ao92 t420.length co92, .slice none 0 0]) ?_ 1 _ rfl; (with_reducible repeat first | apply bN | apply bD | apply bA); refine blk_put (cs := #[.slice none 0 0, .slice none 0 0]) ?_ 0 _ rfl; (with_reducible repeat first | apply bN | apply bD | apply bA); exact BK427.out) hb); have n7_ := Aside0.mk (below_step lB hb); clear HO_412000; clear HO_412001; clear HO422; clear HO425; clear BK411; clear BK427; clear HB; have HO_412000 := n0_; have HO_412001 := n1_; have HO422 := n2_; have HO425 := n3_; have HO430 := n4_; have BK411 := n5_; have BK427 := n6_; have HB := n7_; clear n0_ n1_ n2_ n3_ n4_ n5_ n6_ n7_; (try clear hb); (try clear hb2); (try clear hk); (try clear hi); (try clear ho0); obtain ⟨hcz97_0, hfz97_0, hcz97_1, hfz97_1⟩ := bk2 BK427.out) | ((with_reducible refine gate_callee (f := 32) rfl ?_); refine gl_ (some 119) (Try.func32) #[.agg #[.slice Ao92 t420.length co92, .slice Ao95 t423.length co95], .int .i64 t426] ?_; (with_reducible refine (spec_RunLined.calls kj25 _ _ t420 _ _ t423 t426 t434 t437 t438 t439 _ ?side1 ?side2 ?side3 ?side4 A72.out).mono ?_); (case side1 => repeat (first | exact (Kd.R_reads' HO422.out).2.2 | (with_reducible refine Kd.C_alloc ?_ _) | (with_reducible refine Kd.C_drewN ?_ _) | (with_reducible refine Kd.C_drew ?_))); (case side2 => exact (Kd.R_reads' HO422.out).2.1); (case side3 => repeat (first | exact (Kd.R_reads' HO425.out).2.2 | (with_reducible refine Kd.C_alloc ?_ _) | (with_reducible refine Kd.C_drewN ?_ _) | (with_reducible refine Kd.C_drew ?_))); (case side4 => exact (Kd.R_reads' HO425.out).2.1); rintro e w98 ⟨v435, rfl, ho0, hb⟩; refine ⟨_, rfl, ?_⟩; have n0_ := Aside0.mk (Kd.R_below (lR HO_412000.out) hb); have n1_ := Aside0.mk (Kd.R_below (lR HO_412001.out) hb); have n2_ := Aside0.mk (Kd.R_below (lR HO422.out) hb); have n3_ := Aside0.mk (Kd.R_below (lR HO425.out) hb); have n4_ := Aside0.mk (Kd.R_elder' (lR HO430.out) (Kd.R_base ho0) hb); have n5_ := Aside0.mk (Kd.R_lower (Kd.R_new' ho0 (Kd.R_lt (lR HO430.out))) (below_size lB)); have n6_ := Aside0.mk (blk_below (lK BK411.out) hb); have n7_ := Aside0.mk (blk_below (lK BK427.out) hb); have n8_ := Aside0.mk (below_step lB hb); clear HO_412000; clear HO_412001; clear HO422; clear HO425; clear HO430; clear BK411; clear BK427; clear HB; have HO_412000 := n0_; have HO_412001 := n1_; have HO422 := n2_; have HO425 := n3_; have HO430 := n4_; have HO436 := n5_; have BK411 := n6_; have BK427 := n7_; have HB := n8_; clear n0_ n1_ n2_ n3_ n4_ n5_ n6_ n7_ n8_; (try clear hb); (try clear hb2); (try clear hk); (try clear hi); (try clear ho0); obtain ⟨Ao99, co99, eo99⟩ := Kd.R_slice HO430.out; subst eo99; obtain ⟨Ao100, co100, eo100⟩ := Kd.R_slice HO436.out; subst eo100) | (go_at_call 40; (with_reducible refine (laws_sameInts.calls kj25 _ _ t428 _ _ t434 true _ ?side1 ?side2 ?side3 ?side4 A74.out).mono ?_); (case side1 => repeat (first | exact (Kd.R_reads' HO430.out).2.2 | (with_reducible refine Kd.C_alloc ?_ _) | (with_reducible refine Kd.C_drewN ?_ _) | (with_reducible refine Kd.C_drew ?_))); (case side2 => exact (Kd.R_reads' HO430.out).2.1); (case side3 => repeat (first | exact (Kd.R_reads' HO436.out).2.2 | (with_reducible refine Kd.C_alloc ?_ _) | (with_reducible refine Kd.C_drewN ?_ _) | (with_reducible refine Kd.C_drew ?_))); (case side4 => exact (Kd.R_reads' HO436.out).2.1); rintro e w' ⟨rfl, ⟨nd, rfl⟩⟩))
                         go_ret
                         exact ⟨lE, lB⟩
                    · rw [if_neg c77] at H
                      have c77b0 : (t432 == t438) = false := beq_eq_false_iff_ne.mpr c77
                      have c77b1 : (t432 != t438) = true := bne_iff_ne.mpr c77
                      obtain rfl := Option.some.inj H
                      as_aux_lemma =>
                       go_wp2_with (first | ((with_reducible refine gate_callee (f := 39) rfl ?_); refine gl_ (some 105) (Try.func39) #[.slice A1 l1.length c1] ?_; (with_reducible refine (spec_DrawRunLined.calls kj25 _ _ l1 t420 t423 t426 _ ?side1 ?side2 A70.out).mono ?_); (case side1 => exact lC (Kd.C_below HR1.out HB.out)); (case side2 => exact HC1.out); rintro e w101 ⟨v421, v424, rfl, ho0, ho1, hb⟩; refine ⟨_, rfl, ?_⟩; have n0_ := Aside0.mk (Kd.R_elder' (lR HO_412000.out) (Kd.R_base ho0) hb); have n1_ := Aside0.mk (Kd.R_elder' (lR HO_412001.out) (Kd.R_base ho1) hb); have n2_ := Aside0.mk (Kd.R_lower (Kd.R_new' ho0 (Kd.R_lt (lR HO_412000.out))) (below_size lB)); have n3_ := Aside0.mk (Kd.R_lower (Kd.R_new' ho1 (Kd.R_lt (lR HO_412001.out))) (below_size lB)); have n4_ := Aside0.mk (blk_below (lK BK411.out) hb); have n5_ := Aside0.mk (below_step lB hb); clear HO_412000; clear HO_412001; clear BK411; clear HB; have HO_412000 := n0_; have HO_412001 := n1_; have HO422 := n2_; have HO425 := n3_; have BK411 := n4_; have HB := n5_; clear n0_ n1_ n2_ n3_ n4_ n5_; (try clear hb); (try clear hb2); (try clear hk); (try clear hi); (try clear ho0); (try clear ho1)) | ((with_reducible refine gate_dst (N := 15) rfl ?_); refine bxe 15 #[.slice none 0 0, .slice none 0 0] 38 ?_; intro gb427 hg w102 hbox hb; have n0_ := Aside0.mk (Kd.R_below (lR HO_412000.out) hb); have n1_ := Aside0.mk (Kd.R_below (lR HO_412001.out) hb); have n2_ := Aside0.mk (Kd.R_below (lR HO422.out) hb); have n3_ := Aside0.mk (Kd.R_below (lR HO425.out) hb); have n4_ := Aside0.mk (blk_below (lK BK411.out) hb); have n5_ := Aside0.mk (below_step lB hb); have n6_ := Aside0.mk (hbox); have n7_ := lG w hg; have n8_ := lG w hg; have n9_ := Aside0.mk ((by rw [hg]; exact Nat.ne_of_lt (blk_lt (lK BK411.out)) : gb411 ≠ gb427)); have n10_ := Aside0.mk ((by rw [hg]; exact Nat.ne_of_gt (blk_lt (lK BK411.out)) : gb427 ≠ gb411)); clear HO_412000; clear HO_412001; clear HO422; clear HO425; clear BK411; clear HB; have HO_412000 := n0_; have HO_412001 := n1_; have HO422 := n2_; have HO425 := n3_; have BK411 := n4_; have HB := n5_; have BK427 := n6_; have GW427 := n7_; have GE427 := n8_; have NB411_427 := n9_; have NB427_411 := n10_; clear n0_ n1_ n2_ n3_ n4_ n5_ n6_ n7_ n8_ n9_ n10_; clear hb hbox hg; obtain ⟨Ao103, co103, eo103⟩ := Kd.R_slice HO422.out; subst eo103; have hnb104 := NB427_411.out; have hnc104 := NB411_427.out; obtain ⟨hcz105_0, hfz105_0, hcz105_1, hfz105_1⟩ := bk2 BK427.out; obtain ⟨Ao106, co106, eo106⟩ := Kd.R_slice HO425.out; subst eo106) | ((with_reducible refine gate_callee (f := 33) rfl ?_); refine gl_ (some 111) (Try.func33) #[.agg #[.slice Ao103 t420.length co103, .slice Ao106 t423.length co106], .int .i64 t426] ?_; (with_reducible refine (impl_RunLined.calls kj25 _ _ t420 _ _ t423 t426 t428 t431 t432 t433 _ ?side1 ?side2 ?side3 ?side4 A71.out).mono ?_); (case side1 => refine (Kd.R_reads' (e := 86) (base := w.heap.size) (ok := fun k_ => (True ∧ some k_ ≠ (.slice Ao10 t403.length co10 : Value).ownBlock)) (n := t420.length) (c := co103) ?_).2.2; exact (by (with_reducible repeat (first | apply Kd.R_alloc | apply Kd.R_drewN | apply Kd.R_drew)); exact (Kd.R_mono (Kd.R_far (p := ⟨gb427, 1, none⟩) (Kd.R_far (p := ⟨gb427, 0, none⟩) (Kd.R_types HO422.out BK427.out (by decide)) (fun _ hk => hk.2) (.slice Ao103 t420.length co103)) (fun _ hk => hk.2) (.slice Ao106 t423.length co106)) (fun _ h_ => h_.1)))); (case side2 => exact (Kd.R_reads' HO422.out).2.1); (case side3 => refine (Kd.R_reads' (e := 63) (base := w.heap.size) (ok := fun k_ => (True ∧ some k_ ≠ (.slice Ao12 t406.length co12 : Value).ownBlock)) (n := t423.length) (c := co106) ?_).2.2; exact (by (with_reducible repeat (first | apply Kd.R_alloc | apply Kd.R_drewN | apply Kd.R_drew)); exact (Kd.R_mono (Kd.R_far (p := ⟨gb427, 1, none⟩) (Kd.R_far (p := ⟨gb427, 0, none⟩) (Kd.R_types HO425.out BK427.out (by decide)) (fun _ hk => hk.2) (.slice Ao103 t420.length co103)) (fun _ hk => hk.2) (.slice Ao106 t423.length co106)) (fun _ h_ => h_.1)))); (case side4 => exact (Kd.R_reads' HO425.out).2.1); rintro e w107 ⟨v429, rfl, ho0, hb⟩; refine ⟨_, rfl, ?_⟩; have n0_ := Aside0.mk (Kd.R_below (by (with_reducible repeat (first | apply Kd.R_alloc | apply Kd.R_drewN | apply Kd.R_drew)); exact (Kd.R_mono (Kd.R_far (p := ⟨gb427, 1, none⟩) (Kd.R_far (p := ⟨gb427, 0, none⟩) (Kd.R_types HO_412000.out BK427.out (by decide)) (fun _ hk => hk.2) (.slice Ao103 t420.length co103)) (fun _ hk => hk.2) (.slice Ao106 t423.length co106)) (fun _ h_ => h_.1))) hb); have n1_ := Aside0.mk (Kd.R_below (by (with_reducible repeat (first | apply Kd.R_alloc | apply Kd.R_drewN | apply Kd.R_drew)); exact (Kd.R_mono (Kd.R_far (p := ⟨gb427, 1, none⟩) (Kd.R_far (p := ⟨gb427, 0, none⟩) (Kd.R_types HO_412001.out BK427.out (by decide)) (fun _ hk => hk.2) (.slice Ao103 t420.length co103)) (fun _ hk => hk.2) (.slice Ao106 t423.length co106)) (fun _ h_ => h_.1))) hb); have n2_ := Aside0.mk (Kd.R_below (by (with_reducible repeat (first | apply Kd.R_alloc | apply Kd.R_drewN | apply Kd.R_drew)); exact (Kd.R_mono (Kd.R_far (p := ⟨gb427, 1, none⟩) (Kd.R_far (p := ⟨gb427, 0, none⟩) (Kd.R_types HO422.out BK427.out (by decide)) (fun _ hk => hk.2) (.slice Ao103 t420.length co103)) (fun _ hk => hk.2) (.slice Ao106 t423.length co106)) (fun _ h_ => h_.1))) hb); have n3_ := Aside0.mk (Kd.R_below (by (with_reducible repeat (first | apply Kd.R_alloc | apply Kd.R_drewN | apply Kd.R_drew)); exact (Kd.R_mono (Kd.R_far (p := ⟨gb427, 1, none⟩) (Kd.R_far (p := ⟨gb427, 0, none⟩) (Kd.R_types HO425.out BK427.out (by decide)) (fun _ hk => hk.2) (.slice Ao103 t420.length co103)) (fun _ hk => hk.2) (.slice Ao106 t423.length co106)) (fun _ h_ => h_.1))) hb); have n4_ := Aside0.mk (Kd.R_lower ho0 (below_size lB)); have n5_ := Aside0.mk (blk_below (lJ BK411.out) hb); have n6_ := Aside0.mk (blk_below (g := gb427) (o := .cells #[.slice Ao103 t420.length co103, .slice Ao106 t423.length co106] 38 (0, 0)) (by (with_reducible repeat first | apply bN | apply bD | apply bA); refine blk_put (cs := #[.slice Ao103 t420.length co103, .slice none 0 0]) ?_ 1 _ rfl; (with_reducible repeat first | apply bN | apply bD | apply bA); refine blk_put (cs := #[.slice none 0 0, .slice none 0 0]) ?_ 0 _ rfl; (with_reducible repeat first | apply bN | apply bD | apply bA); exact BK427.out) hb); have n7_ := Aside0.mk (below_step lB hb); clear HO_412000; clear HO_412001; clear HO422; clear HO425; clear BK411; clear BK427; clear HB; have HO_412000 := n0_; have HO_412001 := n1_; have HO422 := n2_; have HO425 := n3_; have HO430 := n4_; have BK411 := n5_; have BK427 := n6_; have HB := n7_; clear n0_ n1_ n2_ n3_ n4_ n5_ n6_ n7_; (try clear hb); (try clear hb2); (try clear hk); (try clear hi); (try clear ho0); obtain ⟨hcz108_0, hfz108_0, hcz108_1, hfz108_1⟩ := bk2 BK427.out) | ((with_reducible refine gate_callee (f := 32) rfl ?_); refine gl_ (some 119) (Try.func32) #[.agg #[.slice Ao103 t420.length co103, .slice Ao106 t423.length co106], .int .i64 t426] ?_; (with_reducible refine (spec_RunLined.calls kj25 _ _ t420 _ _ t423 t426 t434 t437 t438 t439 _ ?side1 ?side2 ?side3 ?side4 A72.out).mono ?_); (case side1 => repeat (first | exact (Kd.R_reads' HO422.out).2.2 | (with_reducible refine Kd.C_alloc ?_ _) | (with_reducible refine Kd.C_drewN ?_ _) | (with_reducible refine Kd.C_drew ?_))); (case side2 => exact (Kd.R_reads' HO422.out).2.1); (case side3 => repeat (first | exact (Kd.R_reads' HO425.out).2.2 | (with_reducible refine Kd.C_alloc ?_ _) | (with_reducible refine Kd.C_drewN ?_ _) | (with_reducible refine Kd.C_drew ?_))); (case side4 => exact (Kd.R_reads' HO425.out).2.1); rintro e w109 ⟨v435, rfl, ho0, hb⟩; refine ⟨_, rfl, ?_⟩; have n0_ := Aside0.mk (Kd.R_below (lR HO_412000.out) hb); have n1_ := Aside0.mk (Kd.R_below (lR HO_412001.out) hb); have n2_ := Aside0.mk (Kd.R_below (lR HO422.out) hb); have n3_ := Aside0.mk (Kd.R_below (lR HO425.out) hb); have n4_ := Aside0.mk (Kd.R_elder' (lR HO430.out) (Kd.R_base ho0) hb); have n5_ := Aside0.mk (Kd.R_lower (Kd.R_new' ho0 (Kd.R_lt (lR HO430.out))) (below_size lB)); have n6_ := Aside0.mk (blk_below (lK BK411.out) hb); have n7_ := Aside0.mk (blk_below (lK BK427.out) hb); have n8_ := Aside0.mk (below_step lB hb); clear HO_412000; clear HO_412001; clear HO422; clear HO425; clear HO430; clear BK411; clear BK427; clear HB; have HO_412000 := n0_; have HO_412001 := n1_; have HO422 := n2_; have HO425 := n3_; have HO430 := n4_; have HO436 := n5_; have BK411 := n6_; have BK427 := n7_; have HB := n8_; clear n0_ n1_ n2_ n3_ n4_ n5_ n6_ n7_ n8_; (try clear hb); (try clear hb2); (try clear hk); (try clear hi); (try clear ho0); obtain ⟨Ao110, co110, eo110⟩ := Kd.R_slice HO430.out; subst eo110; obtain ⟨Ao111, co111, eo111⟩ := Kd.R_slice HO436.out; subst eo111) | (go_at_call 40; (with_reducible refine (laws_sameInts.calls kj25 _ _ t428 _ _ t434 true _ ?side1 ?side2 ?side3 ?side4 A74.out).mono ?_); (case side1 => repeat (first | exact (Kd.R_reads' HO430.out).2.2 | (with_reducible refine Kd.C_alloc ?_ _) | (with_reducible refine Kd.C_drewN ?_ _) | (with_reducible refine Kd.C_drew ?_))); (case side2 => exact (Kd.R_reads' HO430.out).2.1); (case side3 => repeat (first | exact (Kd.R_reads' HO436.out).2.2 | (with_reducible refine Kd.C_alloc ?_ _) | (with_reducible refine Kd.C_drewN ?_ _) | (with_reducible refine Kd.C_drew ?_))); (case side4 => exact (Kd.R_reads' HO436.out).2.1); rintro e w' ⟨rfl, ⟨nd, rfl⟩⟩))
                       go_ret
                       exact ⟨lE, lB⟩
                  · rw [if_neg c76] at H
                    have c76b0 : (t431 == t437) = false := beq_eq_false_iff_ne.mpr c76
                    have c76b1 : (t431 != t437) = true := bne_iff_ne.mpr c76
                    obtain rfl := Option.some.inj H
                    as_aux_lemma =>
                     go_wp2_with (first | ((with_reducible refine gate_callee (f := 39) rfl ?_); refine gl_ (some 105) (Try.func39) #[.slice A1 l1.length c1] ?_; (with_reducible refine (spec_DrawRunLined.calls kj25 _ _ l1 t420 t423 t426 _ ?side1 ?side2 A70.out).mono ?_); (case side1 => exact lC (Kd.C_below HR1.out HB.out)); (case side2 => exact HC1.out); rintro e w112 ⟨v421, v424, rfl, ho0, ho1, hb⟩; refine ⟨_, rfl, ?_⟩; have n0_ := Aside0.mk (Kd.R_elder' (lR HO_412000.out) (Kd.R_base ho0) hb); have n1_ := Aside0.mk (Kd.R_elder' (lR HO_412001.out) (Kd.R_base ho1) hb); have n2_ := Aside0.mk (Kd.R_lower (Kd.R_new' ho0 (Kd.R_lt (lR HO_412000.out))) (below_size lB)); have n3_ := Aside0.mk (Kd.R_lower (Kd.R_new' ho1 (Kd.R_lt (lR HO_412001.out))) (below_size lB)); have n4_ := Aside0.mk (blk_below (lK BK411.out) hb); have n5_ := Aside0.mk (below_step lB hb); clear HO_412000; clear HO_412001; clear BK411; clear HB; have HO_412000 := n0_; have HO_412001 := n1_; have HO422 := n2_; have HO425 := n3_; have BK411 := n4_; have HB := n5_; clear n0_ n1_ n2_ n3_ n4_ n5_; (try clear hb); (try clear hb2); (try clear hk); (try clear hi); (try clear ho0); (try clear ho1)) | ((with_reducible refine gate_dst (N := 15) rfl ?_); refine bxe 15 #[.slice none 0 0, .slice none 0 0] 38 ?_; intro gb427 hg w113 hbox hb; have n0_ := Aside0.mk (Kd.R_below (lR HO_412000.out) hb); have n1_ := Aside0.mk (Kd.R_below (lR HO_412001.out) hb); have n2_ := Aside0.mk (Kd.R_below (lR HO422.out) hb); have n3_ := Aside0.mk (Kd.R_below (lR HO425.out) hb); have n4_ := Aside0.mk (blk_below (lK BK411.out) hb); have n5_ := Aside0.mk (below_step lB hb); have n6_ := Aside0.mk (hbox); have n7_ := lG w hg; have n8_ := lG w hg; have n9_ := Aside0.mk ((by rw [hg]; exact Nat.ne_of_lt (blk_lt (lK BK411.out)) : gb411 ≠ gb427)); have n10_ := Aside0.mk ((by rw [hg]; exact Nat.ne_of_gt (blk_lt (lK BK411.out)) : gb427 ≠ gb411)); clear HO_412000; clear HO_412001; clear HO422; clear HO425; clear BK411; clear HB; have HO_412000 := n0_; have HO_412001 := n1_; have HO422 := n2_; have HO425 := n3_; have BK411 := n4_; have HB := n5_; have BK427 := n6_; have GW427 := n7_; have GE427 := n8_; have NB411_427 := n9_; have NB427_411 := n10_; clear n0_ n1_ n2_ n3_ n4_ n5_ n6_ n7_ n8_ n9_ n10_; clear hb hbox hg; obtain ⟨Ao114, co114, eo114⟩ := Kd.R_slice HO422.out; subst eo114; have hnb115 := NB427_411.out; have hnc115 := NB411_427.out; obtain ⟨hcz116_0, hfz116_0, hcz116_1, hfz116_1⟩ := bk2 BK427.out; obtain ⟨Ao117, co117, eo117⟩ := Kd.R_slice HO425.out; subst eo117) | ((with_reducible refine gate_callee (f := 33) rfl ?_); refine gl_ (some 111) (Try.func33) #[.agg #[.slice Ao114 t420.length co114, .slice Ao117 t423.length co117], .int .i64 t426] ?_; (with_reducible refine (impl_RunLined.calls kj25 _ _ t420 _ _ t423 t426 t428 t431 t432 t433 _ ?side1 ?side2 ?side3 ?side4 A71.out).mono ?_); (case side1 => refine (Kd.R_reads' (e := 86) (base := w.heap.size) (ok := fun k_ => (True ∧ some k_ ≠ (.slice Ao10 t403.length co10 : Value).ownBlock)) (n := t420.length) (c := co114) ?_).2.2; exact (by (with_reducible repeat (first | apply Kd.R_alloc | apply Kd.R_drewN | apply Kd.R_drew)); exact (Kd.R_mono (Kd.R_far (p := ⟨gb427, 1, none⟩) (Kd.R_far (p := ⟨gb427, 0, none⟩) (Kd.R_types HO422.out BK427.out (by decide)) (fun _ hk => hk.2) (.slice Ao114 t420.length co114)) (fun _ hk => hk.2) (.slice Ao117 t423.length co117)) (fun _ h_ => h_.1)))); (case side2 => exact (Kd.R_reads' HO422.out).2.1); (case side3 => refine (Kd.R_reads' (e := 63) (base := w.heap.size) (ok := fun k_ => (True ∧ some k_ ≠ (.slice Ao12 t406.length co12 : Value).ownBlock)) (n := t423.length) (c := co117) ?_).2.2; exact (by (with_reducible repeat (first | apply Kd.R_alloc | apply Kd.R_drewN | apply Kd.R_drew)); exact (Kd.R_mono (Kd.R_far (p := ⟨gb427, 1, none⟩) (Kd.R_far (p := ⟨gb427, 0, none⟩) (Kd.R_types HO425.out BK427.out (by decide)) (fun _ hk => hk.2) (.slice Ao114 t420.length co114)) (fun _ hk => hk.2) (.slice Ao117 t423.length co117)) (fun _ h_ => h_.1)))); (case side4 => exact (Kd.R_reads' HO425.out).2.1); rintro e w118 ⟨v429, rfl, ho0, hb⟩; refine ⟨_, rfl, ?_⟩; have n0_ := Aside0.mk (Kd.R_below (by (with_reducible repeat (first | apply Kd.R_alloc | apply Kd.R_drewN | apply Kd.R_drew)); exact (Kd.R_mono (Kd.R_far (p := ⟨gb427, 1, none⟩) (Kd.R_far (p := ⟨gb427, 0, none⟩) (Kd.R_types HO_412000.out BK427.out (by decide)) (fun _ hk => hk.2) (.slice Ao114 t420.length co114)) (fun _ hk => hk.2) (.slice Ao117 t423.length co117)) (fun _ h_ => h_.1))) hb); have n1_ := Aside0.mk (Kd.R_below (by (with_reducible repeat (first | apply Kd.R_alloc | apply Kd.R_drewN | apply Kd.R_drew)); exact (Kd.R_mono (Kd.R_far (p := ⟨gb427, 1, none⟩) (Kd.R_far (p := ⟨gb427, 0, none⟩) (Kd.R_types HO_412001.out BK427.out (by decide)) (fun _ hk => hk.2) (.slice Ao114 t420.length co114)) (fun _ hk => hk.2) (.slice Ao117 t423.length co117)) (fun _ h_ => h_.1))) hb); have n2_ := Aside0.mk (Kd.R_below (by (with_reducible repeat (first | apply Kd.R_alloc | apply Kd.R_drewN | apply Kd.R_drew)); exact (Kd.R_mono (Kd.R_far (p := ⟨gb427, 1, none⟩) (Kd.R_far (p := ⟨gb427, 0, none⟩) (Kd.R_types HO422.out BK427.out (by decide)) (fun _ hk => hk.2) (.slice Ao114 t420.length co114)) (fun _ hk => hk.2) (.slice Ao117 t423.length co117)) (fun _ h_ => h_.1))) hb); have n3_ := Aside0.mk (Kd.R_below (by (with_reducible repeat (first | apply Kd.R_alloc | apply Kd.R_drewN | apply Kd.R_drew)); exact (Kd.R_mono (Kd.R_far (p := ⟨gb427, 1, none⟩) (Kd.R_far (p := ⟨gb427, 0, none⟩) (Kd.R_types HO425.out BK427.out (by decide)) (fun _ hk => hk.2) (.slice Ao114 t420.length co114)) (fun _ hk => hk.2) (.slice Ao117 t423.length co117)) (fun _ h_ => h_.1))) hb); have n4_ := Aside0.mk (Kd.R_lower ho0 (below_size lB)); have n5_ := Aside0.mk (blk_below (lJ BK411.out) hb); have n6_ := Aside0.mk (blk_below (g := gb427) (o := .cells #[.slice Ao114 t420.length co114, .slice Ao117 t423.length co117] 38 (0, 0)) (by (with_reducible repeat first | apply bN | apply bD | apply bA); refine blk_put (cs := #[.slice Ao114 t420.length co114, .slice none 0 0]) ?_ 1 _ rfl; (with_reducible repeat first | apply bN | apply bD | apply bA); refine blk_put (cs := #[.slice none 0 0, .slice none 0 0]) ?_ 0 _ rfl; (with_reducible repeat first | apply bN | apply bD | apply bA); exact BK427.out) hb); have n7_ := Aside0.mk (below_step lB hb); clear HO_412000; clear HO_412001; clear HO422; clear HO425; clear BK411; clear BK427; clear HB; have HO_412000 := n0_; have HO_412001 := n1_; have HO422 := n2_; have HO425 := n3_; have HO430 := n4_; have BK411 := n5_; have BK427 := n6_; have HB := n7_; clear n0_ n1_ n2_ n3_ n4_ n5_ n6_ n7_; (try clear hb); (try clear hb2); (try clear hk); (try clear hi); (try clear ho0); obtain ⟨hcz119_0, hfz119_0, hcz119_1, hfz119_1⟩ := bk2 BK427.out) | ((with_reducible refine gate_callee (f := 32) rfl ?_); refine gl_ (some 119) (Try.func32) #[.agg #[.slice Ao114 t420.length co114, .slice Ao117 t423.length co117], .int .i64 t426] ?_; (with_reducible refine (spec_RunLined.calls kj25 _ _ t420 _ _ t423 t426 t434 t437 t438 t439 _ ?side1 ?side2 ?side3 ?side4 A72.out).mono ?_); (case side1 => repeat (first | exact (Kd.R_reads' HO422.out).2.2 | (with_reducible refine Kd.C_alloc ?_ _) | (with_reducible refine Kd.C_drewN ?_ _) | (with_reducible refine Kd.C_drew ?_))); (case side2 => exact (Kd.R_reads' HO422.out).2.1); (case side3 => repeat (first | exact (Kd.R_reads' HO425.out).2.2 | (with_reducible refine Kd.C_alloc ?_ _) | (with_reducible refine Kd.C_drewN ?_ _) | (with_reducible refine Kd.C_drew ?_))); (case side4 => exact (Kd.R_reads' HO425.out).2.1); rintro e w120 ⟨v435, rfl, ho0, hb⟩; refine ⟨_, rfl, ?_⟩; have n0_ := Aside0.mk (Kd.R_below (lR HO_412000.out) hb); have n1_ := Aside0.mk (Kd.R_below (lR HO_412001.out) hb); have n2_ := Aside0.mk (Kd.R_below (lR HO422.out) hb); have n3_ := Aside0.mk (Kd.R_below (lR HO425.out) hb); have n4_ := Aside0.mk (Kd.R_elder' (lR HO430.out) (Kd.R_base ho0) hb); have n5_ := Aside0.mk (Kd.R_lower (Kd.R_new' ho0 (Kd.R_lt (lR HO430.out))) (below_size lB)); have n6_ := Aside0.mk (blk_below (lK BK411.out) hb); have n7_ := Aside0.mk (blk_below (lK BK427.out) hb); have n8_ := Aside0.mk (below_step lB hb); clear HO_412000; clear HO_412001; clear HO422; clear HO425; clear HO430; clear BK411; clear BK427; clear HB; have HO_412000 := n0_; have HO_412001 := n1_; have HO422 := n2_; have HO425 := n3_; have HO430 := n4_; have HO436 := n5_; have BK411 := n6_; have BK427 := n7_; have HB := n8_; clear n0_ n1_ n2_ n3_ n4_ n5_ n6_ n7_ n8_; (try clear hb); (try clear hb2); (try clear hk); (try clear hi); (try clear ho0); obtain ⟨Ao121, co121, eo121⟩ := Kd.R_slice HO430.out; subst eo121; obtain ⟨Ao122, co122, eo122⟩ := Kd.R_slice HO436.out; subst eo122) | (go_at_call 40; (with_reducible refine (laws_sameInts.calls kj25 _ _ t428 _ _ t434 true _ ?side1 ?side2 ?side3 ?side4 A74.out).mono ?_); (case side1 => repeat (first | exact (Kd.R_reads' HO430.out).2.2 | (with_reducible refine Kd.C_alloc ?_ _) | (with_reducible refine Kd.C_drewN ?_ _) | (with_reducible refine Kd.C_drew ?_))); (case side2 => exact (Kd.R_reads' HO430.out).2.1); (case side3 => repeat (first | exact (Kd.R_reads' HO436.out).2.2 | (with_reducible refine Kd.C_alloc ?_ _) | (with_reducible refine Kd.C_drewN ?_ _) | (with_reducible refine Kd.C_drew ?_))); (case side4 => exact (Kd.R_reads' HO436.out).2.1); rintro e w' ⟨rfl, ⟨nd, rfl⟩⟩))
                     go_ret
                     exact ⟨lE, lB⟩
                · replace c75 := Bool.eq_false_iff.mpr c75
                  subst c75
                  rw [if_neg (show ¬ (false = true) by decide)] at H
                  obtain rfl := Option.some.inj H
                  as_aux_lemma =>
                   go_wp2_with (first | ((with_reducible refine gate_callee (f := 39) rfl ?_); refine gl_ (some 105) (Try.func39) #[.slice A1 l1.length c1] ?_; (with_reducible refine (spec_DrawRunLined.calls kj25 _ _ l1 t420 t423 t426 _ ?side1 ?side2 A70.out).mono ?_); (case side1 => exact lC (Kd.C_below HR1.out HB.out)); (case side2 => exact HC1.out); rintro e w123 ⟨v421, v424, rfl, ho0, ho1, hb⟩; refine ⟨_, rfl, ?_⟩; have n0_ := Aside0.mk (Kd.R_elder' (lR HO_412000.out) (Kd.R_base ho0) hb); have n1_ := Aside0.mk (Kd.R_elder' (lR HO_412001.out) (Kd.R_base ho1) hb); have n2_ := Aside0.mk (Kd.R_lower (Kd.R_new' ho0 (Kd.R_lt (lR HO_412000.out))) (below_size lB)); have n3_ := Aside0.mk (Kd.R_lower (Kd.R_new' ho1 (Kd.R_lt (lR HO_412001.out))) (below_size lB)); have n4_ := Aside0.mk (blk_below (lK BK411.out) hb); have n5_ := Aside0.mk (below_step lB hb); clear HO_412000; clear HO_412001; clear BK411; clear HB; have HO_412000 := n0_; have HO_412001 := n1_; have HO422 := n2_; have HO425 := n3_; have BK411 := n4_; have HB := n5_; clear n0_ n1_ n2_ n3_ n4_ n5_; (try clear hb); (try clear hb2); (try clear hk); (try clear hi); (try clear ho0); (try clear ho1)) | ((with_reducible refine gate_dst (N := 15) rfl ?_); refine bxe 15 #[.slice none 0 0, .slice none 0 0] 38 ?_; intro gb427 hg w124 hbox hb; have n0_ := Aside0.mk (Kd.R_below (lR HO_412000.out) hb); have n1_ := Aside0.mk (Kd.R_below (lR HO_412001.out) hb); have n2_ := Aside0.mk (Kd.R_below (lR HO422.out) hb); have n3_ := Aside0.mk (Kd.R_below (lR HO425.out) hb); have n4_ := Aside0.mk (blk_below (lK BK411.out) hb); have n5_ := Aside0.mk (below_step lB hb); have n6_ := Aside0.mk (hbox); have n7_ := lG w hg; have n8_ := lG w hg; have n9_ := Aside0.mk ((by rw [hg]; exact Nat.ne_of_lt (blk_lt (lK BK411.out)) : gb411 ≠ gb427)); have n10_ := Aside0.mk ((by rw [hg]; exact Nat.ne_of_gt (blk_lt (lK BK411.out)) : gb427 ≠ gb411)); clear HO_412000; clear HO_412001; clear HO422; clear HO425; clear BK411; clear HB; have HO_412000 := n0_; have HO_412001 := n1_; have HO422 := n2_; have HO425 := n3_; have BK411 := n4_; have HB := n5_; have BK427 := n6_; have GW427 := n7_; have GE427 := n8_; have NB411_427 := n9_; have NB427_411 := n10_; clear n0_ n1_ n2_ n3_ n4_ n5_ n6_ n7_ n8_ n9_ n10_; clear hb hbox hg; obtain ⟨Ao125, co125, eo125⟩ := Kd.R_slice HO422.out; subst eo125; have hnb126 := NB427_411.out; have hnc126 := NB411_427.out; obtain ⟨hcz127_0, hfz127_0, hcz127_1, hfz127_1⟩ := bk2 BK427.out; obtain ⟨Ao128, co128, eo128⟩ := Kd.R_slice HO425.out; subst eo128) | ((with_reducible refine gate_callee (f := 33) rfl ?_); refine gl_ (some 111) (Try.func33) #[.agg #[.slice Ao125 t420.length co125, .slice Ao128 t423.length co128], .int .i64 t426] ?_; (with_reducible refine (impl_RunLined.calls kj25 _ _ t420 _ _ t423 t426 t428 t431 t432 t433 _ ?side1 ?side2 ?side3 ?side4 A71.out).mono ?_); (case side1 => refine (Kd.R_reads' (e := 86) (base := w.heap.size) (ok := fun k_ => (True ∧ some k_ ≠ (.slice Ao10 t403.length co10 : Value).ownBlock)) (n := t420.length) (c := co125) ?_).2.2; exact (by (with_reducible repeat (first | apply Kd.R_alloc | apply Kd.R_drewN | apply Kd.R_drew)); exact (Kd.R_mono (Kd.R_far (p := ⟨gb427, 1, none⟩) (Kd.R_far (p := ⟨gb427, 0, none⟩) (Kd.R_types HO422.out BK427.out (by decide)) (fun _ hk => hk.2) (.slice Ao125 t420.length co125)) (fun _ hk => hk.2) (.slice Ao128 t423.length co128)) (fun _ h_ => h_.1)))); (case side2 => exact (Kd.R_reads' HO422.out).2.1); (case side3 => refine (Kd.R_reads' (e := 63) (base := w.heap.size) (ok := fun k_ => (True ∧ some k_ ≠ (.slice Ao12 t406.length co12 : Value).ownBlock)) (n := t423.length) (c := co128) ?_).2.2; exact (by (with_reducible repeat (first | apply Kd.R_alloc | apply Kd.R_drewN | apply Kd.R_drew)); exact (Kd.R_mono (Kd.R_far (p := ⟨gb427, 1, none⟩) (Kd.R_far (p := ⟨gb427, 0, none⟩) (Kd.R_types HO425.out BK427.out (by decide)) (fun _ hk => hk.2) (.slice Ao125 t420.length co125)) (fun _ hk => hk.2) (.slice Ao128 t423.length co128)) (fun _ h_ => h_.1)))); (case side4 => exact (Kd.R_reads' HO425.out).2.1); rintro e w129 ⟨v429, rfl, ho0, hb⟩; refine ⟨_, rfl, ?_⟩; have n0_ := Aside0.mk (Kd.R_below (by (with_reducible repeat (first | apply Kd.R_alloc | apply Kd.R_drewN | apply Kd.R_drew)); exact (Kd.R_mono (Kd.R_far (p := ⟨gb427, 1, none⟩) (Kd.R_far (p := ⟨gb427, 0, none⟩) (Kd.R_types HO_412000.out BK427.out (by decide)) (fun _ hk => hk.2) (.slice Ao125 t420.length co125)) (fun _ hk => hk.2) (.slice Ao128 t423.length co128)) (fun _ h_ => h_.1))) hb); have n1_ := Aside0.mk (Kd.R_below (by (with_reducible repeat (first | apply Kd.R_alloc | apply Kd.R_drewN | apply Kd.R_drew)); exact (Kd.R_mono (Kd.R_far (p := ⟨gb427, 1, none⟩) (Kd.R_far (p := ⟨gb427, 0, none⟩) (Kd.R_types HO_412001.out BK427.out (by decide)) (fun _ hk => hk.2) (.slice Ao125 t420.length co125)) (fun _ hk => hk.2) (.slice Ao128 t423.length co128)) (fun _ h_ => h_.1))) hb); have n2_ := Aside0.mk (Kd.R_below (by (with_reducible repeat (first | apply Kd.R_alloc | apply Kd.R_drewN | apply Kd.R_drew)); exact (Kd.R_mono (Kd.R_far (p := ⟨gb427, 1, none⟩) (Kd.R_far (p := ⟨gb427, 0, none⟩) (Kd.R_types HO422.out BK427.out (by decide)) (fun _ hk => hk.2) (.slice Ao125 t420.length co125)) (fun _ hk => hk.2) (.slice Ao128 t423.length co128)) (fun _ h_ => h_.1))) hb); have n3_ := Aside0.mk (Kd.R_below (by (with_reducible repeat (first | apply Kd.R_alloc | apply Kd.R_drewN | apply Kd.R_drew)); exact (Kd.R_mono (Kd.R_far (p := ⟨gb427, 1, none⟩) (Kd.R_far (p := ⟨gb427, 0, none⟩) (Kd.R_types HO425.out BK427.out (by decide)) (fun _ hk => hk.2) (.slice Ao125 t420.length co125)) (fun _ hk => hk.2) (.slice Ao128 t423.length co128)) (fun _ h_ => h_.1))) hb); have n4_ := Aside0.mk (Kd.R_lower ho0 (below_size lB)); have n5_ := Aside0.mk (blk_below (lJ BK411.out) hb); have n6_ := Aside0.mk (blk_below (g := gb427) (o := .cells #[.slice Ao125 t420.length co125, .slice Ao128 t423.length co128] 38 (0, 0)) (by (with_reducible repeat first | apply bN | apply bD | apply bA); refine blk_put (cs := #[.slice Ao125 t420.length co125, .slice none 0 0]) ?_ 1 _ rfl; (with_reducible repeat first | apply bN | apply bD | apply bA); refine blk_put (cs := #[.slice none 0 0, .slice none 0 0]) ?_ 0 _ rfl; (with_reducible repeat first | apply bN | apply bD | apply bA); exact BK427.out) hb); have n7_ := Aside0.mk (below_step lB hb); clear HO_412000; clear HO_412001; clear HO422; clear HO425; clear BK411; clear BK427; clear HB; have HO_412000 := n0_; have HO_412001 := n1_; have HO422 := n2_; have HO425 := n3_; have HO430 := n4_; have BK411 := n5_; have BK427 := n6_; have HB := n7_; clear n0_ n1_ n2_ n3_ n4_ n5_ n6_ n7_; (try clear hb); (try clear hb2); (try clear hk); (try clear hi); (try clear ho0); obtain ⟨hcz130_0, hfz130_0, hcz130_1, hfz130_1⟩ := bk2 BK427.out) | ((with_reducible refine gate_callee (f := 32) rfl ?_); refine gl_ (some 119) (Try.func32) #[.agg #[.slice Ao125 t420.length co125, .slice Ao128 t423.length co128], .int .i64 t426] ?_; (with_reducible refine (spec_RunLined.calls kj25 _ _ t420 _ _ t423 t426 t434 t437 t438 t439 _ ?side1 ?side2 ?side3 ?side4 A72.out).mono ?_); (case side1 => repeat (first | exact (Kd.R_reads' HO422.out).2.2 | (with_reducible refine Kd.C_alloc ?_ _) | (with_reducible refine Kd.C_drewN ?_ _) | (with_reducible refine Kd.C_drew ?_))); (case side2 => exact (Kd.R_reads' HO422.out).2.1); (case side3 => repeat (first | exact (Kd.R_reads' HO425.out).2.2 | (with_reducible refine Kd.C_alloc ?_ _) | (with_reducible refine Kd.C_drewN ?_ _) | (with_reducible refine Kd.C_drew ?_))); (case side4 => exact (Kd.R_reads' HO425.out).2.1); rintro e w131 ⟨v435, rfl, ho0, hb⟩; refine ⟨_, rfl, ?_⟩; have n0_ := Aside0.mk (Kd.R_below (lR HO_412000.out) hb); have n1_ := Aside0.mk (Kd.R_below (lR HO_412001.out) hb); have n2_ := Aside0.mk (Kd.R_below (lR HO422.out) hb); have n3_ := Aside0.mk (Kd.R_below (lR HO425.out) hb); have n4_ := Aside0.mk (Kd.R_elder' (lR HO430.out) (Kd.R_base ho0) hb); have n5_ := Aside0.mk (Kd.R_lower (Kd.R_new' ho0 (Kd.R_lt (lR HO430.out))) (below_size lB)); have n6_ := Aside0.mk (blk_below (lK BK411.out) hb); have n7_ := Aside0.mk (blk_below (lK BK427.out) hb); have n8_ := Aside0.mk (below_step lB hb); clear HO_412000; clear HO_412001; clear HO422; clear HO425; clear HO430; clear BK411; clear BK427; clear HB; have HO_412000 := n0_; have HO_412001 := n1_; have HO422 := n2_; have HO425 := n3_; have HO430 := n4_; have HO436 := n5_; have BK411 := n6_; have BK427 := n7_; have HB := n8_; clear n0_ n1_ n2_ n3_ n4_ n5_ n6_ n7_ n8_; (try clear hb); (try clear hb2); (try clear hk); (try clear hi); (try clear ho0); obtain ⟨Ao132, co132, eo132⟩ := Kd.R_slice HO430.out; subst eo132; obtain ⟨Ao133, co133, eo133⟩ := Kd.R_slice HO436.out; subst eo133) | (go_at_call 40; (with_reducible refine (laws_sameInts.calls kj25 _ _ t428 _ _ t434 false _ ?side1 ?side2 ?side3 ?side4 A74.out).mono ?_); (case side1 => repeat (first | exact (Kd.R_reads' HO430.out).2.2 | (with_reducible refine Kd.C_alloc ?_ _) | (with_reducible refine Kd.C_drewN ?_ _) | (with_reducible refine Kd.C_drew ?_))); (case side2 => exact (Kd.R_reads' HO430.out).2.1); (case side3 => repeat (first | exact (Kd.R_reads' HO436.out).2.2 | (with_reducible refine Kd.C_alloc ?_ _) | (with_reducible refine Kd.C_drewN ?_ _) | (with_reducible refine Kd.C_drew ?_))); (case side4 => exact (Kd.R_reads' HO436.out).2.1); rintro e w' ⟨rfl, ⟨nd, rfl⟩⟩))
                   go_ret
                   exact ⟨lE, lB⟩
              · rw [if_neg c73] at H
                have c73b0 : (t433 == t439) = false := by simpa using c73
                (try (have c73b1 : decide (t433 = t439) = false := by simpa using c73))
                (try (have c73b2 : (t433 == t439) = false := by simpa using c73))
                (try (have c73b3 : ¬ (t433 = t439) := by simpa using c73))
                clear c73
                obtain rfl := Option.some.inj H
                as_aux_lemma =>
                 go_wp2_with (first | ((with_reducible refine gate_callee (f := 39) rfl ?_); refine gl_ (some 105) (Try.func39) #[.slice A1 l1.length c1] ?_; (with_reducible refine (spec_DrawRunLined.calls kj25 _ _ l1 t420 t423 t426 _ ?side1 ?side2 A70.out).mono ?_); (case side1 => exact lC (Kd.C_below HR1.out HB.out)); (case side2 => exact HC1.out); rintro e w134 ⟨v421, v424, rfl, ho0, ho1, hb⟩; refine ⟨_, rfl, ?_⟩; have n0_ := Aside0.mk (Kd.R_elder' (lR HO_412000.out) (Kd.R_base ho0) hb); have n1_ := Aside0.mk (Kd.R_elder' (lR HO_412001.out) (Kd.R_base ho1) hb); have n2_ := Aside0.mk (Kd.R_lower (Kd.R_new' ho0 (Kd.R_lt (lR HO_412000.out))) (below_size lB)); have n3_ := Aside0.mk (Kd.R_lower (Kd.R_new' ho1 (Kd.R_lt (lR HO_412001.out))) (below_size lB)); have n4_ := Aside0.mk (blk_below (lK BK411.out) hb); have n5_ := Aside0.mk (below_step lB hb); clear HO_412000; clear HO_412001; clear BK411; clear HB; have HO_412000 := n0_; have HO_412001 := n1_; have HO422 := n2_; have HO425 := n3_; have BK411 := n4_; have HB := n5_; clear n0_ n1_ n2_ n3_ n4_ n5_; (try clear hb); (try clear hb2); (try clear hk); (try clear hi); (try clear ho0); (try clear ho1)) | ((with_reducible refine gate_dst (N := 15) rfl ?_); refine bxe 15 #[.slice none 0 0, .slice none 0 0] 38 ?_; intro gb427 hg w135 hbox hb; have n0_ := Aside0.mk (Kd.R_below (lR HO_412000.out) hb); have n1_ := Aside0.mk (Kd.R_below (lR HO_412001.out) hb); have n2_ := Aside0.mk (Kd.R_below (lR HO422.out) hb); have n3_ := Aside0.mk (Kd.R_below (lR HO425.out) hb); have n4_ := Aside0.mk (blk_below (lK BK411.out) hb); have n5_ := Aside0.mk (below_step lB hb); have n6_ := Aside0.mk (hbox); have n7_ := lG w hg; have n8_ := lG w hg; have n9_ := Aside0.mk ((by rw [hg]; exact Nat.ne_of_lt (blk_lt (lK BK411.out)) : gb411 ≠ gb427)); have n10_ := Aside0.mk ((by rw [hg]; exact Nat.ne_of_gt (blk_lt (lK BK411.out)) : gb427 ≠ gb411)); clear HO_412000; clear HO_412001; clear HO422; clear HO425; clear BK411; clear HB; have HO_412000 := n0_; have HO_412001 := n1_; have HO422 := n2_; have HO425 := n3_; have BK411 := n4_; have HB := n5_; have BK427 := n6_; have GW427 := n7_; have GE427 := n8_; have NB411_427 := n9_; have NB427_411 := n10_; clear n0_ n1_ n2_ n3_ n4_ n5_ n6_ n7_ n8_ n9_ n10_; clear hb hbox hg; obtain ⟨Ao136, co136, eo136⟩ := Kd.R_slice HO422.out; subst eo136; have hnb137 := NB427_411.out; have hnc137 := NB411_427.out; obtain ⟨hcz138_0, hfz138_0, hcz138_1, hfz138_1⟩ := bk2 BK427.out; obtain ⟨Ao139, co139, eo139⟩ := Kd.R_slice HO425.out; subst eo139) | ((with_reducible refine gate_callee (f := 33) rfl ?_); refine gl_ (some 111) (Try.func33) #[.agg #[.slice Ao136 t420.length co136, .slice Ao139 t423.length co139], .int .i64 t426] ?_; (with_reducible refine (impl_RunLined.calls kj25 _ _ t420 _ _ t423 t426 t428 t431 t432 t433 _ ?side1 ?side2 ?side3 ?side4 A71.out).mono ?_); (case side1 => refine (Kd.R_reads' (e := 86) (base := w.heap.size) (ok := fun k_ => (True ∧ some k_ ≠ (.slice Ao10 t403.length co10 : Value).ownBlock)) (n := t420.length) (c := co136) ?_).2.2; exact (by (with_reducible repeat (first | apply Kd.R_alloc | apply Kd.R_drewN | apply Kd.R_drew)); exact (Kd.R_mono (Kd.R_far (p := ⟨gb427, 1, none⟩) (Kd.R_far (p := ⟨gb427, 0, none⟩) (Kd.R_types HO422.out BK427.out (by decide)) (fun _ hk => hk.2) (.slice Ao136 t420.length co136)) (fun _ hk => hk.2) (.slice Ao139 t423.length co139)) (fun _ h_ => h_.1)))); (case side2 => exact (Kd.R_reads' HO422.out).2.1); (case side3 => refine (Kd.R_reads' (e := 63) (base := w.heap.size) (ok := fun k_ => (True ∧ some k_ ≠ (.slice Ao12 t406.length co12 : Value).ownBlock)) (n := t423.length) (c := co139) ?_).2.2; exact (by (with_reducible repeat (first | apply Kd.R_alloc | apply Kd.R_drewN | apply Kd.R_drew)); exact (Kd.R_mono (Kd.R_far (p := ⟨gb427, 1, none⟩) (Kd.R_far (p := ⟨gb427, 0, none⟩) (Kd.R_types HO425.out BK427.out (by decide)) (fun _ hk => hk.2) (.slice Ao136 t420.length co136)) (fun _ hk => hk.2) (.slice Ao139 t423.length co139)) (fun _ h_ => h_.1)))); (case side4 => exact (Kd.R_reads' HO425.out).2.1); rintro e w140 ⟨v429, rfl, ho0, hb⟩; refine ⟨_, rfl, ?_⟩; have n0_ := Aside0.mk (Kd.R_below (by (with_reducible repeat (first | apply Kd.R_alloc | apply Kd.R_drewN | apply Kd.R_drew)); exact (Kd.R_mono (Kd.R_far (p := ⟨gb427, 1, none⟩) (Kd.R_far (p := ⟨gb427, 0, none⟩) (Kd.R_types HO_412000.out BK427.out (by decide)) (fun _ hk => hk.2) (.slice Ao136 t420.length co136)) (fun _ hk => hk.2) (.slice Ao139 t423.length co139)) (fun _ h_ => h_.1))) hb); have n1_ := Aside0.mk (Kd.R_below (by (with_reducible repeat (first | apply Kd.R_alloc | apply Kd.R_drewN | apply Kd.R_drew)); exact (Kd.R_mono (Kd.R_far (p := ⟨gb427, 1, none⟩) (Kd.R_far (p := ⟨gb427, 0, none⟩) (Kd.R_types HO_412001.out BK427.out (by decide)) (fun _ hk => hk.2) (.slice Ao136 t420.length co136)) (fun _ hk => hk.2) (.slice Ao139 t423.length co139)) (fun _ h_ => h_.1))) hb); have n2_ := Aside0.mk (Kd.R_below (by (with_reducible repeat (first | apply Kd.R_alloc | apply Kd.R_drewN | apply Kd.R_drew)); exact (Kd.R_mono (Kd.R_far (p := ⟨gb427, 1, none⟩) (Kd.R_far (p := ⟨gb427, 0, none⟩) (Kd.R_types HO422.out BK427.out (by decide)) (fun _ hk => hk.2) (.slice Ao136 t420.length co136)) (fun _ hk => hk.2) (.slice Ao139 t423.length co139)) (fun _ h_ => h_.1))) hb); have n3_ := Aside0.mk (Kd.R_below (by (with_reducible repeat (first | apply Kd.R_alloc | apply Kd.R_drewN | apply Kd.R_drew)); exact (Kd.R_mono (Kd.R_far (p := ⟨gb427, 1, none⟩) (Kd.R_far (p := ⟨gb427, 0, none⟩) (Kd.R_types HO425.out BK427.out (by decide)) (fun _ hk => hk.2) (.slice Ao136 t420.length co136)) (fun _ hk => hk.2) (.slice Ao139 t423.length co139)) (fun _ h_ => h_.1))) hb); have n4_ := Aside0.mk (Kd.R_lower ho0 (below_size lB)); have n5_ := Aside0.mk (blk_below (lJ BK411.out) hb); have n6_ := Aside0.mk (blk_below (g := gb427) (o := .cells #[.slice Ao136 t420.length co136, .slice Ao139 t423.length co139] 38 (0, 0)) (by (with_reducible repeat first | apply bN | apply bD | apply bA); refine blk_put (cs := #[.slice Ao136 t420.length co136, .slice none 0 0]) ?_ 1 _ rfl; (with_reducible repeat first | apply bN | apply bD | apply bA); refine blk_put (cs := #[.slice none 0 0, .slice none 0 0]) ?_ 0 _ rfl; (with_reducible repeat first | apply bN | apply bD | apply bA); exact BK427.out) hb); have n7_ := Aside0.mk (below_step lB hb); clear HO_412000; clear HO_412001; clear HO422; clear HO425; clear BK411; clear BK427; clear HB; have HO_412000 := n0_; have HO_412001 := n1_; have HO422 := n2_; have HO425 := n3_; have HO430 := n4_; have BK411 := n5_; have BK427 := n6_; have HB := n7_; clear n0_ n1_ n2_ n3_ n4_ n5_ n6_ n7_; (try clear hb); (try clear hb2); (try clear hk); (try clear hi); (try clear ho0); obtain ⟨hcz141_0, hfz141_0, hcz141_1, hfz141_1⟩ := bk2 BK427.out) | ((with_reducible refine gate_callee (f := 32) rfl ?_); refine gl_ (some 119) (Try.func32) #[.agg #[.slice Ao136 t420.length co136, .slice Ao139 t423.length co139], .int .i64 t426] ?_; (with_reducible refine (spec_RunLined.calls kj25 _ _ t420 _ _ t423 t426 t434 t437 t438 t439 _ ?side1 ?side2 ?side3 ?side4 A72.out).mono ?_); (case side1 => repeat (first | exact (Kd.R_reads' HO422.out).2.2 | (with_reducible refine Kd.C_alloc ?_ _) | (with_reducible refine Kd.C_drewN ?_ _) | (with_reducible refine Kd.C_drew ?_))); (case side2 => exact (Kd.R_reads' HO422.out).2.1); (case side3 => repeat (first | exact (Kd.R_reads' HO425.out).2.2 | (with_reducible refine Kd.C_alloc ?_ _) | (with_reducible refine Kd.C_drewN ?_ _) | (with_reducible refine Kd.C_drew ?_))); (case side4 => exact (Kd.R_reads' HO425.out).2.1); rintro e w142 ⟨v435, rfl, ho0, hb⟩; refine ⟨_, rfl, ?_⟩; have n0_ := Aside0.mk (Kd.R_below (lR HO_412000.out) hb); have n1_ := Aside0.mk (Kd.R_below (lR HO_412001.out) hb); have n2_ := Aside0.mk (Kd.R_below (lR HO422.out) hb); have n3_ := Aside0.mk (Kd.R_below (lR HO425.out) hb); have n4_ := Aside0.mk (Kd.R_elder' (lR HO430.out) (Kd.R_base ho0) hb); have n5_ := Aside0.mk (Kd.R_lower (Kd.R_new' ho0 (Kd.R_lt (lR HO430.out))) (below_size lB)); have n6_ := Aside0.mk (blk_below (lK BK411.out) hb); have n7_ := Aside0.mk (blk_below (lK BK427.out) hb); have n8_ := Aside0.mk (below_step lB hb); clear HO_412000; clear HO_412001; clear HO422; clear HO425; clear HO430; clear BK411; clear BK427; clear HB; have HO_412000 := n0_; have HO_412001 := n1_; have HO422 := n2_; have HO425 := n3_; have HO430 := n4_; have HO436 := n5_; have BK411 := n6_; have BK427 := n7_; have HB := n8_; clear n0_ n1_ n2_ n3_ n4_ n5_ n6_ n7_ n8_; (try clear hb); (try clear hb2); (try clear hk); (try clear hi); (try clear ho0)))
                 go_ret
                 exact ⟨lE, lB⟩

/-- THE ONE PURE STATEMENT of laws_FnGuards: yours. -/
def laws_FnGuards.Pure : Prop := ∀ (l0 : List Int) (l1 : List Int), l0.length ≤ maxLen → l0.length * 1 ≤ 140737488351232 → (∀ x ∈ l0, (Lit.int .u8 x).wf = true) → l1.length ≤ maxLen → l1.length * 1 ≤ 140737488351232 → (∀ x ∈ l1, (Lit.int .u8 x).wf = true) → ∃ k, laws_FnGuards.f k l0 l1 = some true
theorem laws_FnGuards.walk (P : laws_FnGuards.Pure) (a0 : Option Addr) (len0 cap0 : Nat) (z0 : List Int) (a1 : Option Addr) (len1 cap1 : Nat) (z1 : List Int) (w : World) (w0 : (a0 = none ∧ len0 = 0 ∧ cap0 = 0 ∧ z0 = []) ∨ ∃ x, a0 = some x ∧ len0 ≤ cap0 ∧ cap0 ≤ maxLen ∧ z0.length = cap0 ∧ (∀ i, i < z0.length → w.cell? (x.add i) = some (.int .u8 (z0.getD i 0))) ∧ ∀ n ∈ z0, (Lit.int .u8 n).wf = true) (y0 : len0 * 1 ≤ 140737488351232) (w1 : (a1 = none ∧ len1 = 0 ∧ cap1 = 0 ∧ z1 = []) ∨ ∃ x, a1 = some x ∧ len1 ≤ cap1 ∧ cap1 ≤ maxLen ∧ z1.length = cap1 ∧ (∀ i, i < z1.length → w.cell? (x.add i) = some (.int .u8 (z1.getD i 0))) ∧ ∀ n ∈ z1, (Lit.int .u8 n).wf = true) (y1 : len1 * 1 ≤ 140737488351232) :
    Calls Try.prog 10 #[.slice a0 len0 cap0, .slice a1 len1 cap1] w fun e w' => e = .returned (.bool true) ∧ Below w.heap.size w w' := by
  obtain ⟨l0, rfl, hr0, hm0, hw0, hc0⟩ := ReadsInt.ofRowC w0
  obtain ⟨l1, rfl, hr1, hm1, hw1, hc1⟩ := ReadsInt.ofRowC w1
  obtain ⟨k, h⟩ := P l0 l1 hm0 y0 hw0 hm1 y1 hw1
  refine (laws_FnGuards.calls k _ _ l0 _ _ l1 true w (Kd.C_of_reads (d := (0 : Int)) (h1 := fun _ => rfl) hr0) hc0 (Kd.C_of_reads (d := (0 : Int)) (h1 := fun _ => rfl) hr1) hc1 h).mono ?_
  rintro e w' ⟨rfl, hd⟩
  exact ⟨rfl, hd⟩

end Go.Proofs.Ytgjojppbichaiaa.Q
