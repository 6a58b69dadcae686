-- Written by the program wip/tools/pr.py of this claim's session, over the kit's print.py.
import Derived.Test.YtgjojppbichaiaaQx0
import Derived.Test.YtgjojppbichaiaaQx1
import Derived.Test.YtgjojppbichaiaaQx3
import Derived.Test.YtgjojppbichaiaaQx6
namespace Go.Proofs.Ytgjojppbichaiaa.Q
open Go.RowKit Go.Proofs.YtgjojppbichaiaaW.PrintWords Go.Proofs.YtgjojppbichaiaaW.PrintLast Go.Proofs.YtgjojppbichaiaaW.PrintMore
attribute [local go_sem] max2_int min2_int max_two min_two max_three min_three max_four min_four   -- for this text's walks alone
set_option linter.unusedVariables false
set_option linter.unusedSimpArgs false

/-! ### laws_FnExactMayRaise: function 6 -/
mutual
def laws_FnExactMayRaise.j0 : Nat → List (S78) → List Int → Bool → List (S76) → List Int → Bool → Bool → Option (Bool)
 | 0, _, _, _, _, _, _, _ => none
 | k + 1, x0, x4, x5, x6, x7, x8, x40 => if x40 = true then (some false) else ((laws_toXCellS.f k x0).bind fun t210 => ((laws_eqXCellS.f k x6 t210).bind fun t213 => (if t213 = true then ((laws_markXCellS.f k x6 1).bind fun bt214 => (if bt214.1 < 0 then (laws_FnExactMayRaise.j1 k x0 x4 x5 x7 true) else ((laws_eqIntS.f k x7 x4).bind fun t216 => (if t216 = true then (laws_FnExactMayRaise.j1 k x0 x4 x5 x7 (x8 != x5)) else (laws_FnExactMayRaise.j1 k x0 x4 x5 x7 true))))) else (some false))))
def laws_FnExactMayRaise.j1 : Nat → List (S78) → List Int → Bool → List Int → Bool → Option (Bool)
 | 0, _, _, _, _, _ => none
 | k + 1, x0, x4, x5, x7, x61 => if x61 = true then (some false) else ((laws_markIntS.f k x7 1).bind fun bt217 => ((laws_heldIntS.f k bt217.2 1).bind fun t219 => (if t219 < 0 then (some false) else (if t219 = bt217.1 then ((laws_toXCellS.f k x0).bind fun t220 => ((impl_MayRaise.f t220).bind fun bt223 => ((laws_eqIntS.f k bt223.1 x4).bind fun t227 => (if t227 = true then (laws_FnExactMayRaise.j2 k bt217.2 bt217.1 (bt223.2 != x5)) else (laws_FnExactMayRaise.j2 k bt217.2 bt217.1 true))))) else (some false)))))
def laws_FnExactMayRaise.j2 : Nat → List Int → Int → Bool → Option (Bool)
 | 0, _, _, _ => none
 | k + 1, x7, x10, x87 => if x87 = true then (some false) else ((laws_heldIntS.f k x7 1).bind fun t228 => (if t228 < 0 then (some false) else (if t228 = x10 then (some true) else (some false))))
end
def laws_FnExactMayRaise.f (k : Nat) (l0 : List (S78)) : Option (Bool) := (laws_szXCellS.f l0 1048576).bind fun t194 => (if t194 < 0 then (some true) else ((laws_toXCellS.f k l0).bind fun t195 => ((spec_MayRaise.f k t195).bind fun bt198 => ((laws_toXCellS.f k l0).bind fun t202 => ((impl_MayRaise.f t202).bind fun bt205 => ((laws_eqIntS.f k bt205.1 bt198.1).bind fun t209 => (if t209 = true then (laws_FnExactMayRaise.j0 k l0 bt198.1 bt198.2 t202 bt205.1 bt205.2 (bt205.2 != bt198.2)) else (laws_FnExactMayRaise.j0 k l0 bt198.1 bt198.2 t202 bt205.1 bt205.2 true))))))))
theorem laws_FnExactMayRaise.mono_l : ∀ k, (∀ y0 y1 y2 y3 y4 y5 y6, LeO (laws_FnExactMayRaise.j0 k y0 y1 y2 y3 y4 y5 y6) (laws_FnExactMayRaise.j0 (k + 1) y0 y1 y2 y3 y4 y5 y6)) ∧ (∀ y0 y1 y2 y3 y4, LeO (laws_FnExactMayRaise.j1 k y0 y1 y2 y3 y4) (laws_FnExactMayRaise.j1 (k + 1) y0 y1 y2 y3 y4)) ∧ (∀ y0 y1 y2, LeO (laws_FnExactMayRaise.j2 k y0 y1 y2) (laws_FnExactMayRaise.j2 (k + 1) y0 y1 y2))
 | 0 => ⟨fun _ _ _ _ _ _ _ r h => by simp [laws_FnExactMayRaise.j0] at h, fun _ _ _ _ _ r h => by simp [laws_FnExactMayRaise.j1] at h, fun _ _ _ r h => by simp [laws_FnExactMayRaise.j2] at h⟩
 | k + 1 => by
  obtain ⟨ih0, ih1, ih2⟩ := laws_FnExactMayRaise.mono_l k
  refine ⟨?_, ?_, ?_⟩
  ·intro y0 y1 y2 y3 y4 y5 y6
   unfold laws_FnExactMayRaise.j0
   repeat' first
   | with_reducible apply ih0
   | with_reducible apply ih1
   | with_reducible apply ih2
   | with_reducible apply laws_eqIntS.mono
   | with_reducible apply laws_eqXCellS.mono
   | with_reducible apply laws_heldIntS.mono
   | with_reducible apply laws_markIntS.mono
   | with_reducible apply laws_markXCellS.mono
   | with_reducible apply laws_toXCellS.mono
   | with_reducible apply spec_MayRaise.mono
   | (with_reducible exact LeO.refl _)
   | (with_reducible exact LeO.none _)
   | (with_reducible refine LeO.ite ?_ ?_)
   | (with_reducible refine LeO.bind ?_ (fun _ => ?_))
   | apply ih0
   | apply ih1
   | apply ih2
   | apply laws_eqIntS.mono
   | apply laws_eqXCellS.mono
   | apply laws_heldIntS.mono
   | apply laws_markIntS.mono
   | apply laws_markXCellS.mono
   | apply laws_toXCellS.mono
   | apply spec_MayRaise.mono
   | exact LeO.none _
   | refine LeO.ite ?_ ?_
   | refine LeO.bind ?_ (fun _ => ?_)
  ·intro y0 y1 y2 y3 y4
   unfold laws_FnExactMayRaise.j1
   repeat' first
   | with_reducible apply ih0
   | with_reducible apply ih1
   | with_reducible apply ih2
   | with_reducible apply laws_eqIntS.mono
   | with_reducible apply laws_eqXCellS.mono
   | with_reducible apply laws_heldIntS.mono
   | with_reducible apply laws_markIntS.mono
   | with_reducible apply laws_markXCellS.mono
   | with_reducible apply laws_toXCellS.mono
   | with_reducible apply spec_MayRaise.mono
   | (with_reducible exact LeO.refl _)
   | (with_reducible exact LeO.none _)
   | (with_reducible refine LeO.ite ?_ ?_)
   | (with_reducible refine LeO.bind ?_ (fun _ => ?_))
   | apply ih0
   | apply ih1
   | apply ih2
   | apply laws_eqIntS.mono
   | apply laws_eqXCellS.mono
   | apply laws_heldIntS.mono
   | apply laws_markIntS.mono
   | apply laws_markXCellS.mono
   | apply laws_toXCellS.mono
   | apply spec_MayRaise.mono
   | exact LeO.none _
   | refine LeO.ite ?_ ?_
   | refine LeO.bind ?_ (fun _ => ?_)
  ·intro y0 y1 y2
   unfold laws_FnExactMayRaise.j2
   repeat' first
   | with_reducible apply ih0
   | with_reducible apply ih1
   | with_reducible apply ih2
   | with_reducible apply laws_eqIntS.mono
   | with_reducible apply laws_eqXCellS.mono
   | with_reducible apply laws_heldIntS.mono
   | with_reducible apply laws_markIntS.mono
   | with_reducible apply laws_markXCellS.mono
   | with_reducible apply laws_toXCellS.mono
   | with_reducible apply spec_MayRaise.mono
   | (with_reducible exact LeO.refl _)
   | (with_reducible exact LeO.none _)
   | (with_reducible refine LeO.ite ?_ ?_)
   | (with_reducible refine LeO.bind ?_ (fun _ => ?_))
   | apply ih0
   | apply ih1
   | apply ih2
   | apply laws_eqIntS.mono
   | apply laws_eqXCellS.mono
   | apply laws_heldIntS.mono
   | apply laws_markIntS.mono
   | apply laws_markXCellS.mono
   | apply laws_toXCellS.mono
   | apply spec_MayRaise.mono
   | exact LeO.none _
   | refine LeO.ite ?_ ?_
   | refine LeO.bind ?_ (fun _ => ?_)
theorem laws_FnExactMayRaise.mono : ∀ a0 k, LeO (laws_FnExactMayRaise.f k a0) (laws_FnExactMayRaise.f (k + 1) a0) := by
 intro a0 k
 obtain ⟨ih0, ih1, ih2⟩ := laws_FnExactMayRaise.mono_l k
 unfold laws_FnExactMayRaise.f
 repeat' first
   | with_reducible apply ih0
   | with_reducible apply ih1
   | with_reducible apply ih2
   | with_reducible apply laws_eqIntS.mono
   | with_reducible apply laws_eqXCellS.mono
   | with_reducible apply laws_heldIntS.mono
   | with_reducible apply laws_markIntS.mono
   | with_reducible apply laws_markXCellS.mono
   | with_reducible apply laws_toXCellS.mono
   | with_reducible apply spec_MayRaise.mono
   | (with_reducible exact LeO.refl _)
   | (with_reducible exact LeO.none _)
   | (with_reducible refine LeO.ite ?_ ?_)
   | (with_reducible refine LeO.bind ?_ (fun _ => ?_))
   | apply ih0
   | apply ih1
   | apply ih2
   | apply laws_eqIntS.mono
   | apply laws_eqXCellS.mono
   | apply laws_heldIntS.mono
   | apply laws_markIntS.mono
   | apply laws_markXCellS.mono
   | apply laws_toXCellS.mono
   | apply spec_MayRaise.mono
   | exact LeO.none _
   | refine LeO.ite ?_ ?_
   | refine LeO.bind ?_ (fun _ => ?_)
set_option maxHeartbeats 8000000 in
set_option maxRecDepth 100000 in
theorem laws_FnExactMayRaise.calls (k : Nat) (A0 : Option Addr) (c0 : Nat) (l0 : List (S78)) (r : Bool) (w : World) (hr0 : Kd.C k78 w A0 l0.length l0) (hc0 : l0.length ≤ c0) (h : laws_FnExactMayRaise.f k l0 = some r) :
  Calls Try.prog 6 #[.slice A0 l0.length c0] w fun e w' => e = .returned (.bool r) ∧ Below w.heap.size w w' := by
 have HR0 := Aside0.mk hr0
 have HC0 := Aside0.mk hc0
 clear hr0 hc0
 have HB := Aside0.mk (Below.refl w.heap.size w)
 have H : ((laws_szXCellS.f l0 1048576).bind fun t194 => (if t194 < 0 then (some true) else ((laws_toXCellS.f k l0).bind fun t195 => ((spec_MayRaise.f k t195).bind fun bt198 => ((laws_toXCellS.f k l0).bind fun t202 => ((impl_MayRaise.f t202).bind fun bt205 => ((laws_eqIntS.f k bt205.1 bt198.1).bind fun t209 => (if t209 = true then (laws_FnExactMayRaise.j0 k l0 bt198.1 bt198.2 t202 bt205.1 bt205.2 (bt205.2 != bt198.2)) else (laws_FnExactMayRaise.j0 k l0 bt198.1 bt198.2 t202 bt205.1 bt205.2 true))))))))) = some r := h
 clear h
 replace H := lO H
 obtain ⟨t194, A2, H⟩ := H
 by_cases c3 : t194 < 0
 ·rw [if_pos c3] at H
  have c3b0 : decide (t194 < 0) = true := decide_eq_true c3
  clear c3
  obtain rfl := Option.some.inj H
  go_enter Try.func6, Try.ntmps6
  go_wp2_with (first | ((with_reducible refine gate_callee (f := 12) rfl ?_); refine gl_ (some 16) (Try.func12) #[.slice A0 l0.length c0, .int .i64 1048576] ?_; (with_reducible refine (laws_szXCellS.calls _ _ l0 1048576 t194 _ ?side1 ?side2 A2.out).mono ?_); (case side1 => repeat (first | exact HR0.out | (with_reducible refine Kd.C_alloc ?_ _) | (with_reducible refine Kd.C_drewN ?_ _) | (with_reducible refine Kd.C_drew ?_))); (case side2 => exact HC0.out); rintro e w' ⟨rfl, ⟨nd, rfl⟩⟩; refine ⟨_, rfl, ?_⟩))
  go_ret
  exact ⟨lE, lB⟩
 ·rw [if_neg c3] at H
  have c3b0 : decide (t194 < 0) = false := decide_eq_false c3
  clear c3
  replace H := lO H
  obtain ⟨t195, A4, H⟩ := H
  replace H := Option.bind_eq_some_iff.mp H
  obtain ⟨⟨t198, t199⟩, A50, H⟩ := H
  replace H : ((laws_toXCellS.f k l0).bind fun t202 => ((impl_MayRaise.f t202).bind fun bt205 => ((laws_eqIntS.f k bt205.1 t198).bind fun t209 => (if t209 = true then (laws_FnExactMayRaise.j0 k l0 t198 t199 t202 bt205.1 bt205.2 (bt205.2 != t199)) else (laws_FnExactMayRaise.j0 k l0 t198 t199 t202 bt205.1 bt205.2 true))))) = some r := H
  have A5 := Aside0.mk A50
  clear A50
  replace H := lO H
  obtain ⟨t202, A6, H⟩ := H
  replace H := Option.bind_eq_some_iff.mp H
  obtain ⟨⟨t205, t206⟩, A70, H⟩ := H
  replace H : ((laws_eqIntS.f k t205 t198).bind fun t209 => (if t209 = true then (laws_FnExactMayRaise.j0 k l0 t198 t199 t202 t205 t206 (t206 != t199)) else (laws_FnExactMayRaise.j0 k l0 t198 t199 t202 t205 t206 true))) = some r := H
  have A7 := Aside0.mk A70
  clear A70
  have HC8 := Aside0.mk H
  clear H
  go_enter Try.func6, Try.ntmps6
  go_upto_region 8 with (first | ((with_reducible refine gate_callee (f := 12) rfl ?_); refine gl_ (some 16) (Try.func12) #[.slice A0 l0.length c0, .int .i64 1048576] ?_; (with_reducible refine (laws_szXCellS.calls _ _ l0 1048576 t194 _ ?side1 ?side2 A2.out).mono ?_); (case side1 => repeat (first | exact HR0.out | (with_reducible refine Kd.C_alloc ?_ _) | (with_reducible refine Kd.C_drewN ?_ _) | (with_reducible refine Kd.C_drew ?_))); (case side2 => exact HC0.out); rintro e w' ⟨rfl, ⟨nd, rfl⟩⟩; refine ⟨_, rfl, ?_⟩) | ((with_reducible refine gate_callee (f := 14) rfl ?_); refine gl_ (some 21) (Try.func14) #[.slice A0 l0.length c0] ?_; (with_reducible refine (laws_toXCellS.calls k _ _ l0 t195 _ ?side1 ?side2 A4.out).mono ?_); (case side1 => repeat (first | exact HR0.out | (with_reducible refine Kd.C_alloc ?_ _) | (with_reducible refine Kd.C_drewN ?_ _) | (with_reducible refine Kd.C_drew ?_))); (case side2 => exact HC0.out); rintro e w9 ⟨v196, rfl, ho0, hb⟩; refine ⟨_, rfl, ?_⟩; have n0_ := Aside0.mk (Kd.R_lower ho0 (below_size lB)); have n1_ := Aside0.mk (below_step lB hb); clear HB; have HO197 := n0_; have HB := n1_; clear n0_ n1_; (try clear hb); (try clear hb2); (try clear hk); (try clear hi); (try clear ho0); obtain ⟨Ao10, co10, eo10⟩ := Kd.R_slice HO197.out; subst eo10) | ((with_reducible refine gate_callee (f := 24) rfl ?_); refine gl_ (some 22) (Try.func24) #[.slice Ao10 t195.length co10] ?_; (with_reducible refine (spec_MayRaise.calls k _ _ t195 t198 t199 _ ?side1 ?side2 A5.out).mono ?_); (case side1 => repeat (first | exact (Kd.R_reads' HO197.out).2.2 | (with_reducible refine Kd.C_alloc ?_ _) | (with_reducible refine Kd.C_drewN ?_ _) | (with_reducible refine Kd.C_drew ?_))); (case side2 => exact (Kd.R_reads' HO197.out).2.1); rintro e w11 ⟨v200, rfl, ho0, hb⟩; refine ⟨_, rfl, ?_⟩; have n0_ := Aside0.mk (Kd.R_below (lR HO197.out) hb); have n1_ := Aside0.mk (Kd.R_lower ho0 (below_size lB)); have n2_ := Aside0.mk (below_step lB hb); clear HO197; clear HB; have HO197 := n0_; have HO201 := n1_; have HB := n2_; clear n0_ n1_ n2_; (try clear hb); (try clear hb2); (try clear hk); (try clear hi); (try clear ho0)) | ((with_reducible refine gate_callee (f := 14) rfl ?_); refine gl_ (some 26) (Try.func14) #[.slice A0 l0.length c0] ?_; (with_reducible refine (laws_toXCellS.calls k _ _ l0 t202 _ ?side1 ?side2 A6.out).mono ?_); (case side1 => exact lC (Kd.C_below HR0.out HB.out)); (case side2 => exact HC0.out); rintro e w12 ⟨v203, rfl, ho0, hb⟩; refine ⟨_, rfl, ?_⟩; have n0_ := Aside0.mk (Kd.R_elder' (lR HO197.out) (Kd.R_base ho0) hb); have n1_ := Aside0.mk (Kd.R_below (lR HO201.out) hb); have n2_ := Aside0.mk (Kd.R_lower (Kd.R_new' ho0 (Kd.R_lt (lR HO197.out))) (below_size lB)); have n3_ := Aside0.mk (below_step lB hb); clear HO197; clear HO201; clear HB; have HO197 := n0_; have HO201 := n1_; have HO204 := n2_; have HB := n3_; clear n0_ n1_ n2_ n3_; (try clear hb); (try clear hb2); (try clear hk); (try clear hi); (try clear ho0); obtain ⟨Ao13, co13, eo13⟩ := Kd.R_slice HO204.out; subst eo13) | ((with_reducible refine gate_callee (f := 25) rfl ?_); refine gl_ (some 29) (Try.func25) #[.slice Ao13 t202.length co13] ?_; (with_reducible refine (impl_MayRaise.calls _ _ t202 t205 t206 _ ?side1 ?side2 A7.out).mono ?_); (case side1 => repeat (first | exact (Kd.R_reads' HO204.out).2.2 | (with_reducible refine Kd.C_alloc ?_ _) | (with_reducible refine Kd.C_drewN ?_ _) | (with_reducible refine Kd.C_drew ?_))); (case side2 => exact (Kd.R_reads' HO204.out).2.1); rintro e w14 ⟨v207, rfl, ho0, hb⟩; refine ⟨_, rfl, ?_⟩; have n0_ := Aside0.mk (Kd.R_below (lR HO197.out) hb); have n1_ := Aside0.mk (Kd.R_elder' (lR HO201.out) (Kd.R_base ho0) hb); have n2_ := Aside0.mk (Kd.R_below (lR HO204.out) hb); have n3_ := Aside0.mk (Kd.R_lower (Kd.R_new' ho0 (Kd.R_lt (lR HO201.out))) (below_size lB)); have n4_ := Aside0.mk (below_step lB hb); clear HO197; clear HO201; clear HO204; clear HB; have HO197 := n0_; have HO201 := n1_; have HO204 := n2_; have HO208 := n3_; have HB := n4_; clear n0_ n1_ n2_ n3_ n4_; (try clear hb); (try clear hb2); (try clear hk); (try clear hi); (try clear ho0)))
  (try simp only [Act.put, List.setIfInBounds_toArray, List.set_cons_zero, List.set_cons_succ])
  go_cut [40] (fun v40 wc => ∃ (kq : Nat) (x40_7 : Bool), v40 = .bool x40_7 ∧ Aside0 (laws_FnExactMayRaise.j0 kq l0 t198 t199 t202 t205 t206 x40_7 = some r) ∧ Aside0 (kq ≤ k) ∧ Aside0 (Kd.R (Kd.int .i64) 3 wc w.heap.size (fun k_ => some k_ ≠ (v207 : Value).ownBlock) v200 t198) ∧ Aside0 (Kd.R k76 76 wc w.heap.size (fun _ => True) (.slice Ao13 t202.length co13) t202) ∧ Aside0 (Kd.R (Kd.int .i64) 3 wc w.heap.size (fun k_ => some k_ ≠ (v200 : Value).ownBlock) v207 t205) ∧ Aside0 (Below w.heap.size w wc))
  case first =>
   have H := HC8.out
   clear HC8
   replace H := lO H
   obtain ⟨t209, A15, H⟩ := H
   by_cases c16 : t209 = true
   ·subst c16
    rw [if_pos rfl] at H
    have H' := Aside0.mk H
    clear H
    obtain ⟨Ao17, co17, eo17⟩ := Kd.R_slice HO208.out
    subst eo17
    obtain ⟨Ao18, co18, eo18⟩ := Kd.R_slice HO201.out
    subst eo18
    go_wp2_with (first | ((with_reducible refine gate_callee (f := 26) rfl ?_); refine gl_ (some 34) (Try.func26) #[.slice Ao17 t205.length co17, .slice Ao18 t198.length co18] ?_; (with_reducible refine (laws_eqIntS.calls k _ _ t205 _ _ t198 true _ ?side1 ?side2 ?side3 ?side4 A15.out).mono ?_); (case side1 => repeat (first | exact (Kd.R_reads' HO208.out).2.2 | (with_reducible refine Kd.C_alloc ?_ _) | (with_reducible refine Kd.C_drewN ?_ _) | (with_reducible refine Kd.C_drew ?_))); (case side2 => exact (Kd.R_reads' HO208.out).2.1); (case side3 => repeat (first | exact (Kd.R_reads' HO201.out).2.2 | (with_reducible refine Kd.C_alloc ?_ _) | (with_reducible refine Kd.C_drewN ?_ _) | (with_reducible refine Kd.C_drew ?_))); (case side4 => exact (Kd.R_reads' HO201.out).2.1); rintro e w' ⟨rfl, ⟨nd, rfl⟩⟩; refine ⟨_, rfl, ?_⟩))
    go_meet
    case rel => exact ⟨_, ((t206 != t199)), lF, H', ⟨lN⟩, ⟨by (with_reducible repeat (first | apply Kd.R_alloc | apply Kd.R_drewN | apply Kd.R_drew)); exact Kd.R_mono HO201.out (fun _ hk => hk.2)⟩, ⟨by (with_reducible repeat (first | apply Kd.R_alloc | apply Kd.R_drewN | apply Kd.R_drew)); exact Kd.R_mono HO204.out (fun _ hk => trivial)⟩, ⟨by (with_reducible repeat (first | apply Kd.R_alloc | apply Kd.R_drewN | apply Kd.R_drew)); exact Kd.R_mono HO208.out (fun _ hk => hk.2)⟩, ⟨lB⟩⟩
   ·replace c16 := Bool.eq_false_iff.mpr c16
    subst c16
    rw [if_neg (show ¬ (false = true) by decide)] at H
    have H' := Aside0.mk H
    clear H
    obtain ⟨Ao19, co19, eo19⟩ := Kd.R_slice HO208.out
    subst eo19
    obtain ⟨Ao20, co20, eo20⟩ := Kd.R_slice HO201.out
    subst eo20
    go_wp2_with (first | ((with_reducible refine gate_callee (f := 26) rfl ?_); refine gl_ (some 34) (Try.func26) #[.slice Ao19 t205.length co19, .slice Ao20 t198.length co20] ?_; (with_reducible refine (laws_eqIntS.calls k _ _ t205 _ _ t198 false _ ?side1 ?side2 ?side3 ?side4 A15.out).mono ?_); (case side1 => repeat (first | exact (Kd.R_reads' HO208.out).2.2 | (with_reducible refine Kd.C_alloc ?_ _) | (with_reducible refine Kd.C_drewN ?_ _) | (with_reducible refine Kd.C_drew ?_))); (case side2 => exact (Kd.R_reads' HO208.out).2.1); (case side3 => repeat (first | exact (Kd.R_reads' HO201.out).2.2 | (with_reducible refine Kd.C_alloc ?_ _) | (with_reducible refine Kd.C_drewN ?_ _) | (with_reducible refine Kd.C_drew ?_))); (case side4 => exact (Kd.R_reads' HO201.out).2.1); rintro e w' ⟨rfl, ⟨nd, rfl⟩⟩; refine ⟨_, rfl, ?_⟩))
    go_meet
    case rel => exact ⟨_, (true), lF, H', ⟨lN⟩, ⟨by (with_reducible repeat (first | apply Kd.R_alloc | apply Kd.R_drewN | apply Kd.R_drew)); exact Kd.R_mono HO201.out (fun _ hk => hk.2)⟩, ⟨by (with_reducible repeat (first | apply Kd.R_alloc | apply Kd.R_drewN | apply Kd.R_drew)); exact Kd.R_mono HO204.out (fun _ hk => trivial)⟩, ⟨by (with_reducible repeat (first | apply Kd.R_alloc | apply Kd.R_drewN | apply Kd.R_drew)); exact Kd.R_mono HO208.out (fun _ hk => hk.2)⟩, ⟨lB⟩⟩
  case rest =>
   clear HC8
   try clear c1
   try clear c2
   try clear p2
   try clear c3
   try clear c3b0
   try clear c6
   try clear c12
   try clear c14
   try clear c16
   obtain ⟨kq, x40_7, rfl, HA, HJ7, HO_4, HO_6, HO_7, HB⟩ := hcut
   cases kq with
   | zero => exact absurd HA.out (by simp [laws_FnExactMayRaise.j0])
   | succ kj7 =>
    have H := HA.out
    clear HA
    simp only [laws_FnExactMayRaise.j0] at H
    by_cases c21 : x40_7 = true
    ·subst c21
     rw [if_pos rfl] at H
     obtain rfl := Option.some.inj H
     first | (go_wp2; go_ret; exact ⟨lE, lB⟩) | (exfalso; simp only [decide_eq_false_iff_not, decide_eq_true_eq] at *; omega)
    ·replace c21 := Bool.eq_false_iff.mpr c21
     subst c21
     rw [if_neg (show ¬ (false = true) by decide)] at H
     replace H := lO H
     obtain ⟨t210, A22, H⟩ := H
     replace H := lO H
     obtain ⟨t213, A23, H⟩ := H
     by_cases c24 : t213 = true
     ·subst c24
      rw [if_pos rfl] at H
      replace H := Option.bind_eq_some_iff.mp H
      obtain ⟨⟨t214, t215⟩, A250, H⟩ := H
      replace H : (if t214 < 0 then (laws_FnExactMayRaise.j1 kj7 l0 t198 t199 t205 true) else ((laws_eqIntS.f kj7 t205 t198).bind fun t216 => (if t216 = true then (laws_FnExactMayRaise.j1 kj7 l0 t198 t199 t205 (t206 != t199)) else (laws_FnExactMayRaise.j1 kj7 l0 t198 t199 t205 true)))) = some r := H
      have A25 := Aside0.mk A250
      clear A250
      have HC26 := Aside0.mk H
      clear H
      go_upto_region 14 with (first | ((with_reducible refine gate_callee (f := 14) rfl ?_); refine gl_ (some 43) (Try.func14) #[.slice A0 l0.length c0] ?_; (with_reducible refine (laws_toXCellS.calls kj7 _ _ l0 t210 _ ?side1 ?side2 A22.out).mono ?_); (case side1 => exact lC (Kd.C_below HR0.out HB.out)); (case side2 => exact HC0.out); rintro e w27 ⟨v211, rfl, ho0, hb⟩; refine ⟨_, rfl, ?_⟩; have n0_ := Aside0.mk (Kd.R_below (lR HO_4.out) hb); have n1_ := Aside0.mk (Kd.R_elder' (lR HO_6.out) (Kd.R_base ho0) hb); have n2_ := Aside0.mk (Kd.R_below (lR HO_7.out) hb); have n3_ := Aside0.mk (Kd.R_lower (Kd.R_new' ho0 (Kd.R_lt (lR HO_6.out))) (below_size lB)); have n4_ := Aside0.mk (below_step lB hb); clear HO_4; clear HO_6; clear HO_7; clear HB; have HO_4 := n0_; have HO_6 := n1_; have HO_7 := n2_; have HO212 := n3_; have HB := n4_; clear n0_ n1_ n2_ n3_ n4_; (try clear hb); (try clear hb2); (try clear hk); (try clear hi); (try clear ho0); obtain ⟨Ao28, co28, eo28⟩ := Kd.R_slice HO212.out; subst eo28) | ((with_reducible refine gate_callee (f := 16) rfl ?_); refine gl_ (some 44) (Try.func16) #[.slice Ao13 t202.length co13, .slice Ao28 t210.length co28] ?_; (with_reducible refine (laws_eqXCellS.calls kj7 _ _ t202 _ _ t210 true _ ?side1 ?side2 ?side3 ?side4 A23.out).mono ?_); (case side1 => repeat (first | exact (Kd.R_reads' HO_6.out).2.2 | (with_reducible refine Kd.C_alloc ?_ _) | (with_reducible refine Kd.C_drewN ?_ _) | (with_reducible refine Kd.C_drew ?_))); (case side2 => exact (Kd.R_reads' HO_6.out).2.1); (case side3 => repeat (first | exact (Kd.R_reads' HO212.out).2.2 | (with_reducible refine Kd.C_alloc ?_ _) | (with_reducible refine Kd.C_drewN ?_ _) | (with_reducible refine Kd.C_drew ?_))); (case side4 => exact (Kd.R_reads' HO212.out).2.1); rintro e w29 ⟨rfl, hb⟩; refine ⟨_, rfl, ?_⟩; have n0_ := Aside0.mk (Kd.R_below (lR HO_4.out) hb); have n1_ := Aside0.mk (Kd.R_below (lR HO_6.out) hb); have n2_ := Aside0.mk (Kd.R_below (lR HO_7.out) hb); have n3_ := Aside0.mk (Kd.R_below (lR HO212.out) hb); have n4_ := Aside0.mk (below_step lB hb); clear HO_4; clear HO_6; clear HO_7; clear HO212; clear HB; have HO_4 := n0_; have HO_6 := n1_; have HO_7 := n2_; have HO212 := n3_; have HB := n4_; clear n0_ n1_ n2_ n3_ n4_; (try clear hb); (try clear hb2); (try clear hk); (try clear hi)) | ((with_reducible refine gate_callee (f := 27) rfl ?_); refine gl_ (some 48) (Try.func27) #[.slice Ao13 t202.length co13, .int .i64 1] ?_; (with_reducible refine (laws_markXCellS.calls kj7 (fun k_ => some k_ = (.slice Ao13 t202.length co13 : Value).ownBlock) (.slice Ao13 t202.length co13) t202 1 t214 t215 w _ ?side1 ?side2 A25.out).mono ?_); (case side1 => repeat (first | (with_reducible first | exact HB.out | apply below_alloc | apply pw_below_drewN | apply below_drew1) | exact HB.out)); (case side2 => exact Kd.R_tight rfl HO_6.out); rintro e w30 ⟨rfl, hy0, hb, hkp⟩; refine ⟨_, rfl, ?_⟩; have n0_ := Aside0.mk (Kd.R_mono (ok' := fun k_ => some k_ ≠ (v207 : Value).ownBlock) (Kd.R_keptB ((Kd.R_apart' HO_4.out (Kd.R_typed HO_6.out) (by decide))) hkp (fun k_ hk_ hs_ => (hk_.2) hs_)) (fun k_ hk_ => hk_.1.1)); have n1_ := Aside0.mk (Kd.R_reok rfl hy0 (fun k_ e_ => HO_6.out.1 k_ e_)); have n2_ := Aside0.mk (Kd.R_mono (ok' := fun k_ => some k_ ≠ (v200 : Value).ownBlock) (Kd.R_keptB ((Kd.R_apart' HO_7.out (Kd.R_typed HO_6.out) (by decide))) hkp (fun k_ hk_ hs_ => (hk_.2) hs_)) (fun k_ hk_ => hk_.1.1)); have n3_ := Aside0.mk (Kd.R_mono (ok' := fun k_ => some k_ ≠ (.slice Ao13 t202.length co13 : Value).ownBlock) (Kd.R_keptB (HO212.out) hkp (fun k_ hk_ hs_ => (hk_.2) hs_)) (fun k_ hk_ => hk_.1.2)); have n4_ := Aside0.mk (hb); clear HO_4; clear HO_6; clear HO_7; clear HO212; clear HB; have HO_4 := n0_; have HO_6 := n1_; have HO_7 := n2_; have HO212 := n3_; have HB := n4_; clear n0_ n1_ n2_ n3_ n4_; (try clear hb); (try clear hkp); (try clear hy0)))
      (try simp only [Act.put, List.setIfInBounds_toArray, List.set_cons_zero, List.set_cons_succ])
      go_cut [61] (fun v61 wc => ∃ (kq : Nat) (x61_25 : Bool), v61 = .bool x61_25 ∧ Aside0 (laws_FnExactMayRaise.j1 kq l0 t198 t199 t205 x61_25 = some r) ∧ Aside0 (kq ≤ kj7) ∧ Aside0 (Kd.R (Kd.int .i64) 3 wc w.heap.size (fun k_ => some k_ ≠ (v207 : Value).ownBlock) v200 t198) ∧ Aside0 (Kd.R (Kd.int .i64) 3 wc w.heap.size (fun k_ => some k_ ≠ (v200 : Value).ownBlock) v207 t205) ∧ Aside0 (Below w.heap.size w wc))
      case first =>
       have H := HC26.out
       clear HC26
       by_cases c31 : t214 < 0
       ·rw [if_pos c31] at H
        have c31b0 : decide (t214 < 0) = true := decide_eq_true c31
        clear c31
        (first | rw [c31b0] | (simp only [i64_w, i32_w]; rw [c31b0]) | skip)
        have H' := Aside0.mk H
        clear H
        go_wp2
        go_meet
        case rel => exact ⟨_, (true), lF, H', ⟨by have := HJ7.out; first | omega | exact Nat.le_refl _⟩, ⟨lR HO_4.out⟩, ⟨lR HO_7.out⟩, ⟨lB⟩⟩
       ·rw [if_neg c31] at H
        have c31b0 : decide (t214 < 0) = false := decide_eq_false c31
        clear c31
        (first | rw [c31b0] | (simp only [i64_w, i32_w]; rw [c31b0]) | skip)
        replace H := lO H
        obtain ⟨t216, A32, H⟩ := H
        by_cases c33 : t216 = true
        ·subst c33
         rw [if_pos rfl] at H
         have H' := Aside0.mk H
         clear H
         obtain ⟨Ao34, co34, eo34⟩ := Kd.R_slice HO_7.out
         subst eo34
         obtain ⟨Ao35, co35, eo35⟩ := Kd.R_slice HO_4.out
         subst eo35
         go_wp2_with (first | (go_at_call 26; (with_reducible refine (laws_eqIntS.calls kj7 _ _ t205 _ _ t198 true _ ?side1 ?side2 ?side3 ?side4 A32.out).mono ?_); (case side1 => repeat (first | exact (Kd.R_reads' HO_7.out).2.2 | (with_reducible refine Kd.C_alloc ?_ _) | (with_reducible refine Kd.C_drewN ?_ _) | (with_reducible refine Kd.C_drew ?_))); (case side2 => exact (Kd.R_reads' HO_7.out).2.1); (case side3 => repeat (first | exact (Kd.R_reads' HO_4.out).2.2 | (with_reducible refine Kd.C_alloc ?_ _) | (with_reducible refine Kd.C_drewN ?_ _) | (with_reducible refine Kd.C_drew ?_))); (case side4 => exact (Kd.R_reads' HO_4.out).2.1); rintro e w' ⟨rfl, ⟨nd, rfl⟩⟩))
         go_meet
         case rel => exact ⟨_, ((t206 != t199)), lF, H', ⟨by have := HJ7.out; first | omega | exact Nat.le_refl _⟩, ⟨lR HO_4.out⟩, ⟨lR HO_7.out⟩, ⟨lB⟩⟩
        ·replace c33 := Bool.eq_false_iff.mpr c33
         subst c33
         rw [if_neg (show ¬ (false = true) by decide)] at H
         have H' := Aside0.mk H
         clear H
         obtain ⟨Ao36, co36, eo36⟩ := Kd.R_slice HO_7.out
         subst eo36
         obtain ⟨Ao37, co37, eo37⟩ := Kd.R_slice HO_4.out
         subst eo37
         go_wp2_with (first | (go_at_call 26; (with_reducible refine (laws_eqIntS.calls kj7 _ _ t205 _ _ t198 false _ ?side1 ?side2 ?side3 ?side4 A32.out).mono ?_); (case side1 => repeat (first | exact (Kd.R_reads' HO_7.out).2.2 | (with_reducible refine Kd.C_alloc ?_ _) | (with_reducible refine Kd.C_drewN ?_ _) | (with_reducible refine Kd.C_drew ?_))); (case side2 => exact (Kd.R_reads' HO_7.out).2.1); (case side3 => repeat (first | exact (Kd.R_reads' HO_4.out).2.2 | (with_reducible refine Kd.C_alloc ?_ _) | (with_reducible refine Kd.C_drewN ?_ _) | (with_reducible refine Kd.C_drew ?_))); (case side4 => exact (Kd.R_reads' HO_4.out).2.1); rintro e w' ⟨rfl, ⟨nd, rfl⟩⟩))
         go_meet
         case rel => exact ⟨_, (true), lF, H', ⟨by have := HJ7.out; first | omega | exact Nat.le_refl _⟩, ⟨lR HO_4.out⟩, ⟨lR HO_7.out⟩, ⟨lB⟩⟩
      case rest =>
       clear HC26
       try clear c1
       try clear c2
       try clear p2
       try clear c3
       try clear c3b0
       try clear c6
       try clear c12
       try clear c14
       try clear c16
       try clear c21
       try clear c24
       try clear c25
       try clear c26
       try clear c27
       try clear c31
       try clear c31b0
       try clear c33
       try clear p2
       obtain ⟨kq, x61_25, rfl, HA, HJ25, HO_4, HO_7, HB⟩ := hcut
       cases kq with
       | zero => exact absurd HA.out (by simp [laws_FnExactMayRaise.j1])
       | succ kj25 =>
        have H := HA.out
        clear HA
        simp only [laws_FnExactMayRaise.j1] at H
        by_cases c38 : x61_25 = true
        ·subst c38
         rw [if_pos rfl] at H
         obtain rfl := Option.some.inj H
         first | (go_wp2; go_ret; exact ⟨lE, lB⟩) | (exfalso; simp only [decide_eq_false_iff_not, decide_eq_true_eq] at *; omega)
        ·replace c38 := Bool.eq_false_iff.mpr c38
         subst c38
         rw [if_neg (show ¬ (false = true) by decide)] at H
         replace H := Option.bind_eq_some_iff.mp H
         obtain ⟨⟨t217, t218⟩, A390, H⟩ := H
         replace H : ((laws_heldIntS.f kj25 t218 1).bind fun t219 => (if t219 < 0 then (some false) else (if t219 = t217 then ((laws_toXCellS.f kj25 l0).bind fun t220 => ((impl_MayRaise.f t220).bind fun bt223 => ((laws_eqIntS.f kj25 bt223.1 t198).bind fun t227 => (if t227 = true then (laws_FnExactMayRaise.j2 kj25 t218 t217 (bt223.2 != t199)) else (laws_FnExactMayRaise.j2 kj25 t218 t217 true))))) else (some false)))) = some r := H
         have A39 := Aside0.mk A390
         clear A390
         replace H := lO H
         obtain ⟨t219, A40, H⟩ := H
         by_cases c41 : t219 < 0
         ·rw [if_pos c41] at H
          have c41b0 : decide (t219 < 0) = true := decide_eq_true c41
          clear c41
          obtain rfl := Option.some.inj H
          obtain ⟨Ao42, co42, eo42⟩ := Kd.R_slice HO_7.out
          subst eo42
          go_wp2_with (first | ((with_reducible refine gate_callee (f := 28) rfl ?_); refine gl_ (some 64) (Try.func28) #[.slice Ao42 t205.length co42, .int .i64 1] ?_; (with_reducible refine (laws_markIntS.calls kj25 (fun k_ => some k_ = (.slice Ao42 t205.length co42 : Value).ownBlock) (.slice Ao42 t205.length co42) t205 1 t217 t218 w _ ?side1 ?side2 A39.out).mono ?_); (case side1 => repeat (first | (with_reducible first | exact HB.out | apply below_alloc | apply pw_below_drewN | apply below_drew1) | exact HB.out)); (case side2 => exact Kd.R_tight rfl HO_7.out); rintro e w43 ⟨rfl, hy0, hb, hkp⟩; refine ⟨_, rfl, ?_⟩; have n0_ := Aside0.mk (Kd.R_mono (ok' := fun k_ => some k_ ≠ (.slice Ao42 t205.length co42 : Value).ownBlock) (Kd.R_keptB (HO_4.out) hkp (fun k_ hk_ hs_ => (hk_) hs_)) (fun k_ hk_ => hk_.1)); have n1_ := Aside0.mk (Kd.R_reok rfl hy0 (fun k_ e_ => HO_7.out.1 k_ e_)); have n2_ := Aside0.mk (hb); clear HO_4; clear HO_7; clear HB; have HO_4 := n0_; have HO_7 := n1_; have HB := n2_; clear n0_ n1_ n2_; (try clear hb); (try clear hkp); (try clear hy0)) | ((with_reducible refine gate_callee (f := 29) rfl ?_); refine goesL_ (some 67) rfl rfl Try.func29 (by kernel_rfl) rfl #[.slice Ao42 t218.length co42, .int .i64 1] rfl (by (try simp only [List.map_toArray, List.map_cons, List.map_nil]); first | done | (rw [show t218.length = t205.length from (Kd.R_reads' HO_7.out).1.symm] <;> rfl) | rfl | (simp only [List.length_drop, List.length_take]; rfl)) ?_; (with_reducible refine (laws_heldIntS.calls kj25 _ _ t218 1 t219 _ ?side1 ?side2 A40.out).mono ?_); (case side1 => repeat (first | exact (Kd.R_reads' HO_7.out).2.2 | (with_reducible refine Kd.C_alloc ?_ _) | (with_reducible refine Kd.C_drewN ?_ _) | (with_reducible refine Kd.C_drew ?_))); (case side2 => rw [show t218.length = t205.length from (Kd.R_reads' HO_7.out).1.symm]; exact (Kd.R_reads' HO_7.out).2.1); rintro e w' ⟨rfl, ⟨nd, rfl⟩⟩; refine ⟨_, rfl, ?_⟩))
          go_ret
          exact ⟨lE, lB⟩
         ·rw [if_neg c41] at H
          have c41b0 : decide (t219 < 0) = false := decide_eq_false c41
          clear c41
          by_cases c44 : t219 = t217
          ·rw [if_pos c44] at H
           have c44b0 : (t219 == t217) = true := beq_iff_eq.mpr c44
           have c44b1 : (t219 != t217) = false := bne_eq_false_iff_eq.mpr c44
           clear c44
           replace H := lO H
           obtain ⟨t220, A45, H⟩ := H
           replace H := Option.bind_eq_some_iff.mp H
           obtain ⟨⟨t223, t224⟩, A460, H⟩ := H
           replace H : ((laws_eqIntS.f kj25 t223 t198).bind fun t227 => (if t227 = true then (laws_FnExactMayRaise.j2 kj25 t218 t217 (t224 != t199)) else (laws_FnExactMayRaise.j2 kj25 t218 t217 true))) = some r := H
           have A46 := Aside0.mk A460
           clear A460
           have HC47 := Aside0.mk H
           clear H
           obtain ⟨Ao48, co48, eo48⟩ := Kd.R_slice HO_7.out
           subst eo48
           go_upto_region 25 with (first | ((with_reducible refine gate_callee (f := 28) rfl ?_); refine gl_ (some 64) (Try.func28) #[.slice Ao48 t205.length co48, .int .i64 1] ?_; (with_reducible refine (laws_markIntS.calls kj25 (fun k_ => some k_ = (.slice Ao48 t205.length co48 : Value).ownBlock) (.slice Ao48 t205.length co48) t205 1 t217 t218 w _ ?side1 ?side2 A39.out).mono ?_); (case side1 => repeat (first | (with_reducible first | exact HB.out | apply below_alloc | apply pw_below_drewN | apply below_drew1) | exact HB.out)); (case side2 => exact Kd.R_tight rfl HO_7.out); rintro e w49 ⟨rfl, hy0, hb, hkp⟩; refine ⟨_, rfl, ?_⟩; have n0_ := Aside0.mk (Kd.R_mono (ok' := fun k_ => some k_ ≠ (.slice Ao48 t205.length co48 : Value).ownBlock) (Kd.R_keptB (HO_4.out) hkp (fun k_ hk_ hs_ => (hk_) hs_)) (fun k_ hk_ => hk_.1)); have n1_ := Aside0.mk (Kd.R_reok rfl hy0 (fun k_ e_ => HO_7.out.1 k_ e_)); have n2_ := Aside0.mk (hb); clear HO_4; clear HO_7; clear HB; have HO_4 := n0_; have HO_7 := n1_; have HB := n2_; clear n0_ n1_ n2_; (try clear hb); (try clear hkp); (try clear hy0)) | ((with_reducible refine gate_callee (f := 29) rfl ?_); refine goesL_ (some 67) rfl rfl Try.func29 (by kernel_rfl) rfl #[.slice Ao48 t218.length co48, .int .i64 1] rfl (by (try simp only [List.map_toArray, List.map_cons, List.map_nil]); first | done | (rw [show t218.length = t205.length from (Kd.R_reads' HO_7.out).1.symm] <;> rfl) | rfl | (simp only [List.length_drop, List.length_take]; rfl)) ?_; (with_reducible refine (laws_heldIntS.calls kj25 _ _ t218 1 t219 _ ?side1 ?side2 A40.out).mono ?_); (case side1 => repeat (first | exact (Kd.R_reads' HO_7.out).2.2 | (with_reducible refine Kd.C_alloc ?_ _) | (with_reducible refine Kd.C_drewN ?_ _) | (with_reducible refine Kd.C_drew ?_))); (case side2 => rw [show t218.length = t205.length from (Kd.R_reads' HO_7.out).1.symm]; exact (Kd.R_reads' HO_7.out).2.1); rintro e w' ⟨rfl, ⟨nd, rfl⟩⟩; refine ⟨_, rfl, ?_⟩) | ((with_reducible refine gate_callee (f := 14) rfl ?_); refine gl_ (some 75) (Try.func14) #[.slice A0 l0.length c0] ?_; (with_reducible refine (laws_toXCellS.calls kj25 _ _ l0 t220 _ ?side1 ?side2 A45.out).mono ?_); (case side1 => repeat (first | exact (Kd.C_below HR0.out lB) | (with_reducible refine Kd.C_alloc ?_ _) | (with_reducible refine Kd.C_drewN ?_ _) | (with_reducible refine Kd.C_drew ?_))); (case side2 => exact HC0.out); rintro e w50 ⟨v221, rfl, ho0, hb⟩; refine ⟨_, rfl, ?_⟩; have n0_ := Aside0.mk (Kd.R_below (lR HO_4.out) hb); have n1_ := Aside0.mk (Kd.R_below (lR HO_7.out) hb); have n2_ := Aside0.mk (Kd.R_lower ho0 (below_size lB)); have n3_ := Aside0.mk (below_step lB hb); clear HO_4; clear HO_7; clear HB; have HO_4 := n0_; have HO_7 := n1_; have HO222 := n2_; have HB := n3_; clear n0_ n1_ n2_ n3_; (try clear hb); (try clear hb2); (try clear hk); (try clear hi); (try clear ho0); obtain ⟨Ao51, co51, eo51⟩ := Kd.R_slice HO222.out; subst eo51) | ((with_reducible refine gate_callee (f := 25) rfl ?_); refine gl_ (some 76) (Try.func25) #[.slice Ao51 t220.length co51] ?_; (with_reducible refine (impl_MayRaise.calls _ _ t220 t223 t224 _ ?side1 ?side2 A46.out).mono ?_); (case side1 => repeat (first | exact (Kd.R_reads' HO222.out).2.2 | (with_reducible refine Kd.C_alloc ?_ _) | (with_reducible refine Kd.C_drewN ?_ _) | (with_reducible refine Kd.C_drew ?_))); (case side2 => exact (Kd.R_reads' HO222.out).2.1); rintro e w52 ⟨v225, rfl, ho0, hb⟩; refine ⟨_, rfl, ?_⟩; have n0_ := Aside0.mk (Kd.R_elder' (lR HO_4.out) (Kd.R_base ho0) hb); have n1_ := Aside0.mk (Kd.R_elder' (lR HO_7.out) (Kd.R_base ho0) hb); have n2_ := Aside0.mk (Kd.R_below (lR HO222.out) hb); have n3_ := Aside0.mk (Kd.R_lower (Kd.R_new' (Kd.R_new' ho0 (Kd.R_lt (lR HO_4.out))) (Kd.R_lt (lR HO_7.out))) (below_size lB)); have n4_ := Aside0.mk (below_step lB hb); clear HO_4; clear HO_7; clear HO222; clear HB; have HO_4 := n0_; have HO_7 := n1_; have HO222 := n2_; have HO226 := n3_; have HB := n4_; clear n0_ n1_ n2_ n3_ n4_; (try clear hb); (try clear hb2); (try clear hk); (try clear hi); (try clear ho0)))
           (try simp only [Act.put, List.setIfInBounds_toArray, List.set_cons_zero, List.set_cons_succ])
           go_cut [87] (fun v87 wc => ∃ (kq : Nat) (x87_46 : Bool), v87 = .bool x87_46 ∧ Aside0 (laws_FnExactMayRaise.j2 kq t218 t217 x87_46 = some r) ∧ Aside0 (kq ≤ kj25) ∧ Aside0 (Kd.R (Kd.int .i64) 3 wc w.heap.size (fun _ => True) (.slice Ao48 t205.length co48) t218) ∧ Aside0 (Below w.heap.size w wc))
           case first =>
            have H := HC47.out
            clear HC47
            replace H := lO H
            obtain ⟨t227, A53, H⟩ := H
            by_cases c54 : t227 = true
            ·subst c54
             rw [if_pos rfl] at H
             have H' := Aside0.mk H
             clear H
             obtain ⟨Ao55, co55, eo55⟩ := Kd.R_slice HO226.out
             subst eo55
             obtain ⟨Ao56, co56, eo56⟩ := Kd.R_slice HO_4.out
             subst eo56
             go_wp2_with (first | ((with_reducible refine gate_callee (f := 26) rfl ?_); refine gl_ (some 81) (Try.func26) #[.slice Ao55 t223.length co55, .slice Ao56 t198.length co56] ?_; (with_reducible refine (laws_eqIntS.calls kj25 _ _ t223 _ _ t198 true _ ?side1 ?side2 ?side3 ?side4 A53.out).mono ?_); (case side1 => repeat (first | exact (Kd.R_reads' HO226.out).2.2 | (with_reducible refine Kd.C_alloc ?_ _) | (with_reducible refine Kd.C_drewN ?_ _) | (with_reducible refine Kd.C_drew ?_))); (case side2 => exact (Kd.R_reads' HO226.out).2.1); (case side3 => repeat (first | exact (Kd.R_reads' HO_4.out).2.2 | (with_reducible refine Kd.C_alloc ?_ _) | (with_reducible refine Kd.C_drewN ?_ _) | (with_reducible refine Kd.C_drew ?_))); (case side4 => exact (Kd.R_reads' HO_4.out).2.1); rintro e w' ⟨rfl, ⟨nd, rfl⟩⟩; refine ⟨_, rfl, ?_⟩))
             go_meet
             case rel => exact ⟨_, ((t224 != t199)), lF, H', ⟨by have := HJ7.out; have := HJ25.out; first | omega | exact Nat.le_refl _⟩, ⟨by (with_reducible repeat (first | apply Kd.R_alloc | apply Kd.R_drewN | apply Kd.R_drew)); exact Kd.R_mono HO_7.out (fun _ hk => trivial)⟩, ⟨lB⟩⟩
            ·replace c54 := Bool.eq_false_iff.mpr c54
             subst c54
             rw [if_neg (show ¬ (false = true) by decide)] at H
             have H' := Aside0.mk H
             clear H
             obtain ⟨Ao57, co57, eo57⟩ := Kd.R_slice HO226.out
             subst eo57
             obtain ⟨Ao58, co58, eo58⟩ := Kd.R_slice HO_4.out
             subst eo58
             go_wp2_with (first | ((with_reducible refine gate_callee (f := 26) rfl ?_); refine gl_ (some 81) (Try.func26) #[.slice Ao57 t223.length co57, .slice Ao58 t198.length co58] ?_; (with_reducible refine (laws_eqIntS.calls kj25 _ _ t223 _ _ t198 false _ ?side1 ?side2 ?side3 ?side4 A53.out).mono ?_); (case side1 => repeat (first | exact (Kd.R_reads' HO226.out).2.2 | (with_reducible refine Kd.C_alloc ?_ _) | (with_reducible refine Kd.C_drewN ?_ _) | (with_reducible refine Kd.C_drew ?_))); (case side2 => exact (Kd.R_reads' HO226.out).2.1); (case side3 => repeat (first | exact (Kd.R_reads' HO_4.out).2.2 | (with_reducible refine Kd.C_alloc ?_ _) | (with_reducible refine Kd.C_drewN ?_ _) | (with_reducible refine Kd.C_drew ?_))); (case side4 => exact (Kd.R_reads' HO_4.out).2.1); rintro e w' ⟨rfl, ⟨nd, rfl⟩⟩; refine ⟨_, rfl, ?_⟩))
             go_meet
             case rel => exact ⟨_, (true), lF, H', ⟨by have := HJ7.out; have := HJ25.out; first | omega | exact Nat.le_refl _⟩, ⟨by (with_reducible repeat (first | apply Kd.R_alloc | apply Kd.R_drewN | apply Kd.R_drew)); exact Kd.R_mono HO_7.out (fun _ hk => trivial)⟩, ⟨lB⟩⟩
           case rest =>
            clear HC47
            try clear c1
            try clear c2
            try clear p2
            try clear c3
            try clear c3b0
            try clear c4
            try clear c5
            try clear c6
            try clear c12
            try clear c14
            try clear c16
            try clear c21
            try clear c24
            try clear c25
            try clear c26
            try clear c27
            try clear c28
            try clear c29
            try clear c31
            try clear c31b0
            try clear c33
            try clear c38
            try clear c41
            try clear c41b0
            try clear c44
            try clear c44b0
            try clear c44b1
            try clear c54
            try clear p2
            obtain ⟨kq, x87_46, rfl, HA, HJ46, HO_7, HB⟩ := hcut
            have hl7_46 := (Kd.R_reads' HO_7.out).1
            rw [hl7_46] at HO_7
            (try simp only [hl7_46])
            cases kq with
            | zero => exact absurd HA.out (by simp [laws_FnExactMayRaise.j2])
            | succ kj46 =>
             have H := HA.out
             clear HA
             simp only [laws_FnExactMayRaise.j2] at H
             by_cases c59 : x87_46 = true
             ·subst c59
              rw [if_pos rfl] at H
              obtain rfl := Option.some.inj H
              first | (go_wp2; go_ret; exact ⟨lE, lB⟩) | (exfalso; simp only [decide_eq_false_iff_not, decide_eq_true_eq] at *; omega)
             ·replace c59 := Bool.eq_false_iff.mpr c59
              subst c59
              rw [if_neg (show ¬ (false = true) by decide)] at H
              replace H := lO H
              obtain ⟨t228, A60, H⟩ := H
              by_cases c61 : t228 < 0
              ·rw [if_pos c61] at H
               have c61b0 : decide (t228 < 0) = true := decide_eq_true c61
               clear c61
               obtain rfl := Option.some.inj H
               go_wp2_with (first | ((with_reducible refine gate_callee (f := 29) rfl ?_); refine gl_ (some 90) (Try.func29) #[.slice Ao48 t218.length co48, .int .i64 1] ?_; (with_reducible refine (laws_heldIntS.calls kj46 _ _ t218 1 t228 _ ?side1 ?side2 A60.out).mono ?_); (case side1 => repeat (first | exact (Kd.R_reads' HO_7.out).2.2 | (with_reducible refine Kd.C_alloc ?_ _) | (with_reducible refine Kd.C_drewN ?_ _) | (with_reducible refine Kd.C_drew ?_))); (case side2 => exact (Kd.R_reads' HO_7.out).2.1); rintro e w' ⟨rfl, ⟨nd, rfl⟩⟩; refine ⟨_, rfl, ?_⟩))
               go_ret
               exact ⟨lE, lB⟩
              ·rw [if_neg c61] at H
               have c61b0 : decide (t228 < 0) = false := decide_eq_false c61
               clear c61
               by_cases c62 : t228 = t217
               ·rw [if_pos c62] at H
                have c62b0 : (t228 == t217) = true := beq_iff_eq.mpr c62
                have c62b1 : (t228 != t217) = false := bne_eq_false_iff_eq.mpr c62
                clear c62
                obtain rfl := Option.some.inj H
                go_wp2_with (first | ((with_reducible refine gate_callee (f := 29) rfl ?_); refine gl_ (some 90) (Try.func29) #[.slice Ao48 t218.length co48, .int .i64 1] ?_; (with_reducible refine (laws_heldIntS.calls kj46 _ _ t218 1 t228 _ ?side1 ?side2 A60.out).mono ?_); (case side1 => repeat (first | exact (Kd.R_reads' HO_7.out).2.2 | (with_reducible refine Kd.C_alloc ?_ _) | (with_reducible refine Kd.C_drewN ?_ _) | (with_reducible refine Kd.C_drew ?_))); (case side2 => exact (Kd.R_reads' HO_7.out).2.1); rintro e w' ⟨rfl, ⟨nd, rfl⟩⟩; refine ⟨_, rfl, ?_⟩))
                go_ret
                exact ⟨lE, lB⟩
               ·rw [if_neg c62] at H
                have c62b0 : (t228 == t217) = false := beq_eq_false_iff_ne.mpr c62
                have c62b1 : (t228 != t217) = true := bne_iff_ne.mpr c62
                obtain rfl := Option.some.inj H
                go_wp2_with (first | ((with_reducible refine gate_callee (f := 29) rfl ?_); refine gl_ (some 90) (Try.func29) #[.slice Ao48 t218.length co48, .int .i64 1] ?_; (with_reducible refine (laws_heldIntS.calls kj46 _ _ t218 1 t228 _ ?side1 ?side2 A60.out).mono ?_); (case side1 => repeat (first | exact (Kd.R_reads' HO_7.out).2.2 | (with_reducible refine Kd.C_alloc ?_ _) | (with_reducible refine Kd.C_drewN ?_ _) | (with_reducible refine Kd.C_drew ?_))); (case side2 => exact (Kd.R_reads' HO_7.out).2.1); rintro e w' ⟨rfl, ⟨nd, rfl⟩⟩; refine ⟨_, rfl, ?_⟩))
                go_ret
                exact ⟨lE, lB⟩
          ·rw [if_neg c44] at H
           have c44b0 : (t219 == t217) = false := beq_eq_false_iff_ne.mpr c44
           have c44b1 : (t219 != t217) = true := bne_iff_ne.mpr c44
           obtain rfl := Option.some.inj H
           obtain ⟨Ao63, co63, eo63⟩ := Kd.R_slice HO_7.out
           subst eo63
           go_wp2_with (first | ((with_reducible refine gate_callee (f := 28) rfl ?_); refine gl_ (some 64) (Try.func28) #[.slice Ao63 t205.length co63, .int .i64 1] ?_; (with_reducible refine (laws_markIntS.calls kj25 (fun k_ => some k_ = (.slice Ao63 t205.length co63 : Value).ownBlock) (.slice Ao63 t205.length co63) t205 1 t217 t218 w _ ?side1 ?side2 A39.out).mono ?_); (case side1 => repeat (first | (with_reducible first | exact HB.out | apply below_alloc | apply pw_below_drewN | apply below_drew1) | exact HB.out)); (case side2 => exact Kd.R_tight rfl HO_7.out); rintro e w64 ⟨rfl, hy0, hb, hkp⟩; refine ⟨_, rfl, ?_⟩; have n0_ := Aside0.mk (Kd.R_mono (ok' := fun k_ => some k_ ≠ (.slice Ao63 t205.length co63 : Value).ownBlock) (Kd.R_keptB (HO_4.out) hkp (fun k_ hk_ hs_ => (hk_) hs_)) (fun k_ hk_ => hk_.1)); have n1_ := Aside0.mk (Kd.R_reok rfl hy0 (fun k_ e_ => HO_7.out.1 k_ e_)); have n2_ := Aside0.mk (hb); clear HO_4; clear HO_7; clear HB; have HO_4 := n0_; have HO_7 := n1_; have HB := n2_; clear n0_ n1_ n2_; (try clear hb); (try clear hkp); (try clear hy0)) | ((with_reducible refine gate_callee (f := 29) rfl ?_); refine goesL_ (some 67) rfl rfl Try.func29 (by kernel_rfl) rfl #[.slice Ao63 t218.length co63, .int .i64 1] rfl (by (try simp only [List.map_toArray, List.map_cons, List.map_nil]); first | done | (rw [show t218.length = t205.length from (Kd.R_reads' HO_7.out).1.symm] <;> rfl) | rfl | (simp only [List.length_drop, List.length_take]; rfl)) ?_; (with_reducible refine (laws_heldIntS.calls kj25 _ _ t218 1 t219 _ ?side1 ?side2 A40.out).mono ?_); (case side1 => repeat (first | exact (Kd.R_reads' HO_7.out).2.2 | (with_reducible refine Kd.C_alloc ?_ _) | (with_reducible refine Kd.C_drewN ?_ _) | (with_reducible refine Kd.C_drew ?_))); (case side2 => rw [show t218.length = t205.length from (Kd.R_reads' HO_7.out).1.symm]; exact (Kd.R_reads' HO_7.out).2.1); rintro e w' ⟨rfl, ⟨nd, rfl⟩⟩; refine ⟨_, rfl, ?_⟩))
           go_ret
           exact ⟨lE, lB⟩
     ·replace c24 := Bool.eq_false_iff.mpr c24
      subst c24
      rw [if_neg (show ¬ (false = true) by decide)] at H
      obtain rfl := Option.some.inj H
      go_wp2_with (first | ((with_reducible refine gate_callee (f := 14) rfl ?_); refine gl_ (some 43) (Try.func14) #[.slice A0 l0.length c0] ?_; (with_reducible refine (laws_toXCellS.calls kj7 _ _ l0 t210 _ ?side1 ?side2 A22.out).mono ?_); (case side1 => exact lC (Kd.C_below HR0.out HB.out)); (case side2 => exact HC0.out); rintro e w65 ⟨v211, rfl, ho0, hb⟩; refine ⟨_, rfl, ?_⟩; have n0_ := Aside0.mk (Kd.R_below (lR HO_4.out) hb); have n1_ := Aside0.mk (Kd.R_elder' (lR HO_6.out) (Kd.R_base ho0) hb); have n2_ := Aside0.mk (Kd.R_below (lR HO_7.out) hb); have n3_ := Aside0.mk (Kd.R_lower (Kd.R_new' ho0 (Kd.R_lt (lR HO_6.out))) (below_size lB)); have n4_ := Aside0.mk (below_step lB hb); clear HO_4; clear HO_6; clear HO_7; clear HB; have HO_4 := n0_; have HO_6 := n1_; have HO_7 := n2_; have HO212 := n3_; have HB := n4_; clear n0_ n1_ n2_ n3_ n4_; (try clear hb); (try clear hb2); (try clear hk); (try clear hi); (try clear ho0); obtain ⟨Ao66, co66, eo66⟩ := Kd.R_slice HO212.out; subst eo66) | ((with_reducible refine gate_callee (f := 16) rfl ?_); refine gl_ (some 44) (Try.func16) #[.slice Ao13 t202.length co13, .slice Ao66 t210.length co66] ?_; (with_reducible refine (laws_eqXCellS.calls kj7 _ _ t202 _ _ t210 false _ ?side1 ?side2 ?side3 ?side4 A23.out).mono ?_); (case side1 => repeat (first | exact (Kd.R_reads' HO_6.out).2.2 | (with_reducible refine Kd.C_alloc ?_ _) | (with_reducible refine Kd.C_drewN ?_ _) | (with_reducible refine Kd.C_drew ?_))); (case side2 => exact (Kd.R_reads' HO_6.out).2.1); (case side3 => repeat (first | exact (Kd.R_reads' HO212.out).2.2 | (with_reducible refine Kd.C_alloc ?_ _) | (with_reducible refine Kd.C_drewN ?_ _) | (with_reducible refine Kd.C_drew ?_))); (case side4 => exact (Kd.R_reads' HO212.out).2.1); rintro e w67 ⟨rfl, hb⟩; refine ⟨_, rfl, ?_⟩; have n0_ := Aside0.mk (Kd.R_below (lR HO_4.out) hb); have n1_ := Aside0.mk (Kd.R_below (lR HO_6.out) hb); have n2_ := Aside0.mk (Kd.R_below (lR HO_7.out) hb); have n3_ := Aside0.mk (Kd.R_below (lR HO212.out) hb); have n4_ := Aside0.mk (below_step lB hb); clear HO_4; clear HO_6; clear HO_7; clear HO212; clear HB; have HO_4 := n0_; have HO_6 := n1_; have HO_7 := n2_; have HO212 := n3_; have HB := n4_; clear n0_ n1_ n2_ n3_ n4_; (try clear hb); (try clear hb2); (try clear hk); (try clear hi)))
      go_ret
      exact ⟨lE, lB⟩

end Go.Proofs.Ytgjojppbichaiaa.Q
