-- Written by the program wip/tools/pr.py of this claim's session, over the kit's print.py.
import Derived.Test.YtgjojppbichaiaaQx0
import Derived.Test.YtgjojppbichaiaaQx1
import Derived.Test.YtgjojppbichaiaaQx2
import Derived.Test.YtgjojppbichaiaaQx4
import Derived.Test.YtgjojppbichaiaaQx5
namespace Go.Proofs.Ytgjojppbichaiaa.Q
open Go.RowKit Go.Proofs.YtgjojppbichaiaaW.PrintWords Go.Proofs.YtgjojppbichaiaaW.PrintLast Go.Proofs.YtgjojppbichaiaaW.PrintMore
attribute [local go_sem] max2_int min2_int max_two min_two max_three min_three max_four min_four   -- for this text's walks alone
set_option linter.unusedVariables false
set_option linter.unusedSimpArgs false

/-! ### laws_FnExactEvalTree: function 7 -/
mutual
def laws_FnExactEvalTree.j0 : Nat → List (S78) → List Int → Int → Bool → List (S76) → List Int → Int → Bool → Bool → Option (Bool)
 | 0, _, _, _, _, _, _, _, _, _ => none
 | k + 1, x0, x4, x5, x6, x7, x8, x9, x10, x50 => if x50 = true then (some false) else ((laws_toXCellS.f k x0).bind fun t176 => ((laws_eqXCellS.f k x7 t176).bind fun t179 => (if t179 = true then ((laws_markXCellS.f k x7 1).bind fun bt180 => (if bt180.1 < 0 then (laws_FnExactEvalTree.j1 k x0 x4 x5 x6 x8 true) else ((laws_eqIntS.f k x8 x4).bind fun t182 => (if t182 = true then (if x9 = x5 then (laws_FnExactEvalTree.j1 k x0 x4 x5 x6 x8 (x10 != x6)) else (laws_FnExactEvalTree.j1 k x0 x4 x5 x6 x8 true)) else (laws_FnExactEvalTree.j1 k x0 x4 x5 x6 x8 true))))) else (some false))))
def laws_FnExactEvalTree.j1 : Nat → List (S78) → List Int → Int → Bool → List Int → Bool → Option (Bool)
 | 0, _, _, _, _, _, _ => none
 | k + 1, x0, x4, x5, x6, x8, x76 => if x76 = true then (some false) else ((laws_markIntS.f k x8 1).bind fun bt183 => ((laws_heldIntS.f k bt183.2 1).bind fun t185 => (if t185 < 0 then (some false) else (if t185 = bt183.1 then ((laws_toXCellS.f k x0).bind fun t186 => ((impl_EvalTree.f t186).bind fun bt189 => ((laws_eqIntS.f k bt189.1 x4).bind fun t194 => (if t194 = true then (if bt189.2.1 = x5 then (laws_FnExactEvalTree.j2 k bt183.2 bt183.1 (bt189.2.2 != x6)) else (laws_FnExactEvalTree.j2 k bt183.2 bt183.1 true)) else (laws_FnExactEvalTree.j2 k bt183.2 bt183.1 true))))) else (some false)))))
def laws_FnExactEvalTree.j2 : Nat → List Int → Int → Bool → Option (Bool)
 | 0, _, _, _ => none
 | k + 1, x8, x12, x108 => if x108 = true then (some false) else ((laws_heldIntS.f k x8 1).bind fun t195 => (if t195 < 0 then (some false) else (if t195 = x12 then (some true) else (some false))))
end
def laws_FnExactEvalTree.f (k : Nat) (l0 : List (S78)) : Option (Bool) := (laws_szXCellS.f l0 1048576).bind fun t158 => (if t158 < 0 then (some true) else ((laws_toXCellS.f k l0).bind fun t159 => ((spec_EvalTree.f k t159).bind fun bt162 => ((laws_toXCellS.f k l0).bind fun t167 => ((impl_EvalTree.f t167).bind fun bt170 => ((laws_eqIntS.f k bt170.1 bt162.1).bind fun t175 => (if t175 = true then (if bt170.2.1 = bt162.2.1 then (laws_FnExactEvalTree.j0 k l0 bt162.1 bt162.2.1 bt162.2.2 t167 bt170.1 bt170.2.1 bt170.2.2 (bt170.2.2 != bt162.2.2)) else (laws_FnExactEvalTree.j0 k l0 bt162.1 bt162.2.1 bt162.2.2 t167 bt170.1 bt170.2.1 bt170.2.2 true)) else (laws_FnExactEvalTree.j0 k l0 bt162.1 bt162.2.1 bt162.2.2 t167 bt170.1 bt170.2.1 bt170.2.2 true))))))))
theorem laws_FnExactEvalTree.mono_l : ∀ k, (∀ y0 y1 y2 y3 y4 y5 y6 y7 y8, LeO (laws_FnExactEvalTree.j0 k y0 y1 y2 y3 y4 y5 y6 y7 y8) (laws_FnExactEvalTree.j0 (k + 1) y0 y1 y2 y3 y4 y5 y6 y7 y8)) ∧ (∀ y0 y1 y2 y3 y4 y5, LeO (laws_FnExactEvalTree.j1 k y0 y1 y2 y3 y4 y5) (laws_FnExactEvalTree.j1 (k + 1) y0 y1 y2 y3 y4 y5)) ∧ (∀ y0 y1 y2, LeO (laws_FnExactEvalTree.j2 k y0 y1 y2) (laws_FnExactEvalTree.j2 (k + 1) y0 y1 y2))
 | 0 => ⟨fun _ _ _ _ _ _ _ _ _ r h => by simp [laws_FnExactEvalTree.j0] at h, fun _ _ _ _ _ _ r h => by simp [laws_FnExactEvalTree.j1] at h, fun _ _ _ r h => by simp [laws_FnExactEvalTree.j2] at h⟩
 | k + 1 => by
  obtain ⟨ih0, ih1, ih2⟩ := laws_FnExactEvalTree.mono_l k
  refine ⟨?_, ?_, ?_⟩
  ·intro y0 y1 y2 y3 y4 y5 y6 y7 y8
   unfold laws_FnExactEvalTree.j0
   repeat' first
   | with_reducible apply ih0
   | with_reducible apply ih1
   | with_reducible apply ih2
   | with_reducible apply laws_eqIntS.mono
   | with_reducible apply laws_eqXCellS.mono
   | with_reducible apply laws_heldIntS.mono
   | with_reducible apply laws_markIntS.mono
   | with_reducible apply laws_markXCellS.mono
   | with_reducible apply laws_toXCellS.mono
   | with_reducible apply spec_EvalTree.mono
   | (with_reducible exact LeO.refl _)
   | (with_reducible exact LeO.none _)
   | (with_reducible refine LeO.ite ?_ ?_)
   | (with_reducible refine LeO.bind ?_ (fun _ => ?_))
   | apply ih0
   | apply ih1
   | apply ih2
   | apply laws_eqIntS.mono
   | apply laws_eqXCellS.mono
   | apply laws_heldIntS.mono
   | apply laws_markIntS.mono
   | apply laws_markXCellS.mono
   | apply laws_toXCellS.mono
   | apply spec_EvalTree.mono
   | exact LeO.none _
   | refine LeO.ite ?_ ?_
   | refine LeO.bind ?_ (fun _ => ?_)
  ·intro y0 y1 y2 y3 y4 y5
   unfold laws_FnExactEvalTree.j1
   repeat' first
   | with_reducible apply ih0
   | with_reducible apply ih1
   | with_reducible apply ih2
   | with_reducible apply laws_eqIntS.mono
   | with_reducible apply laws_eqXCellS.mono
   | with_reducible apply laws_heldIntS.mono
   | with_reducible apply laws_markIntS.mono
   | with_reducible apply laws_markXCellS.mono
   | with_reducible apply laws_toXCellS.mono
   | with_reducible apply spec_EvalTree.mono
   | (with_reducible exact LeO.refl _)
   | (with_reducible exact LeO.none _)
   | (with_reducible refine LeO.ite ?_ ?_)
   | (with_reducible refine LeO.bind ?_ (fun _ => ?_))
   | apply ih0
   | apply ih1
   | apply ih2
   | apply laws_eqIntS.mono
   | apply laws_eqXCellS.mono
   | apply laws_heldIntS.mono
   | apply laws_markIntS.mono
   | apply laws_markXCellS.mono
   | apply laws_toXCellS.mono
   | apply spec_EvalTree.mono
   | exact LeO.none _
   | refine LeO.ite ?_ ?_
   | refine LeO.bind ?_ (fun _ => ?_)
  ·intro y0 y1 y2
   unfold laws_FnExactEvalTree.j2
   repeat' first
   | with_reducible apply ih0
   | with_reducible apply ih1
   | with_reducible apply ih2
   | with_reducible apply laws_eqIntS.mono
   | with_reducible apply laws_eqXCellS.mono
   | with_reducible apply laws_heldIntS.mono
   | with_reducible apply laws_markIntS.mono
   | with_reducible apply laws_markXCellS.mono
   | with_reducible apply laws_toXCellS.mono
   | with_reducible apply spec_EvalTree.mono
   | (with_reducible exact LeO.refl _)
   | (with_reducible exact LeO.none _)
   | (with_reducible refine LeO.ite ?_ ?_)
   | (with_reducible refine LeO.bind ?_ (fun _ => ?_))
   | apply ih0
   | apply ih1
   | apply ih2
   | apply laws_eqIntS.mono
   | apply laws_eqXCellS.mono
   | apply laws_heldIntS.mono
   | apply laws_markIntS.mono
   | apply laws_markXCellS.mono
   | apply laws_toXCellS.mono
   | apply spec_EvalTree.mono
   | exact LeO.none _
   | refine LeO.ite ?_ ?_
   | refine LeO.bind ?_ (fun _ => ?_)
theorem laws_FnExactEvalTree.mono : ∀ a0 k, LeO (laws_FnExactEvalTree.f k a0) (laws_FnExactEvalTree.f (k + 1) a0) := by
 intro a0 k
 obtain ⟨ih0, ih1, ih2⟩ := laws_FnExactEvalTree.mono_l k
 unfold laws_FnExactEvalTree.f
 repeat' first
   | with_reducible apply ih0
   | with_reducible apply ih1
   | with_reducible apply ih2
   | with_reducible apply laws_eqIntS.mono
   | with_reducible apply laws_eqXCellS.mono
   | with_reducible apply laws_heldIntS.mono
   | with_reducible apply laws_markIntS.mono
   | with_reducible apply laws_markXCellS.mono
   | with_reducible apply laws_toXCellS.mono
   | with_reducible apply spec_EvalTree.mono
   | (with_reducible exact LeO.refl _)
   | (with_reducible exact LeO.none _)
   | (with_reducible refine LeO.ite ?_ ?_)
   | (with_reducible refine LeO.bind ?_ (fun _ => ?_))
   | apply ih0
   | apply ih1
   | apply ih2
   | apply laws_eqIntS.mono
   | apply laws_eqXCellS.mono
   | apply laws_heldIntS.mono
   | apply laws_markIntS.mono
   | apply laws_markXCellS.mono
   | apply laws_toXCellS.mono
   | apply spec_EvalTree.mono
   | exact LeO.none _
   | refine LeO.ite ?_ ?_
   | refine LeO.bind ?_ (fun _ => ?_)
set_option maxHeartbeats 8000000 in
set_option maxRecDepth 100000 in
theorem laws_FnExactEvalTree.calls (k : Nat) (A0 : Option Addr) (c0 : Nat) (l0 : List (S78)) (r : Bool) (w : World) (hr0 : Kd.C k78 w A0 l0.length l0) (hc0 : l0.length ≤ c0) (h : laws_FnExactEvalTree.f k l0 = some r) :
  Calls Try.prog 7 #[.slice A0 l0.length c0] w fun e w' => e = .returned (.bool r) ∧ Below w.heap.size w w' := by
 have HR0 := Aside0.mk hr0
 have HC0 := Aside0.mk hc0
 clear hr0 hc0
 have HB := Aside0.mk (Below.refl w.heap.size w)
 have H : ((laws_szXCellS.f l0 1048576).bind fun t158 => (if t158 < 0 then (some true) else ((laws_toXCellS.f k l0).bind fun t159 => ((spec_EvalTree.f k t159).bind fun bt162 => ((laws_toXCellS.f k l0).bind fun t167 => ((impl_EvalTree.f t167).bind fun bt170 => ((laws_eqIntS.f k bt170.1 bt162.1).bind fun t175 => (if t175 = true then (if bt170.2.1 = bt162.2.1 then (laws_FnExactEvalTree.j0 k l0 bt162.1 bt162.2.1 bt162.2.2 t167 bt170.1 bt170.2.1 bt170.2.2 (bt170.2.2 != bt162.2.2)) else (laws_FnExactEvalTree.j0 k l0 bt162.1 bt162.2.1 bt162.2.2 t167 bt170.1 bt170.2.1 bt170.2.2 true)) else (laws_FnExactEvalTree.j0 k l0 bt162.1 bt162.2.1 bt162.2.2 t167 bt170.1 bt170.2.1 bt170.2.2 true))))))))) = some r := h
 clear h
 replace H := lO H
 obtain ⟨t158, A2, H⟩ := H
 by_cases c3 : t158 < 0
 ·rw [if_pos c3] at H
  have c3b0 : decide (t158 < 0) = true := decide_eq_true c3
  clear c3
  obtain rfl := Option.some.inj H
  go_enter Try.func7, Try.ntmps7
  go_wp2_with (first | ((with_reducible refine gate_callee (f := 12) rfl ?_); refine gl_ (some 19) (Try.func12) #[.slice A0 l0.length c0, .int .i64 1048576] ?_; (with_reducible refine (laws_szXCellS.calls _ _ l0 1048576 t158 _ ?side1 ?side2 A2.out).mono ?_); (case side1 => repeat (first | exact HR0.out | (with_reducible refine Kd.C_alloc ?_ _) | (with_reducible refine Kd.C_drewN ?_ _) | (with_reducible refine Kd.C_drew ?_))); (case side2 => exact HC0.out); rintro e w' ⟨rfl, ⟨nd, rfl⟩⟩; refine ⟨_, rfl, ?_⟩))
  go_ret
  exact ⟨lE, lB⟩
 ·rw [if_neg c3] at H
  have c3b0 : decide (t158 < 0) = false := decide_eq_false c3
  clear c3
  replace H := lO H
  obtain ⟨t159, A4, H⟩ := H
  replace H := Option.bind_eq_some_iff.mp H
  obtain ⟨⟨t162, t163, t164⟩, A50, H⟩ := H
  replace H : ((laws_toXCellS.f k l0).bind fun t167 => ((impl_EvalTree.f t167).bind fun bt170 => ((laws_eqIntS.f k bt170.1 t162).bind fun t175 => (if t175 = true then (if bt170.2.1 = t163 then (laws_FnExactEvalTree.j0 k l0 t162 t163 t164 t167 bt170.1 bt170.2.1 bt170.2.2 (bt170.2.2 != t164)) else (laws_FnExactEvalTree.j0 k l0 t162 t163 t164 t167 bt170.1 bt170.2.1 bt170.2.2 true)) else (laws_FnExactEvalTree.j0 k l0 t162 t163 t164 t167 bt170.1 bt170.2.1 bt170.2.2 true))))) = some r := H
  have A5 := Aside0.mk A50
  clear A50
  replace H := lO H
  obtain ⟨t167, A6, H⟩ := H
  replace H := Option.bind_eq_some_iff.mp H
  obtain ⟨⟨t170, t171, t172⟩, A70, H⟩ := H
  replace H : ((laws_eqIntS.f k t170 t162).bind fun t175 => (if t175 = true then (if t171 = t163 then (laws_FnExactEvalTree.j0 k l0 t162 t163 t164 t167 t170 t171 t172 (t172 != t164)) else (laws_FnExactEvalTree.j0 k l0 t162 t163 t164 t167 t170 t171 t172 true)) else (laws_FnExactEvalTree.j0 k l0 t162 t163 t164 t167 t170 t171 t172 true))) = some r := H
  have A7 := Aside0.mk A70
  clear A70
  have HC8 := Aside0.mk H
  clear H
  go_enter Try.func7, Try.ntmps7
  go_upto_region 8 with (first | ((with_reducible refine gate_callee (f := 12) rfl ?_); refine gl_ (some 19) (Try.func12) #[.slice A0 l0.length c0, .int .i64 1048576] ?_; (with_reducible refine (laws_szXCellS.calls _ _ l0 1048576 t158 _ ?side1 ?side2 A2.out).mono ?_); (case side1 => repeat (first | exact HR0.out | (with_reducible refine Kd.C_alloc ?_ _) | (with_reducible refine Kd.C_drewN ?_ _) | (with_reducible refine Kd.C_drew ?_))); (case side2 => exact HC0.out); rintro e w' ⟨rfl, ⟨nd, rfl⟩⟩; refine ⟨_, rfl, ?_⟩) | ((with_reducible refine gate_callee (f := 14) rfl ?_); refine gl_ (some 24) (Try.func14) #[.slice A0 l0.length c0] ?_; (with_reducible refine (laws_toXCellS.calls k _ _ l0 t159 _ ?side1 ?side2 A4.out).mono ?_); (case side1 => repeat (first | exact HR0.out | (with_reducible refine Kd.C_alloc ?_ _) | (with_reducible refine Kd.C_drewN ?_ _) | (with_reducible refine Kd.C_drew ?_))); (case side2 => exact HC0.out); rintro e w9 ⟨v160, rfl, ho0, hb⟩; refine ⟨_, rfl, ?_⟩; have n0_ := Aside0.mk (Kd.R_lower ho0 (below_size lB)); have n1_ := Aside0.mk (below_step lB hb); clear HB; have HO161 := n0_; have HB := n1_; clear n0_ n1_; (try clear hb); (try clear hb2); (try clear hk); (try clear hi); (try clear ho0); obtain ⟨Ao10, co10, eo10⟩ := Kd.R_slice HO161.out; subst eo10) | ((with_reducible refine gate_callee (f := 30) rfl ?_); refine gl_ (some 25) (Try.func30) #[.slice Ao10 t159.length co10] ?_; (with_reducible refine (spec_EvalTree.calls k _ _ t159 t162 t163 t164 _ ?side1 ?side2 A5.out).mono ?_); (case side1 => repeat (first | exact (Kd.R_reads' HO161.out).2.2 | (with_reducible refine Kd.C_alloc ?_ _) | (with_reducible refine Kd.C_drewN ?_ _) | (with_reducible refine Kd.C_drew ?_))); (case side2 => exact (Kd.R_reads' HO161.out).2.1); rintro e w11 ⟨v165, rfl, ho0, hb⟩; refine ⟨_, rfl, ?_⟩; have n0_ := Aside0.mk (Kd.R_below (lR HO161.out) hb); have n1_ := Aside0.mk (Kd.R_lower ho0 (below_size lB)); have n2_ := Aside0.mk (below_step lB hb); clear HO161; clear HB; have HO161 := n0_; have HO166 := n1_; have HB := n2_; clear n0_ n1_ n2_; (try clear hb); (try clear hb2); (try clear hk); (try clear hi); (try clear ho0)) | ((with_reducible refine gate_callee (f := 14) rfl ?_); refine gl_ (some 30) (Try.func14) #[.slice A0 l0.length c0] ?_; (with_reducible refine (laws_toXCellS.calls k _ _ l0 t167 _ ?side1 ?side2 A6.out).mono ?_); (case side1 => exact lC (Kd.C_below HR0.out HB.out)); (case side2 => exact HC0.out); rintro e w12 ⟨v168, rfl, ho0, hb⟩; refine ⟨_, rfl, ?_⟩; have n0_ := Aside0.mk (Kd.R_elder' (lR HO161.out) (Kd.R_base ho0) hb); have n1_ := Aside0.mk (Kd.R_below (lR HO166.out) hb); have n2_ := Aside0.mk (Kd.R_lower (Kd.R_new' ho0 (Kd.R_lt (lR HO161.out))) (below_size lB)); have n3_ := Aside0.mk (below_step lB hb); clear HO161; clear HO166; clear HB; have HO161 := n0_; have HO166 := n1_; have HO169 := n2_; have HB := n3_; clear n0_ n1_ n2_ n3_; (try clear hb); (try clear hb2); (try clear hk); (try clear hi); (try clear ho0); obtain ⟨Ao13, co13, eo13⟩ := Kd.R_slice HO169.out; subst eo13) | ((with_reducible refine gate_callee (f := 31) rfl ?_); refine gl_ (some 33) (Try.func31) #[.slice Ao13 t167.length co13] ?_; (with_reducible refine (impl_EvalTree.calls _ _ t167 t170 t171 t172 _ ?side1 ?side2 A7.out).mono ?_); (case side1 => repeat (first | exact (Kd.R_reads' HO169.out).2.2 | (with_reducible refine Kd.C_alloc ?_ _) | (with_reducible refine Kd.C_drewN ?_ _) | (with_reducible refine Kd.C_drew ?_))); (case side2 => exact (Kd.R_reads' HO169.out).2.1); rintro e w14 ⟨v173, rfl, ho0, hb⟩; refine ⟨_, rfl, ?_⟩; have n0_ := Aside0.mk (Kd.R_below (lR HO161.out) hb); have n1_ := Aside0.mk (Kd.R_elder' (lR HO166.out) (Kd.R_base ho0) hb); have n2_ := Aside0.mk (Kd.R_below (lR HO169.out) hb); have n3_ := Aside0.mk (Kd.R_lower (Kd.R_new' ho0 (Kd.R_lt (lR HO166.out))) (below_size lB)); have n4_ := Aside0.mk (below_step lB hb); clear HO161; clear HO166; clear HO169; clear HB; have HO161 := n0_; have HO166 := n1_; have HO169 := n2_; have HO174 := n3_; have HB := n4_; clear n0_ n1_ n2_ n3_ n4_; (try clear hb); (try clear hb2); (try clear hk); (try clear hi); (try clear ho0)))
  (try simp only [Act.put, List.setIfInBounds_toArray, List.set_cons_zero, List.set_cons_succ])
  go_cut [50] (fun v50 wc => ∃ (kq : Nat) (x50_7 : Bool), v50 = .bool x50_7 ∧ Aside0 (laws_FnExactEvalTree.j0 kq l0 t162 t163 t164 t167 t170 t171 t172 x50_7 = some r) ∧ Aside0 (kq ≤ k) ∧ Aside0 (Kd.R (Kd.int .i64) 3 wc w.heap.size (fun k_ => some k_ ≠ (v173 : Value).ownBlock) v165 t162) ∧ Aside0 (Kd.R k76 76 wc w.heap.size (fun _ => True) (.slice Ao13 t167.length co13) t167) ∧ Aside0 (Kd.R (Kd.int .i64) 3 wc w.heap.size (fun k_ => some k_ ≠ (v165 : Value).ownBlock) v173 t170) ∧ Aside0 (Below w.heap.size w wc))
  case first =>
   have H := HC8.out
   clear HC8
   replace H := lO H
   obtain ⟨t175, A15, H⟩ := H
   by_cases c16 : t175 = true
   ·subst c16
    rw [if_pos rfl] at H
    by_cases c17 : t171 = t163
    ·rw [if_pos c17] at H
     have c17b0 : (t171 == t163) = true := beq_iff_eq.mpr c17
     have c17b1 : (t171 != t163) = false := bne_eq_false_iff_eq.mpr c17
     clear c17
     (first | rw [c17b0] | (simp only [i64_w, i32_w]; rw [c17b0]) | skip)
     have H' := Aside0.mk H
     clear H
     obtain ⟨Ao18, co18, eo18⟩ := Kd.R_slice HO174.out
     subst eo18
     obtain ⟨Ao19, co19, eo19⟩ := Kd.R_slice HO166.out
     subst eo19
     go_wp2_with (first | ((with_reducible refine gate_callee (f := 26) rfl ?_); refine gl_ (some 39) (Try.func26) #[.slice Ao18 t170.length co18, .slice Ao19 t162.length co19] ?_; (with_reducible refine (laws_eqIntS.calls k _ _ t170 _ _ t162 true _ ?side1 ?side2 ?side3 ?side4 A15.out).mono ?_); (case side1 => repeat (first | exact (Kd.R_reads' HO174.out).2.2 | (with_reducible refine Kd.C_alloc ?_ _) | (with_reducible refine Kd.C_drewN ?_ _) | (with_reducible refine Kd.C_drew ?_))); (case side2 => exact (Kd.R_reads' HO174.out).2.1); (case side3 => repeat (first | exact (Kd.R_reads' HO166.out).2.2 | (with_reducible refine Kd.C_alloc ?_ _) | (with_reducible refine Kd.C_drewN ?_ _) | (with_reducible refine Kd.C_drew ?_))); (case side4 => exact (Kd.R_reads' HO166.out).2.1); rintro e w' ⟨rfl, ⟨nd, rfl⟩⟩; refine ⟨_, rfl, ?_⟩))
     go_meet
     case rel => exact ⟨_, ((t172 != t164)), lF, H', ⟨lN⟩, ⟨by (with_reducible repeat (first | apply Kd.R_alloc | apply Kd.R_drewN | apply Kd.R_drew)); exact Kd.R_mono HO166.out (fun _ hk => hk.2)⟩, ⟨by (with_reducible repeat (first | apply Kd.R_alloc | apply Kd.R_drewN | apply Kd.R_drew)); exact Kd.R_mono HO169.out (fun _ hk => trivial)⟩, ⟨by (with_reducible repeat (first | apply Kd.R_alloc | apply Kd.R_drewN | apply Kd.R_drew)); exact Kd.R_mono HO174.out (fun _ hk => hk.2)⟩, ⟨lB⟩⟩
    ·rw [if_neg c17] at H
     have c17b0 : (t171 == t163) = false := beq_eq_false_iff_ne.mpr c17
     have c17b1 : (t171 != t163) = true := bne_iff_ne.mpr c17
     (first | rw [c17b0] | (simp only [i64_w, i32_w]; rw [c17b0]) | skip)
     have H' := Aside0.mk H
     clear H
     obtain ⟨Ao20, co20, eo20⟩ := Kd.R_slice HO174.out
     subst eo20
     obtain ⟨Ao21, co21, eo21⟩ := Kd.R_slice HO166.out
     subst eo21
     go_wp2_with (first | ((with_reducible refine gate_callee (f := 26) rfl ?_); refine gl_ (some 39) (Try.func26) #[.slice Ao20 t170.length co20, .slice Ao21 t162.length co21] ?_; (with_reducible refine (laws_eqIntS.calls k _ _ t170 _ _ t162 true _ ?side1 ?side2 ?side3 ?side4 A15.out).mono ?_); (case side1 => repeat (first | exact (Kd.R_reads' HO174.out).2.2 | (with_reducible refine Kd.C_alloc ?_ _) | (with_reducible refine Kd.C_drewN ?_ _) | (with_reducible refine Kd.C_drew ?_))); (case side2 => exact (Kd.R_reads' HO174.out).2.1); (case side3 => repeat (first | exact (Kd.R_reads' HO166.out).2.2 | (with_reducible refine Kd.C_alloc ?_ _) | (with_reducible refine Kd.C_drewN ?_ _) | (with_reducible refine Kd.C_drew ?_))); (case side4 => exact (Kd.R_reads' HO166.out).2.1); rintro e w' ⟨rfl, ⟨nd, rfl⟩⟩; refine ⟨_, rfl, ?_⟩))
     go_meet
     case rel => exact ⟨_, (true), lF, H', ⟨lN⟩, ⟨by (with_reducible repeat (first | apply Kd.R_alloc | apply Kd.R_drewN | apply Kd.R_drew)); exact Kd.R_mono HO166.out (fun _ hk => hk.2)⟩, ⟨by (with_reducible repeat (first | apply Kd.R_alloc | apply Kd.R_drewN | apply Kd.R_drew)); exact Kd.R_mono HO169.out (fun _ hk => trivial)⟩, ⟨by (with_reducible repeat (first | apply Kd.R_alloc | apply Kd.R_drewN | apply Kd.R_drew)); exact Kd.R_mono HO174.out (fun _ hk => hk.2)⟩, ⟨lB⟩⟩
   ·replace c16 := Bool.eq_false_iff.mpr c16
    subst c16
    rw [if_neg (show ¬ (false = true) by decide)] at H
    have H' := Aside0.mk H
    clear H
    obtain ⟨Ao22, co22, eo22⟩ := Kd.R_slice HO174.out
    subst eo22
    obtain ⟨Ao23, co23, eo23⟩ := Kd.R_slice HO166.out
    subst eo23
    go_wp2_with (first | ((with_reducible refine gate_callee (f := 26) rfl ?_); refine gl_ (some 39) (Try.func26) #[.slice Ao22 t170.length co22, .slice Ao23 t162.length co23] ?_; (with_reducible refine (laws_eqIntS.calls k _ _ t170 _ _ t162 false _ ?side1 ?side2 ?side3 ?side4 A15.out).mono ?_); (case side1 => repeat (first | exact (Kd.R_reads' HO174.out).2.2 | (with_reducible refine Kd.C_alloc ?_ _) | (with_reducible refine Kd.C_drewN ?_ _) | (with_reducible refine Kd.C_drew ?_))); (case side2 => exact (Kd.R_reads' HO174.out).2.1); (case side3 => repeat (first | exact (Kd.R_reads' HO166.out).2.2 | (with_reducible refine Kd.C_alloc ?_ _) | (with_reducible refine Kd.C_drewN ?_ _) | (with_reducible refine Kd.C_drew ?_))); (case side4 => exact (Kd.R_reads' HO166.out).2.1); rintro e w' ⟨rfl, ⟨nd, rfl⟩⟩; refine ⟨_, rfl, ?_⟩))
    go_meet
    case rel => exact ⟨_, (true), lF, H', ⟨lN⟩, ⟨by (with_reducible repeat (first | apply Kd.R_alloc | apply Kd.R_drewN | apply Kd.R_drew)); exact Kd.R_mono HO166.out (fun _ hk => hk.2)⟩, ⟨by (with_reducible repeat (first | apply Kd.R_alloc | apply Kd.R_drewN | apply Kd.R_drew)); exact Kd.R_mono HO169.out (fun _ hk => trivial)⟩, ⟨by (with_reducible repeat (first | apply Kd.R_alloc | apply Kd.R_drewN | apply Kd.R_drew)); exact Kd.R_mono HO174.out (fun _ hk => hk.2)⟩, ⟨lB⟩⟩
  case rest =>
   clear HC8
   try clear c1
   try clear c2
   try clear p2
   try clear c3
   try clear c3b0
   try clear c7
   try clear c12
   try clear c14
   try clear c16
   try clear c17
   try clear c17b0
   try clear c17b1
   obtain ⟨kq, x50_7, rfl, HA, HJ7, HO_4, HO_7, HO_8, HB⟩ := hcut
   cases kq with
   | zero => exact absurd HA.out (by simp [laws_FnExactEvalTree.j0])
   | succ kj7 =>
    have H := HA.out
    clear HA
    simp only [laws_FnExactEvalTree.j0] at H
    by_cases c24 : x50_7 = true
    ·subst c24
     rw [if_pos rfl] at H
     obtain rfl := Option.some.inj H
     first | (go_wp2; go_ret; exact ⟨lE, lB⟩) | (exfalso; simp only [decide_eq_false_iff_not, decide_eq_true_eq] at *; omega)
    ·replace c24 := Bool.eq_false_iff.mpr c24
     subst c24
     rw [if_neg (show ¬ (false = true) by decide)] at H
     replace H := lO H
     obtain ⟨t176, A25, H⟩ := H
     replace H := lO H
     obtain ⟨t179, A26, H⟩ := H
     by_cases c27 : t179 = true
     ·subst c27
      rw [if_pos rfl] at H
      replace H := Option.bind_eq_some_iff.mp H
      obtain ⟨⟨t180, t181⟩, A280, H⟩ := H
      replace H : (if t180 < 0 then (laws_FnExactEvalTree.j1 kj7 l0 t162 t163 t164 t170 true) else ((laws_eqIntS.f kj7 t170 t162).bind fun t182 => (if t182 = true then (if t171 = t163 then (laws_FnExactEvalTree.j1 kj7 l0 t162 t163 t164 t170 (t172 != t164)) else (laws_FnExactEvalTree.j1 kj7 l0 t162 t163 t164 t170 true)) else (laws_FnExactEvalTree.j1 kj7 l0 t162 t163 t164 t170 true)))) = some r := H
      have A28 := Aside0.mk A280
      clear A280
      have HC29 := Aside0.mk H
      clear H
      go_upto_region 14 with (first | ((with_reducible refine gate_callee (f := 14) rfl ?_); refine gl_ (some 53) (Try.func14) #[.slice A0 l0.length c0] ?_; (with_reducible refine (laws_toXCellS.calls kj7 _ _ l0 t176 _ ?side1 ?side2 A25.out).mono ?_); (case side1 => exact lC (Kd.C_below HR0.out HB.out)); (case side2 => exact HC0.out); rintro e w30 ⟨v177, rfl, ho0, hb⟩; refine ⟨_, rfl, ?_⟩; have n0_ := Aside0.mk (Kd.R_below (lR HO_4.out) hb); have n1_ := Aside0.mk (Kd.R_elder' (lR HO_7.out) (Kd.R_base ho0) hb); have n2_ := Aside0.mk (Kd.R_below (lR HO_8.out) hb); have n3_ := Aside0.mk (Kd.R_lower (Kd.R_new' ho0 (Kd.R_lt (lR HO_7.out))) (below_size lB)); have n4_ := Aside0.mk (below_step lB hb); clear HO_4; clear HO_7; clear HO_8; clear HB; have HO_4 := n0_; have HO_7 := n1_; have HO_8 := n2_; have HO178 := n3_; have HB := n4_; clear n0_ n1_ n2_ n3_ n4_; (try clear hb); (try clear hb2); (try clear hk); (try clear hi); (try clear ho0); obtain ⟨Ao31, co31, eo31⟩ := Kd.R_slice HO178.out; subst eo31) | ((with_reducible refine gate_callee (f := 16) rfl ?_); refine gl_ (some 54) (Try.func16) #[.slice Ao13 t167.length co13, .slice Ao31 t176.length co31] ?_; (with_reducible refine (laws_eqXCellS.calls kj7 _ _ t167 _ _ t176 true _ ?side1 ?side2 ?side3 ?side4 A26.out).mono ?_); (case side1 => repeat (first | exact (Kd.R_reads' HO_7.out).2.2 | (with_reducible refine Kd.C_alloc ?_ _) | (with_reducible refine Kd.C_drewN ?_ _) | (with_reducible refine Kd.C_drew ?_))); (case side2 => exact (Kd.R_reads' HO_7.out).2.1); (case side3 => repeat (first | exact (Kd.R_reads' HO178.out).2.2 | (with_reducible refine Kd.C_alloc ?_ _) | (with_reducible refine Kd.C_drewN ?_ _) | (with_reducible refine Kd.C_drew ?_))); (case side4 => exact (Kd.R_reads' HO178.out).2.1); rintro e w32 ⟨rfl, hb⟩; refine ⟨_, rfl, ?_⟩; have n0_ := Aside0.mk (Kd.R_below (lR HO_4.out) hb); have n1_ := Aside0.mk (Kd.R_below (lR HO_7.out) hb); have n2_ := Aside0.mk (Kd.R_below (lR HO_8.out) hb); have n3_ := Aside0.mk (Kd.R_below (lR HO178.out) hb); have n4_ := Aside0.mk (below_step lB hb); clear HO_4; clear HO_7; clear HO_8; clear HO178; clear HB; have HO_4 := n0_; have HO_7 := n1_; have HO_8 := n2_; have HO178 := n3_; have HB := n4_; clear n0_ n1_ n2_ n3_ n4_; (try clear hb); (try clear hb2); (try clear hk); (try clear hi)) | ((with_reducible refine gate_callee (f := 27) rfl ?_); refine gl_ (some 58) (Try.func27) #[.slice Ao13 t167.length co13, .int .i64 1] ?_; (with_reducible refine (laws_markXCellS.calls kj7 (fun k_ => some k_ = (.slice Ao13 t167.length co13 : Value).ownBlock) (.slice Ao13 t167.length co13) t167 1 t180 t181 w _ ?side1 ?side2 A28.out).mono ?_); (case side1 => repeat (first | (with_reducible first | exact HB.out | apply below_alloc | apply pw_below_drewN | apply below_drew1) | exact HB.out)); (case side2 => exact Kd.R_tight rfl HO_7.out); rintro e w33 ⟨rfl, hy0, hb, hkp⟩; refine ⟨_, rfl, ?_⟩; have n0_ := Aside0.mk (Kd.R_mono (ok' := fun k_ => some k_ ≠ (v173 : Value).ownBlock) (Kd.R_keptB ((Kd.R_apart' HO_4.out (Kd.R_typed HO_7.out) (by decide))) hkp (fun k_ hk_ hs_ => (hk_.2) hs_)) (fun k_ hk_ => hk_.1.1)); have n1_ := Aside0.mk (Kd.R_reok rfl hy0 (fun k_ e_ => HO_7.out.1 k_ e_)); have n2_ := Aside0.mk (Kd.R_mono (ok' := fun k_ => some k_ ≠ (v165 : Value).ownBlock) (Kd.R_keptB ((Kd.R_apart' HO_8.out (Kd.R_typed HO_7.out) (by decide))) hkp (fun k_ hk_ hs_ => (hk_.2) hs_)) (fun k_ hk_ => hk_.1.1)); have n3_ := Aside0.mk (Kd.R_mono (ok' := fun k_ => some k_ ≠ (.slice Ao13 t167.length co13 : Value).ownBlock) (Kd.R_keptB (HO178.out) hkp (fun k_ hk_ hs_ => (hk_.2) hs_)) (fun k_ hk_ => hk_.1.2)); have n4_ := Aside0.mk (hb); clear HO_4; clear HO_7; clear HO_8; clear HO178; clear HB; have HO_4 := n0_; have HO_7 := n1_; have HO_8 := n2_; have HO178 := n3_; have HB := n4_; clear n0_ n1_ n2_ n3_ n4_; (try clear hb); (try clear hkp); (try clear hy0)))
      (try simp only [Act.put, List.setIfInBounds_toArray, List.set_cons_zero, List.set_cons_succ])
      go_cut [76] (fun v76 wc => ∃ (kq : Nat) (x76_28 : Bool), v76 = .bool x76_28 ∧ Aside0 (laws_FnExactEvalTree.j1 kq l0 t162 t163 t164 t170 x76_28 = some r) ∧ Aside0 (kq ≤ kj7) ∧ Aside0 (Kd.R (Kd.int .i64) 3 wc w.heap.size (fun k_ => some k_ ≠ (v173 : Value).ownBlock) v165 t162) ∧ Aside0 (Kd.R (Kd.int .i64) 3 wc w.heap.size (fun k_ => some k_ ≠ (v165 : Value).ownBlock) v173 t170) ∧ Aside0 (Below w.heap.size w wc))
      case first =>
       have H := HC29.out
       clear HC29
       by_cases c34 : t180 < 0
       ·rw [if_pos c34] at H
        have c34b0 : decide (t180 < 0) = true := decide_eq_true c34
        clear c34
        (first | rw [c34b0] | (simp only [i64_w, i32_w]; rw [c34b0]) | skip)
        have H' := Aside0.mk H
        clear H
        go_wp2
        go_meet
        case rel => exact ⟨_, (true), lF, H', ⟨by have := HJ7.out; first | omega | exact Nat.le_refl _⟩, ⟨lR HO_4.out⟩, ⟨lR HO_8.out⟩, ⟨lB⟩⟩
       ·rw [if_neg c34] at H
        have c34b0 : decide (t180 < 0) = false := decide_eq_false c34
        clear c34
        (first | rw [c34b0] | (simp only [i64_w, i32_w]; rw [c34b0]) | skip)
        replace H := lO H
        obtain ⟨t182, A35, H⟩ := H
        by_cases c36 : t182 = true
        ·subst c36
         rw [if_pos rfl] at H
         by_cases c37 : t171 = t163
         ·rw [if_pos c37] at H
          have c37b0 : (t171 == t163) = true := beq_iff_eq.mpr c37
          have c37b1 : (t171 != t163) = false := bne_eq_false_iff_eq.mpr c37
          clear c37
          have H' := Aside0.mk H
          clear H
          obtain ⟨Ao38, co38, eo38⟩ := Kd.R_slice HO_8.out
          subst eo38
          obtain ⟨Ao39, co39, eo39⟩ := Kd.R_slice HO_4.out
          subst eo39
          go_wp2_with (first | (go_at_call 26; (with_reducible refine (laws_eqIntS.calls kj7 _ _ t170 _ _ t162 true _ ?side1 ?side2 ?side3 ?side4 A35.out).mono ?_); (case side1 => repeat (first | exact (Kd.R_reads' HO_8.out).2.2 | (with_reducible refine Kd.C_alloc ?_ _) | (with_reducible refine Kd.C_drewN ?_ _) | (with_reducible refine Kd.C_drew ?_))); (case side2 => exact (Kd.R_reads' HO_8.out).2.1); (case side3 => repeat (first | exact (Kd.R_reads' HO_4.out).2.2 | (with_reducible refine Kd.C_alloc ?_ _) | (with_reducible refine Kd.C_drewN ?_ _) | (with_reducible refine Kd.C_drew ?_))); (case side4 => exact (Kd.R_reads' HO_4.out).2.1); rintro e w' ⟨rfl, ⟨nd, rfl⟩⟩))
          go_meet
          case rel => exact ⟨_, ((t172 != t164)), lF, H', ⟨by have := HJ7.out; first | omega | exact Nat.le_refl _⟩, ⟨lR HO_4.out⟩, ⟨lR HO_8.out⟩, ⟨lB⟩⟩
         ·rw [if_neg c37] at H
          have c37b0 : (t171 == t163) = false := beq_eq_false_iff_ne.mpr c37
          have c37b1 : (t171 != t163) = true := bne_iff_ne.mpr c37
          have H' := Aside0.mk H
          clear H
          obtain ⟨Ao40, co40, eo40⟩ := Kd.R_slice HO_8.out
          subst eo40
          obtain ⟨Ao41, co41, eo41⟩ := Kd.R_slice HO_4.out
          subst eo41
          go_wp2_with (first | (go_at_call 26; (with_reducible refine (laws_eqIntS.calls kj7 _ _ t170 _ _ t162 true _ ?side1 ?side2 ?side3 ?side4 A35.out).mono ?_); (case side1 => repeat (first | exact (Kd.R_reads' HO_8.out).2.2 | (with_reducible refine Kd.C_alloc ?_ _) | (with_reducible refine Kd.C_drewN ?_ _) | (with_reducible refine Kd.C_drew ?_))); (case side2 => exact (Kd.R_reads' HO_8.out).2.1); (case side3 => repeat (first | exact (Kd.R_reads' HO_4.out).2.2 | (with_reducible refine Kd.C_alloc ?_ _) | (with_reducible refine Kd.C_drewN ?_ _) | (with_reducible refine Kd.C_drew ?_))); (case side4 => exact (Kd.R_reads' HO_4.out).2.1); rintro e w' ⟨rfl, ⟨nd, rfl⟩⟩))
          go_meet
          case rel => exact ⟨_, (true), lF, H', ⟨by have := HJ7.out; first | omega | exact Nat.le_refl _⟩, ⟨lR HO_4.out⟩, ⟨lR HO_8.out⟩, ⟨lB⟩⟩
        ·replace c36 := Bool.eq_false_iff.mpr c36
         subst c36
         rw [if_neg (show ¬ (false = true) by decide)] at H
         have H' := Aside0.mk H
         clear H
         obtain ⟨Ao42, co42, eo42⟩ := Kd.R_slice HO_8.out
         subst eo42
         obtain ⟨Ao43, co43, eo43⟩ := Kd.R_slice HO_4.out
         subst eo43
         go_wp2_with (first | (go_at_call 26; (with_reducible refine (laws_eqIntS.calls kj7 _ _ t170 _ _ t162 false _ ?side1 ?side2 ?side3 ?side4 A35.out).mono ?_); (case side1 => repeat (first | exact (Kd.R_reads' HO_8.out).2.2 | (with_reducible refine Kd.C_alloc ?_ _) | (with_reducible refine Kd.C_drewN ?_ _) | (with_reducible refine Kd.C_drew ?_))); (case side2 => exact (Kd.R_reads' HO_8.out).2.1); (case side3 => repeat (first | exact (Kd.R_reads' HO_4.out).2.2 | (with_reducible refine Kd.C_alloc ?_ _) | (with_reducible refine Kd.C_drewN ?_ _) | (with_reducible refine Kd.C_drew ?_))); (case side4 => exact (Kd.R_reads' HO_4.out).2.1); rintro e w' ⟨rfl, ⟨nd, rfl⟩⟩))
         go_meet
         case rel => exact ⟨_, (true), lF, H', ⟨by have := HJ7.out; first | omega | exact Nat.le_refl _⟩, ⟨lR HO_4.out⟩, ⟨lR HO_8.out⟩, ⟨lB⟩⟩
      case rest =>
       clear HC29
       try clear c1
       try clear c2
       try clear p2
       try clear c3
       try clear c3b0
       try clear c7
       try clear c12
       try clear c14
       try clear c16
       try clear c17
       try clear c17b0
       try clear c17b1
       try clear c24
       try clear c26
       try clear c27
       try clear c30
       try clear c31
       try clear c34
       try clear c34b0
       try clear c36
       try clear c37
       try clear c37b0
       try clear c37b1
       try clear p2
       obtain ⟨kq, x76_28, rfl, HA, HJ28, HO_4, HO_8, HB⟩ := hcut
       cases kq with
       | zero => exact absurd HA.out (by simp [laws_FnExactEvalTree.j1])
       | succ kj28 =>
        have H := HA.out
        clear HA
        simp only [laws_FnExactEvalTree.j1] at H
        by_cases c44 : x76_28 = true
        ·subst c44
         rw [if_pos rfl] at H
         obtain rfl := Option.some.inj H
         first | (go_wp2; go_ret; exact ⟨lE, lB⟩) | (exfalso; simp only [decide_eq_false_iff_not, decide_eq_true_eq] at *; omega)
        ·replace c44 := Bool.eq_false_iff.mpr c44
         subst c44
         rw [if_neg (show ¬ (false = true) by decide)] at H
         replace H := Option.bind_eq_some_iff.mp H
         obtain ⟨⟨t183, t184⟩, A450, H⟩ := H
         replace H : ((laws_heldIntS.f kj28 t184 1).bind fun t185 => (if t185 < 0 then (some false) else (if t185 = t183 then ((laws_toXCellS.f kj28 l0).bind fun t186 => ((impl_EvalTree.f t186).bind fun bt189 => ((laws_eqIntS.f kj28 bt189.1 t162).bind fun t194 => (if t194 = true then (if bt189.2.1 = t163 then (laws_FnExactEvalTree.j2 kj28 t184 t183 (bt189.2.2 != t164)) else (laws_FnExactEvalTree.j2 kj28 t184 t183 true)) else (laws_FnExactEvalTree.j2 kj28 t184 t183 true))))) else (some false)))) = some r := H
         have A45 := Aside0.mk A450
         clear A450
         replace H := lO H
         obtain ⟨t185, A46, H⟩ := H
         by_cases c47 : t185 < 0
         ·rw [if_pos c47] at H
          have c47b0 : decide (t185 < 0) = true := decide_eq_true c47
          clear c47
          obtain rfl := Option.some.inj H
          obtain ⟨Ao48, co48, eo48⟩ := Kd.R_slice HO_8.out
          subst eo48
          go_wp2_with (first | ((with_reducible refine gate_callee (f := 28) rfl ?_); refine gl_ (some 79) (Try.func28) #[.slice Ao48 t170.length co48, .int .i64 1] ?_; (with_reducible refine (laws_markIntS.calls kj28 (fun k_ => some k_ = (.slice Ao48 t170.length co48 : Value).ownBlock) (.slice Ao48 t170.length co48) t170 1 t183 t184 w _ ?side1 ?side2 A45.out).mono ?_); (case side1 => repeat (first | (with_reducible first | exact HB.out | apply below_alloc | apply pw_below_drewN | apply below_drew1) | exact HB.out)); (case side2 => exact Kd.R_tight rfl HO_8.out); rintro e w49 ⟨rfl, hy0, hb, hkp⟩; refine ⟨_, rfl, ?_⟩; have n0_ := Aside0.mk (Kd.R_mono (ok' := fun k_ => some k_ ≠ (.slice Ao48 t170.length co48 : Value).ownBlock) (Kd.R_keptB (HO_4.out) hkp (fun k_ hk_ hs_ => (hk_) hs_)) (fun k_ hk_ => hk_.1)); have n1_ := Aside0.mk (Kd.R_reok rfl hy0 (fun k_ e_ => HO_8.out.1 k_ e_)); have n2_ := Aside0.mk (hb); clear HO_4; clear HO_8; clear HB; have HO_4 := n0_; have HO_8 := n1_; have HB := n2_; clear n0_ n1_ n2_; (try clear hb); (try clear hkp); (try clear hy0)) | ((with_reducible refine gate_callee (f := 29) rfl ?_); refine goesL_ (some 82) rfl rfl Try.func29 (by kernel_rfl) rfl #[.slice Ao48 t184.length co48, .int .i64 1] rfl (by (try simp only [List.map_toArray, List.map_cons, List.map_nil]); first | done | (rw [show t184.length = t170.length from (Kd.R_reads' HO_8.out).1.symm] <;> rfl) | rfl | (simp only [List.length_drop, List.length_take]; rfl)) ?_; (with_reducible refine (laws_heldIntS.calls kj28 _ _ t184 1 t185 _ ?side1 ?side2 A46.out).mono ?_); (case side1 => repeat (first | exact (Kd.R_reads' HO_8.out).2.2 | (with_reducible refine Kd.C_alloc ?_ _) | (with_reducible refine Kd.C_drewN ?_ _) | (with_reducible refine Kd.C_drew ?_))); (case side2 => rw [show t184.length = t170.length from (Kd.R_reads' HO_8.out).1.symm]; exact (Kd.R_reads' HO_8.out).2.1); rintro e w' ⟨rfl, ⟨nd, rfl⟩⟩; refine ⟨_, rfl, ?_⟩))
          go_ret
          exact ⟨lE, lB⟩
         ·rw [if_neg c47] at H
          have c47b0 : decide (t185 < 0) = false := decide_eq_false c47
          clear c47
          by_cases c50 : t185 = t183
          ·rw [if_pos c50] at H
           have c50b0 : (t185 == t183) = true := beq_iff_eq.mpr c50
           have c50b1 : (t185 != t183) = false := bne_eq_false_iff_eq.mpr c50
           clear c50
           replace H := lO H
           obtain ⟨t186, A51, H⟩ := H
           replace H := Option.bind_eq_some_iff.mp H
           obtain ⟨⟨t189, t190, t191⟩, A520, H⟩ := H
           replace H : ((laws_eqIntS.f kj28 t189 t162).bind fun t194 => (if t194 = true then (if t190 = t163 then (laws_FnExactEvalTree.j2 kj28 t184 t183 (t191 != t164)) else (laws_FnExactEvalTree.j2 kj28 t184 t183 true)) else (laws_FnExactEvalTree.j2 kj28 t184 t183 true))) = some r := H
           have A52 := Aside0.mk A520
           clear A520
           have HC53 := Aside0.mk H
           clear H
           obtain ⟨Ao54, co54, eo54⟩ := Kd.R_slice HO_8.out
           subst eo54
           go_upto_region 25 with (first | ((with_reducible refine gate_callee (f := 28) rfl ?_); refine gl_ (some 79) (Try.func28) #[.slice Ao54 t170.length co54, .int .i64 1] ?_; (with_reducible refine (laws_markIntS.calls kj28 (fun k_ => some k_ = (.slice Ao54 t170.length co54 : Value).ownBlock) (.slice Ao54 t170.length co54) t170 1 t183 t184 w _ ?side1 ?side2 A45.out).mono ?_); (case side1 => repeat (first | (with_reducible first | exact HB.out | apply below_alloc | apply pw_below_drewN | apply below_drew1) | exact HB.out)); (case side2 => exact Kd.R_tight rfl HO_8.out); rintro e w55 ⟨rfl, hy0, hb, hkp⟩; refine ⟨_, rfl, ?_⟩; have n0_ := Aside0.mk (Kd.R_mono (ok' := fun k_ => some k_ ≠ (.slice Ao54 t170.length co54 : Value).ownBlock) (Kd.R_keptB (HO_4.out) hkp (fun k_ hk_ hs_ => (hk_) hs_)) (fun k_ hk_ => hk_.1)); have n1_ := Aside0.mk (Kd.R_reok rfl hy0 (fun k_ e_ => HO_8.out.1 k_ e_)); have n2_ := Aside0.mk (hb); clear HO_4; clear HO_8; clear HB; have HO_4 := n0_; have HO_8 := n1_; have HB := n2_; clear n0_ n1_ n2_; (try clear hb); (try clear hkp); (try clear hy0)) | ((with_reducible refine gate_callee (f := 29) rfl ?_); refine goesL_ (some 82) rfl rfl Try.func29 (by kernel_rfl) rfl #[.slice Ao54 t184.length co54, .int .i64 1] rfl (by (try simp only [List.map_toArray, List.map_cons, List.map_nil]); first | done | (rw [show t184.length = t170.length from (Kd.R_reads' HO_8.out).1.symm] <;> rfl) | rfl | (simp only [List.length_drop, List.length_take]; rfl)) ?_; (with_reducible refine (laws_heldIntS.calls kj28 _ _ t184 1 t185 _ ?side1 ?side2 A46.out).mono ?_); (case side1 => repeat (first | exact (Kd.R_reads' HO_8.out).2.2 | (with_reducible refine Kd.C_alloc ?_ _) | (with_reducible refine Kd.C_drewN ?_ _) | (with_reducible refine Kd.C_drew ?_))); (case side2 => rw [show t184.length = t170.length from (Kd.R_reads' HO_8.out).1.symm]; exact (Kd.R_reads' HO_8.out).2.1); rintro e w' ⟨rfl, ⟨nd, rfl⟩⟩; refine ⟨_, rfl, ?_⟩) | ((with_reducible refine gate_callee (f := 14) rfl ?_); refine gl_ (some 90) (Try.func14) #[.slice A0 l0.length c0] ?_; (with_reducible refine (laws_toXCellS.calls kj28 _ _ l0 t186 _ ?side1 ?side2 A51.out).mono ?_); (case side1 => repeat (first | exact (Kd.C_below HR0.out lB) | (with_reducible refine Kd.C_alloc ?_ _) | (with_reducible refine Kd.C_drewN ?_ _) | (with_reducible refine Kd.C_drew ?_))); (case side2 => exact HC0.out); rintro e w56 ⟨v187, rfl, ho0, hb⟩; refine ⟨_, rfl, ?_⟩; have n0_ := Aside0.mk (Kd.R_below (lR HO_4.out) hb); have n1_ := Aside0.mk (Kd.R_below (lR HO_8.out) hb); have n2_ := Aside0.mk (Kd.R_lower ho0 (below_size lB)); have n3_ := Aside0.mk (below_step lB hb); clear HO_4; clear HO_8; clear HB; have HO_4 := n0_; have HO_8 := n1_; have HO188 := n2_; have HB := n3_; clear n0_ n1_ n2_ n3_; (try clear hb); (try clear hb2); (try clear hk); (try clear hi); (try clear ho0); obtain ⟨Ao57, co57, eo57⟩ := Kd.R_slice HO188.out; subst eo57) | ((with_reducible refine gate_callee (f := 31) rfl ?_); refine gl_ (some 91) (Try.func31) #[.slice Ao57 t186.length co57] ?_; (with_reducible refine (impl_EvalTree.calls _ _ t186 t189 t190 t191 _ ?side1 ?side2 A52.out).mono ?_); (case side1 => repeat (first | exact (Kd.R_reads' HO188.out).2.2 | (with_reducible refine Kd.C_alloc ?_ _) | (with_reducible refine Kd.C_drewN ?_ _) | (with_reducible refine Kd.C_drew ?_))); (case side2 => exact (Kd.R_reads' HO188.out).2.1); rintro e w58 ⟨v192, rfl, ho0, hb⟩; refine ⟨_, rfl, ?_⟩; have n0_ := Aside0.mk (Kd.R_elder' (lR HO_4.out) (Kd.R_base ho0) hb); have n1_ := Aside0.mk (Kd.R_elder' (lR HO_8.out) (Kd.R_base ho0) hb); have n2_ := Aside0.mk (Kd.R_below (lR HO188.out) hb); have n3_ := Aside0.mk (Kd.R_lower (Kd.R_new' (Kd.R_new' ho0 (Kd.R_lt (lR HO_4.out))) (Kd.R_lt (lR HO_8.out))) (below_size lB)); have n4_ := Aside0.mk (below_step lB hb); clear HO_4; clear HO_8; clear HO188; clear HB; have HO_4 := n0_; have HO_8 := n1_; have HO188 := n2_; have HO193 := n3_; have HB := n4_; clear n0_ n1_ n2_ n3_ n4_; (try clear hb); (try clear hb2); (try clear hk); (try clear hi); (try clear ho0)))
           (try simp only [Act.put, List.setIfInBounds_toArray, List.set_cons_zero, List.set_cons_succ])
           go_cut [108] (fun v108 wc => ∃ (kq : Nat) (x108_52 : Bool), v108 = .bool x108_52 ∧ Aside0 (laws_FnExactEvalTree.j2 kq t184 t183 x108_52 = some r) ∧ Aside0 (kq ≤ kj28) ∧ Aside0 (Kd.R (Kd.int .i64) 3 wc w.heap.size (fun _ => True) (.slice Ao54 t170.length co54) t184) ∧ Aside0 (Below w.heap.size w wc))
           case first =>
            have H := HC53.out
            clear HC53
            replace H := lO H
            obtain ⟨t194, A59, H⟩ := H
            by_cases c60 : t194 = true
            ·subst c60
             rw [if_pos rfl] at H
             by_cases c61 : t190 = t163
             ·rw [if_pos c61] at H
              have c61b0 : (t190 == t163) = true := beq_iff_eq.mpr c61
              have c61b1 : (t190 != t163) = false := bne_eq_false_iff_eq.mpr c61
              clear c61
              (first | rw [c61b0] | (simp only [i64_w, i32_w]; rw [c61b0]) | skip)
              have H' := Aside0.mk H
              clear H
              obtain ⟨Ao62, co62, eo62⟩ := Kd.R_slice HO193.out
              subst eo62
              obtain ⟨Ao63, co63, eo63⟩ := Kd.R_slice HO_4.out
              subst eo63
              go_wp2_with (first | ((with_reducible refine gate_callee (f := 26) rfl ?_); refine gl_ (some 97) (Try.func26) #[.slice Ao62 t189.length co62, .slice Ao63 t162.length co63] ?_; (with_reducible refine (laws_eqIntS.calls kj28 _ _ t189 _ _ t162 true _ ?side1 ?side2 ?side3 ?side4 A59.out).mono ?_); (case side1 => repeat (first | exact (Kd.R_reads' HO193.out).2.2 | (with_reducible refine Kd.C_alloc ?_ _) | (with_reducible refine Kd.C_drewN ?_ _) | (with_reducible refine Kd.C_drew ?_))); (case side2 => exact (Kd.R_reads' HO193.out).2.1); (case side3 => repeat (first | exact (Kd.R_reads' HO_4.out).2.2 | (with_reducible refine Kd.C_alloc ?_ _) | (with_reducible refine Kd.C_drewN ?_ _) | (with_reducible refine Kd.C_drew ?_))); (case side4 => exact (Kd.R_reads' HO_4.out).2.1); rintro e w' ⟨rfl, ⟨nd, rfl⟩⟩; refine ⟨_, rfl, ?_⟩))
              go_meet
              case rel => exact ⟨_, ((t191 != t164)), lF, H', ⟨by have := HJ7.out; have := HJ28.out; first | omega | exact Nat.le_refl _⟩, ⟨by (with_reducible repeat (first | apply Kd.R_alloc | apply Kd.R_drewN | apply Kd.R_drew)); exact Kd.R_mono HO_8.out (fun _ hk => trivial)⟩, ⟨lB⟩⟩
             ·rw [if_neg c61] at H
              have c61b0 : (t190 == t163) = false := beq_eq_false_iff_ne.mpr c61
              have c61b1 : (t190 != t163) = true := bne_iff_ne.mpr c61
              (first | rw [c61b0] | (simp only [i64_w, i32_w]; rw [c61b0]) | skip)
              have H' := Aside0.mk H
              clear H
              obtain ⟨Ao64, co64, eo64⟩ := Kd.R_slice HO193.out
              subst eo64
              obtain ⟨Ao65, co65, eo65⟩ := Kd.R_slice HO_4.out
              subst eo65
              go_wp2_with (first | ((with_reducible refine gate_callee (f := 26) rfl ?_); refine gl_ (some 97) (Try.func26) #[.slice Ao64 t189.length co64, .slice Ao65 t162.length co65] ?_; (with_reducible refine (laws_eqIntS.calls kj28 _ _ t189 _ _ t162 true _ ?side1 ?side2 ?side3 ?side4 A59.out).mono ?_); (case side1 => repeat (first | exact (Kd.R_reads' HO193.out).2.2 | (with_reducible refine Kd.C_alloc ?_ _) | (with_reducible refine Kd.C_drewN ?_ _) | (with_reducible refine Kd.C_drew ?_))); (case side2 => exact (Kd.R_reads' HO193.out).2.1); (case side3 => repeat (first | exact (Kd.R_reads' HO_4.out).2.2 | (with_reducible refine Kd.C_alloc ?_ _) | (with_reducible refine Kd.C_drewN ?_ _) | (with_reducible refine Kd.C_drew ?_))); (case side4 => exact (Kd.R_reads' HO_4.out).2.1); rintro e w' ⟨rfl, ⟨nd, rfl⟩⟩; refine ⟨_, rfl, ?_⟩))
              go_meet
              case rel => exact ⟨_, (true), lF, H', ⟨by have := HJ7.out; have := HJ28.out; first | omega | exact Nat.le_refl _⟩, ⟨by (with_reducible repeat (first | apply Kd.R_alloc | apply Kd.R_drewN | apply Kd.R_drew)); exact Kd.R_mono HO_8.out (fun _ hk => trivial)⟩, ⟨lB⟩⟩
            ·replace c60 := Bool.eq_false_iff.mpr c60
             subst c60
             rw [if_neg (show ¬ (false = true) by decide)] at H
             have H' := Aside0.mk H
             clear H
             obtain ⟨Ao66, co66, eo66⟩ := Kd.R_slice HO193.out
             subst eo66
             obtain ⟨Ao67, co67, eo67⟩ := Kd.R_slice HO_4.out
             subst eo67
             go_wp2_with (first | ((with_reducible refine gate_callee (f := 26) rfl ?_); refine gl_ (some 97) (Try.func26) #[.slice Ao66 t189.length co66, .slice Ao67 t162.length co67] ?_; (with_reducible refine (laws_eqIntS.calls kj28 _ _ t189 _ _ t162 false _ ?side1 ?side2 ?side3 ?side4 A59.out).mono ?_); (case side1 => repeat (first | exact (Kd.R_reads' HO193.out).2.2 | (with_reducible refine Kd.C_alloc ?_ _) | (with_reducible refine Kd.C_drewN ?_ _) | (with_reducible refine Kd.C_drew ?_))); (case side2 => exact (Kd.R_reads' HO193.out).2.1); (case side3 => repeat (first | exact (Kd.R_reads' HO_4.out).2.2 | (with_reducible refine Kd.C_alloc ?_ _) | (with_reducible refine Kd.C_drewN ?_ _) | (with_reducible refine Kd.C_drew ?_))); (case side4 => exact (Kd.R_reads' HO_4.out).2.1); rintro e w' ⟨rfl, ⟨nd, rfl⟩⟩; refine ⟨_, rfl, ?_⟩))
             go_meet
             case rel => exact ⟨_, (true), lF, H', ⟨by have := HJ7.out; have := HJ28.out; first | omega | exact Nat.le_refl _⟩, ⟨by (with_reducible repeat (first | apply Kd.R_alloc | apply Kd.R_drewN | apply Kd.R_drew)); exact Kd.R_mono HO_8.out (fun _ hk => trivial)⟩, ⟨lB⟩⟩
           case rest =>
            clear HC53
            try clear c1
            try clear c2
            try clear p2
            try clear c3
            try clear c3b0
            try clear c4
            try clear c5
            try clear c6
            try clear c7
            try clear c12
            try clear c14
            try clear c16
            try clear c17
            try clear c17b0
            try clear c17b1
            try clear c24
            try clear c26
            try clear c27
            try clear c28
            try clear c29
            try clear c30
            try clear c31
            try clear c34
            try clear c34b0
            try clear c36
            try clear c37
            try clear c37b0
            try clear c37b1
            try clear c44
            try clear c47
            try clear c47b0
            try clear c50
            try clear c50b0
            try clear c50b1
            try clear c60
            try clear c61
            try clear c61b0
            try clear c61b1
            try clear p2
            obtain ⟨kq, x108_52, rfl, HA, HJ52, HO_8, HB⟩ := hcut
            have hl8_52 := (Kd.R_reads' HO_8.out).1
            rw [hl8_52] at HO_8
            (try simp only [hl8_52])
            cases kq with
            | zero => exact absurd HA.out (by simp [laws_FnExactEvalTree.j2])
            | succ kj52 =>
             have H := HA.out
             clear HA
             simp only [laws_FnExactEvalTree.j2] at H
             by_cases c68 : x108_52 = true
             ·subst c68
              rw [if_pos rfl] at H
              obtain rfl := Option.some.inj H
              first | (go_wp2; go_ret; exact ⟨lE, lB⟩) | (exfalso; simp only [decide_eq_false_iff_not, decide_eq_true_eq] at *; omega)
             ·replace c68 := Bool.eq_false_iff.mpr c68
              subst c68
              rw [if_neg (show ¬ (false = true) by decide)] at H
              replace H := lO H
              obtain ⟨t195, A69, H⟩ := H
              by_cases c70 : t195 < 0
              ·rw [if_pos c70] at H
               have c70b0 : decide (t195 < 0) = true := decide_eq_true c70
               clear c70
               obtain rfl := Option.some.inj H
               go_wp2_with (first | ((with_reducible refine gate_callee (f := 29) rfl ?_); refine gl_ (some 111) (Try.func29) #[.slice Ao54 t184.length co54, .int .i64 1] ?_; (with_reducible refine (laws_heldIntS.calls kj52 _ _ t184 1 t195 _ ?side1 ?side2 A69.out).mono ?_); (case side1 => repeat (first | exact (Kd.R_reads' HO_8.out).2.2 | (with_reducible refine Kd.C_alloc ?_ _) | (with_reducible refine Kd.C_drewN ?_ _) | (with_reducible refine Kd.C_drew ?_))); (case side2 => exact (Kd.R_reads' HO_8.out).2.1); rintro e w' ⟨rfl, ⟨nd, rfl⟩⟩; refine ⟨_, rfl, ?_⟩))
               go_ret
               exact ⟨lE, lB⟩
              ·rw [if_neg c70] at H
               have c70b0 : decide (t195 < 0) = false := decide_eq_false c70
               clear c70
               by_cases c71 : t195 = t183
               ·rw [if_pos c71] at H
                have c71b0 : (t195 == t183) = true := beq_iff_eq.mpr c71
                have c71b1 : (t195 != t183) = false := bne_eq_false_iff_eq.mpr c71
                clear c71
                obtain rfl := Option.some.inj H
                go_wp2_with (first | ((with_reducible refine gate_callee (f := 29) rfl ?_); refine gl_ (some 111) (Try.func29) #[.slice Ao54 t184.length co54, .int .i64 1] ?_; (with_reducible refine (laws_heldIntS.calls kj52 _ _ t184 1 t195 _ ?side1 ?side2 A69.out).mono ?_); (case side1 => repeat (first | exact (Kd.R_reads' HO_8.out).2.2 | (with_reducible refine Kd.C_alloc ?_ _) | (with_reducible refine Kd.C_drewN ?_ _) | (with_reducible refine Kd.C_drew ?_))); (case side2 => exact (Kd.R_reads' HO_8.out).2.1); rintro e w' ⟨rfl, ⟨nd, rfl⟩⟩; refine ⟨_, rfl, ?_⟩))
                go_ret
                exact ⟨lE, lB⟩
               ·rw [if_neg c71] at H
                have c71b0 : (t195 == t183) = false := beq_eq_false_iff_ne.mpr c71
                have c71b1 : (t195 != t183) = true := bne_iff_ne.mpr c71
                obtain rfl := Option.some.inj H
                go_wp2_with (first | ((with_reducible refine gate_callee (f := 29) rfl ?_); refine gl_ (some 111) (Try.func29) #[.slice Ao54 t184.length co54, .int .i64 1] ?_; (with_reducible refine (laws_heldIntS.calls kj52 _ _ t184 1 t195 _ ?side1 ?side2 A69.out).mono ?_); (case side1 => repeat (first | exact (Kd.R_reads' HO_8.out).2.2 | (with_reducible refine Kd.C_alloc ?_ _) | (with_reducible refine Kd.C_drewN ?_ _) | (with_reducible refine Kd.C_drew ?_))); (case side2 => exact (Kd.R_reads' HO_8.out).2.1); rintro e w' ⟨rfl, ⟨nd, rfl⟩⟩; refine ⟨_, rfl, ?_⟩))
                go_ret
                exact ⟨lE, lB⟩
          ·rw [if_neg c50] at H
           have c50b0 : (t185 == t183) = false := beq_eq_false_iff_ne.mpr c50
           have c50b1 : (t185 != t183) = true := bne_iff_ne.mpr c50
           obtain rfl := Option.some.inj H
           obtain ⟨Ao72, co72, eo72⟩ := Kd.R_slice HO_8.out
           subst eo72
           go_wp2_with (first | ((with_reducible refine gate_callee (f := 28) rfl ?_); refine gl_ (some 79) (Try.func28) #[.slice Ao72 t170.length co72, .int .i64 1] ?_; (with_reducible refine (laws_markIntS.calls kj28 (fun k_ => some k_ = (.slice Ao72 t170.length co72 : Value).ownBlock) (.slice Ao72 t170.length co72) t170 1 t183 t184 w _ ?side1 ?side2 A45.out).mono ?_); (case side1 => repeat (first | (with_reducible first | exact HB.out | apply below_alloc | apply pw_below_drewN | apply below_drew1) | exact HB.out)); (case side2 => exact Kd.R_tight rfl HO_8.out); rintro e w73 ⟨rfl, hy0, hb, hkp⟩; refine ⟨_, rfl, ?_⟩; have n0_ := Aside0.mk (Kd.R_mono (ok' := fun k_ => some k_ ≠ (.slice Ao72 t170.length co72 : Value).ownBlock) (Kd.R_keptB (HO_4.out) hkp (fun k_ hk_ hs_ => (hk_) hs_)) (fun k_ hk_ => hk_.1)); have n1_ := Aside0.mk (Kd.R_reok rfl hy0 (fun k_ e_ => HO_8.out.1 k_ e_)); have n2_ := Aside0.mk (hb); clear HO_4; clear HO_8; clear HB; have HO_4 := n0_; have HO_8 := n1_; have HB := n2_; clear n0_ n1_ n2_; (try clear hb); (try clear hkp); (try clear hy0)) | ((with_reducible refine gate_callee (f := 29) rfl ?_); refine goesL_ (some 82) rfl rfl Try.func29 (by kernel_rfl) rfl #[.slice Ao72 t184.length co72, .int .i64 1] rfl (by (try simp only [List.map_toArray, List.map_cons, List.map_nil]); first | done | (rw [show t184.length = t170.length from (Kd.R_reads' HO_8.out).1.symm] <;> rfl) | rfl | (simp only [List.length_drop, List.length_take]; rfl)) ?_; (with_reducible refine (laws_heldIntS.calls kj28 _ _ t184 1 t185 _ ?side1 ?side2 A46.out).mono ?_); (case side1 => repeat (first | exact (Kd.R_reads' HO_8.out).2.2 | (with_reducible refine Kd.C_alloc ?_ _) | (with_reducible refine Kd.C_drewN ?_ _) | (with_reducible refine Kd.C_drew ?_))); (case side2 => rw [show t184.length = t170.length from (Kd.R_reads' HO_8.out).1.symm]; exact (Kd.R_reads' HO_8.out).2.1); rintro e w' ⟨rfl, ⟨nd, rfl⟩⟩; refine ⟨_, rfl, ?_⟩))
           go_ret
           exact ⟨lE, lB⟩
     ·replace c27 := Bool.eq_false_iff.mpr c27
      subst c27
      rw [if_neg (show ¬ (false = true) by decide)] at H
      obtain rfl := Option.some.inj H
      go_wp2_with (first | ((with_reducible refine gate_callee (f := 14) rfl ?_); refine gl_ (some 53) (Try.func14) #[.slice A0 l0.length c0] ?_; (with_reducible refine (laws_toXCellS.calls kj7 _ _ l0 t176 _ ?side1 ?side2 A25.out).mono ?_); (case side1 => exact lC (Kd.C_below HR0.out HB.out)); (case side2 => exact HC0.out); rintro e w74 ⟨v177, rfl, ho0, hb⟩; refine ⟨_, rfl, ?_⟩; have n0_ := Aside0.mk (Kd.R_below (lR HO_4.out) hb); have n1_ := Aside0.mk (Kd.R_elder' (lR HO_7.out) (Kd.R_base ho0) hb); have n2_ := Aside0.mk (Kd.R_below (lR HO_8.out) hb); have n3_ := Aside0.mk (Kd.R_lower (Kd.R_new' ho0 (Kd.R_lt (lR HO_7.out))) (below_size lB)); have n4_ := Aside0.mk (below_step lB hb); clear HO_4; clear HO_7; clear HO_8; clear HB; have HO_4 := n0_; have HO_7 := n1_; have HO_8 := n2_; have HO178 := n3_; have HB := n4_; clear n0_ n1_ n2_ n3_ n4_; (try clear hb); (try clear hb2); (try clear hk); (try clear hi); (try clear ho0); obtain ⟨Ao75, co75, eo75⟩ := Kd.R_slice HO178.out; subst eo75) | ((with_reducible refine gate_callee (f := 16) rfl ?_); refine gl_ (some 54) (Try.func16) #[.slice Ao13 t167.length co13, .slice Ao75 t176.length co75] ?_; (with_reducible refine (laws_eqXCellS.calls kj7 _ _ t167 _ _ t176 false _ ?side1 ?side2 ?side3 ?side4 A26.out).mono ?_); (case side1 => repeat (first | exact (Kd.R_reads' HO_7.out).2.2 | (with_reducible refine Kd.C_alloc ?_ _) | (with_reducible refine Kd.C_drewN ?_ _) | (with_reducible refine Kd.C_drew ?_))); (case side2 => exact (Kd.R_reads' HO_7.out).2.1); (case side3 => repeat (first | exact (Kd.R_reads' HO178.out).2.2 | (with_reducible refine Kd.C_alloc ?_ _) | (with_reducible refine Kd.C_drewN ?_ _) | (with_reducible refine Kd.C_drew ?_))); (case side4 => exact (Kd.R_reads' HO178.out).2.1); rintro e w76 ⟨rfl, hb⟩; refine ⟨_, rfl, ?_⟩; have n0_ := Aside0.mk (Kd.R_below (lR HO_4.out) hb); have n1_ := Aside0.mk (Kd.R_below (lR HO_7.out) hb); have n2_ := Aside0.mk (Kd.R_below (lR HO_8.out) hb); have n3_ := Aside0.mk (Kd.R_below (lR HO178.out) hb); have n4_ := Aside0.mk (below_step lB hb); clear HO_4; clear HO_7; clear HO_8; clear HO178; clear HB; have HO_4 := n0_; have HO_7 := n1_; have HO_8 := n2_; have HO178 := n3_; have HB := n4_; clear n0_ n1_ n2_ n3_ n4_; (try clear hb); (try clear hb2); (try clear hk); (try clear hi)))
      go_ret
      exact ⟨lE, lB⟩

end Go.Proofs.Ytgjojppbichaiaa.Q
