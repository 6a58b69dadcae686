-- Written by the program wip/tools/pr.py of this claim's session, over the kit's print.py.
import Derived.Test.YtgjojppbichaiaaQx0
import Derived.Test.YtgjojppbichaiaaQx1
import Derived.Test.YtgjojppbichaiaaQx2
namespace Go.Proofs.Ytgjojppbichaiaa.Q
open Go.RowKit Go.Proofs.YtgjojppbichaiaaW.PrintWords Go.Proofs.YtgjojppbichaiaaW.PrintLast Go.Proofs.YtgjojppbichaiaaW.PrintMore
attribute [local go_sem] max2_int min2_int max_two min_two max_three min_three max_four min_four   -- for this text's walks alone
set_option linter.unusedVariables false
set_option linter.unusedSimpArgs false

/-! ### spec_RunLined: function 32 -/
mutual
def spec_RunLined.j0 : Nat → Int → Bool → List (S86) → List (S63) → Option (List Int × Int × Int × Bool)
 | 0, _, _, _, _ => none
 | k + 1, x1, x23, x150000, x150001 => if x23 = true then (some (([] : List Int), 0, 0, false)) else (if 40 ≤ 35184372088832 then (spec_RunLined.l0 k x1 (List.replicate 40 0) ([] : List Int) 0 0 x150000 x150001) else (none))
def spec_RunLined.l0 : Nat → Int → List Int → List Int → Int → Int → List (S86) → List (S63) → Option (List Int × Int × Int × Bool)
 | 0, _, _, _, _, _, _, _ => none
 | k + 1, x1, x8, x9, x10, x11, x150000, x150001 => if x11 < (x150000.length : Int) then (if x10 = x1 then (some (([] : List Int), 0, 0, false)) else (if 0 ≤ x11 then (if ((rd_T86 x150000 x11).f0) = 1 then (if (x9.length : Int) = 200 then (some (([] : List Int), 0, 0, false)) else (if x9.length < 17592186044416 then (spec_RunLined.j2 k x1 x8 (x9 ++ [(rd_T86 x150000 x11).f1]) x10 x11 0 (wrap64 (x11 + 1)) x150000 x150001) else (none))) else (if ((rd_T86 x150000 x11).f0) = 2 then (spec_RunLined.j2 k x1 x8 x9 x10 x11 ((rd_T86 x150000 x11).f1) (wrap64 (x11 + 1)) x150000 x150001) else (if ((rd_T86 x150000 x11).f0) = 3 then (if 0 ≤ ((rd_T86 x150000 x11).f1) then (if ((rd_T86 x150000 x11).f1) < (x8.length : Int) then (spec_RunLined.j2 k x1 x8 x9 x10 x11 (rd x8 ((rd_T86 x150000 x11).f1)) (wrap64 (x11 + 1)) x150000 x150001) else (none)) else (none)) else (if ((rd_T86 x150000 x11).f0) = 4 then (spec_RunLined.j2 k x1 x8 x9 x10 x11 0 ((rd_T86 x150000 x11).f2) x150000 x150001) else (if ((rd_T86 x150000 x11).f0) = 5 then (if 0 ≤ ((rd_T86 x150000 x11).f1) then (if ((rd_T86 x150000 x11).f1) < (x8.length : Int) then (spec_RunLined.j2 k x1 (x8.set (((rd_T86 x150000 x11).f1) : Int).toNat 0) x9 x10 x11 0 (wrap64 (x11 + 1)) x150000 x150001) else (none)) else (none)) else (if ((rd_T86 x150000 x11).f0) = 6 then (if 0 ≤ ((rd_T86 x150000 x11).f1) then (if ((rd_T86 x150000 x11).f1) < (x8.length : Int) then (if (rd x8 ((rd_T86 x150000 x11).f1)) = ((rd_T86 x150000 x11).f2) then (spec_RunLined.j2 k x1 x8 x9 x10 x11 0 (wrap64 (x11 + 1)) x150000 x150001) else (spec_RunLined.j2 k x1 (x8.set (((rd_T86 x150000 x11).f1) : Int).toNat (wrap64 ((rd x8 ((rd_T86 x150000 x11).f1)) + 1))) x9 x10 x11 0 (wrap64 (x11 + 2)) x150000 x150001)) else (none)) else (none)) else (spec_RunLined.j2 k x1 x8 x9 x10 x11 0 (wrap64 (x11 + 1)) x150000 x150001))))))) else (none))) else (some (x9, 0, x10, true))
def spec_RunLined.j2 : Nat → Int → List Int → List Int → Int → Int → Int → Int → List (S86) → List (S63) → Option (List Int × Int × Int × Bool)
 | 0, _, _, _, _, _, _, _, _, _ => none
 | k + 1, x1, x8, x9, x10, x11, x13, x14, x150000, x150001 => if x13 = 0 then (spec_RunLined.l0 k x1 x8 x9 (wrap64 (x10 + 1)) x14 x150000 x150001) else ((spec_l16Guard.f k x150000 x150001 x11 x13).bind fun t165 => (if t165 < 0 then (some (x9, x13, wrap64 (x10 + 1), true)) else (if 0 ≤ t165 then (if t165 < (x8.length : Int) then (if t165 < (x150001.length : Int) then (spec_RunLined.l0 k x1 (x8.set (t165 : Int).toNat x13) x9 (wrap64 (x10 + 1)) ((rd_T63 x150001 t165).f3) x150000 x150001) else (none)) else (none)) else (none))))
end
def spec_RunLined.f (k : Nat) (l0_0 : List (S86)) (l0_1 : List (S63)) (a1 : Int) : Option (List Int × Int × Int × Bool) := (spec_GoodLined.f k l0_0 l0_1).bind fun t150 => (if t150 = true then ((spec_l1In.f a1 0 2000).bind fun t151 => (spec_RunLined.j0 k a1 (!t151) l0_0 l0_1)) else (spec_RunLined.j0 k a1 true l0_0 l0_1))
theorem spec_RunLined.mono_l : ∀ k, (∀ y0 y1 y2 y3, LeO (spec_RunLined.j0 k y0 y1 y2 y3) (spec_RunLined.j0 (k + 1) y0 y1 y2 y3)) ∧ (∀ y0 y1 y2 y3 y4 y5 y6, LeO (spec_RunLined.l0 k y0 y1 y2 y3 y4 y5 y6) (spec_RunLined.l0 (k + 1) y0 y1 y2 y3 y4 y5 y6)) ∧ (∀ y0 y1 y2 y3 y4 y5 y6 y7 y8, LeO (spec_RunLined.j2 k y0 y1 y2 y3 y4 y5 y6 y7 y8) (spec_RunLined.j2 (k + 1) y0 y1 y2 y3 y4 y5 y6 y7 y8))
 | 0 => ⟨fun _ _ _ _ r h => by simp [spec_RunLined.j0] at h, fun _ _ _ _ _ _ _ r h => by simp [spec_RunLined.l0] at h, fun _ _ _ _ _ _ _ _ _ r h => by simp [spec_RunLined.j2] at h⟩
 | k + 1 => by
  obtain ⟨ih0, ih1, ih2⟩ := spec_RunLined.mono_l k
  refine ⟨?_, ?_, ?_⟩
  ·intro y0 y1 y2 y3
   unfold spec_RunLined.j0
   repeat' first
   | with_reducible apply ih0
   | with_reducible apply ih1
   | with_reducible apply ih2
   | with_reducible apply spec_GoodLined.mono
   | with_reducible apply spec_l16Guard.mono
   | (with_reducible exact LeO.refl _)
   | (with_reducible exact LeO.none _)
   | (with_reducible refine LeO.ite ?_ ?_)
   | (with_reducible refine LeO.bind ?_ (fun _ => ?_))
   | apply ih0
   | apply ih1
   | apply ih2
   | apply spec_GoodLined.mono
   | apply spec_l16Guard.mono
   | exact LeO.none _
   | refine LeO.ite ?_ ?_
   | refine LeO.bind ?_ (fun _ => ?_)
  ·intro y0 y1 y2 y3 y4 y5 y6
   unfold spec_RunLined.l0
   repeat' first
   | with_reducible apply ih0
   | with_reducible apply ih1
   | with_reducible apply ih2
   | with_reducible apply spec_GoodLined.mono
   | with_reducible apply spec_l16Guard.mono
   | (with_reducible exact LeO.refl _)
   | (with_reducible exact LeO.none _)
   | (with_reducible refine LeO.ite ?_ ?_)
   | (with_reducible refine LeO.bind ?_ (fun _ => ?_))
   | apply ih0
   | apply ih1
   | apply ih2
   | apply spec_GoodLined.mono
   | apply spec_l16Guard.mono
   | exact LeO.none _
   | refine LeO.ite ?_ ?_
   | refine LeO.bind ?_ (fun _ => ?_)
  ·intro y0 y1 y2 y3 y4 y5 y6 y7 y8
   unfold spec_RunLined.j2
   repeat' first
   | with_reducible apply ih0
   | with_reducible apply ih1
   | with_reducible apply ih2
   | with_reducible apply spec_GoodLined.mono
   | with_reducible apply spec_l16Guard.mono
   | (with_reducible exact LeO.refl _)
   | (with_reducible exact LeO.none _)
   | (with_reducible refine LeO.ite ?_ ?_)
   | (with_reducible refine LeO.bind ?_ (fun _ => ?_))
   | apply ih0
   | apply ih1
   | apply ih2
   | apply spec_GoodLined.mono
   | apply spec_l16Guard.mono
   | exact LeO.none _
   | refine LeO.ite ?_ ?_
   | refine LeO.bind ?_ (fun _ => ?_)
theorem spec_RunLined.mono : ∀ a0 a1 a2 k, LeO (spec_RunLined.f k a0 a1 a2) (spec_RunLined.f (k + 1) a0 a1 a2) := by
 intro a0 a1 a2 k
 obtain ⟨ih0, ih1, ih2⟩ := spec_RunLined.mono_l k
 unfold spec_RunLined.f
 repeat' first
   | with_reducible apply ih0
   | with_reducible apply ih1
   | with_reducible apply ih2
   | with_reducible apply spec_GoodLined.mono
   | with_reducible apply spec_l16Guard.mono
   | (with_reducible exact LeO.refl _)
   | (with_reducible exact LeO.none _)
   | (with_reducible refine LeO.ite ?_ ?_)
   | (with_reducible refine LeO.bind ?_ (fun _ => ?_))
   | apply ih0
   | apply ih1
   | apply ih2
   | apply spec_GoodLined.mono
   | apply spec_l16Guard.mono
   | exact LeO.none _
   | refine LeO.ite ?_ ?_
   | refine LeO.bind ?_ (fun _ => ?_)
set_option maxHeartbeats 8000000 in
set_option maxRecDepth 100000 in
theorem spec_RunLined.calls (k : Nat) (A0_0 : Option Addr) (c0_0 : Nat) (l0_0 : List (S86)) (A0_1 : Option Addr) (c0_1 : Nat) (l0_1 : List (S63)) (a1 : Int) (r1 : List Int) (r2 : Int) (r3 : Int) (r4 : Bool) (w : World) (hr0_0 : Kd.C k86 w A0_0 l0_0.length l0_0) (hc0_0 : l0_0.length ≤ c0_0) (hr0_1 : Kd.C k63 w A0_1 l0_1.length l0_1) (hc0_1 : l0_1.length ≤ c0_1) (h : spec_RunLined.f k l0_0 l0_1 a1 = some (r1, r2, r3, r4)) :
  Calls Try.prog 32 #[.agg #[.slice A0_0 l0_0.length c0_0, .slice A0_1 l0_1.length c0_1], .int .i64 a1] w fun e w' => ∃ v0_ : Value, e = .returned (.tuple #[v0_, .int .i64 r2, .int .i64 r3, .bool r4]) ∧ Kd.R (Kd.int .i64) 3 w' w.heap.size (fun _ => True) v0_ r1 ∧ Below w.heap.size w w' := by
 have hu38 := Try.underlying38
 have hu86 := Try.underlying86
 have HR0_0 := Aside0.mk hr0_0
 have HC0_0 := Aside0.mk hc0_0
 clear hr0_0 hc0_0
 have HR0_1 := Aside0.mk hr0_1
 have HC0_1 := Aside0.mk hc0_1
 clear hr0_1 hc0_1
 have HB := Aside0.mk (Below.refl w.heap.size w)
 have H : ((spec_GoodLined.f k l0_0 l0_1).bind fun t150 => (if t150 = true then ((spec_l1In.f a1 0 2000).bind fun t151 => (spec_RunLined.j0 k a1 (!t151) l0_0 l0_1)) else (spec_RunLined.j0 k a1 true l0_0 l0_1))) = some (r1, r2, r3, r4) := h
 clear h
 have HC3 := Aside0.mk H
 clear H
 go_enter Try.func32, Try.ntmps32
 go_upto_region 1 with (first | ((with_reducible refine gate_dst (N := 2) rfl ?_); refine bxe 2 #[.slice A0_0 l0_0.length c0_0, .slice A0_1 l0_1.length c0_1] 38 ?_; intro gb149 hg w4 hbox hb; have n0_ := Aside0.mk (below_step lB hb); have n1_ := Aside0.mk (hbox); have n2_ := lG w hg; have n3_ := lG w hg; clear HB; have HB := n0_; have BK149 := n1_; have GW149 := n2_; have GE149 := n3_; clear n0_ n1_ n2_ n3_; clear hb hbox hg))
 repeat (go_quiet (fail); go_upto_region 1 with (first | ((with_reducible refine gate_dst (N := 2) rfl ?_); refine bxe 2 #[.slice A0_0 l0_0.length c0_0, .slice A0_1 l0_1.length c0_1] 38 ?_; intro gb149 hg w4 hbox hb; have n0_ := Aside0.mk (below_step lB hb); have n1_ := Aside0.mk (hbox); have n2_ := lG w hg; have n3_ := lG w hg; clear HB; have HB := n0_; have BK149 := n1_; have GW149 := n2_; have GE149 := n3_; clear n0_ n1_ n2_ n3_; clear hb hbox hg)))
 (try simp only [Act.put, List.setIfInBounds_toArray, List.set_cons_zero, List.set_cons_succ])
 go_cut [23] (fun v23 wc => ∃ (kq : Nat) (x23_2 : Bool), v23 = .bool x23_2 ∧ Aside0 (spec_RunLined.j0 kq a1 x23_2 l0_0 l0_1 = some (r1, r2, r3, r4)) ∧ Aside0 (kq ≤ k) ∧ Aside0 (wc.heap[gb149]? = some (.cells #[(.slice A0_0 l0_0.length c0_0), (.slice A0_1 l0_1.length c0_1)] 38 (0, 0))) ∧ Aside0 (Below w.heap.size w wc))
 case first =>
  have H := HC3.out
  clear HC3
  replace H := lO H
  obtain ⟨t150, A5, H⟩ := H
  by_cases c6 : t150 = true
  ·subst c6
   rw [if_pos rfl] at H
   replace H := lO H
   obtain ⟨t151, A7, H⟩ := H
   have H' := Aside0.mk H
   clear H
   obtain ⟨hcz8_0, hfz8_0, hcz8_1, hfz8_1⟩ := bk2 BK149.out
   go_wp2_with (first | (go_at_call 18; (with_reducible refine (spec_GoodLined.calls k _ _ l0_0 _ _ l0_1 true _ ?side1 ?side2 ?side3 ?side4 A5.out).mono ?_); (case side1 => exact lC (Kd.C_below HR0_0.out HB.out)); (case side2 => exact HC0_0.out); (case side3 => exact lC (Kd.C_below HR0_1.out HB.out)); (case side4 => exact HC0_1.out); rintro e w9 ⟨rfl, hb⟩; have n0_ := Aside0.mk (blk_below (lK BK149.out) hb); have n1_ := Aside0.mk (below_step lB hb); clear BK149; clear HB; have BK149 := n0_; have HB := n1_; clear n0_ n1_; (try clear hb); (try clear hb2); (try clear hk); (try clear hi)) | (go_at_call 51; (with_reducible refine (spec_l1In.calls a1 0 2000 t151 _ A7.out).mono ?_); rintro e w' ⟨rfl, ⟨nd, rfl⟩⟩; (try first | exact ⟨rfl, _, World.drewN_drewN _ _ _⟩ | exact ⟨rfl, _, Eq.trans (World.drewN_drewN _ _ _) (congrArg (World.drewN _) (Nat.add_assoc _ _ _))⟩)))
   repeat (go_quiet (first | (go_at_call 51; (with_reducible refine (spec_l1In.calls a1 0 2000 t151 _ A7.out).mono ?_); rintro e w' ⟨rfl, ⟨nd, rfl⟩⟩; (try first | exact ⟨rfl, _, World.drewN_drewN _ _ _⟩ | exact ⟨rfl, _, Eq.trans (World.drewN_drewN _ _ _) (congrArg (World.drewN _) (Nat.add_assoc _ _ _))⟩))); try go_wp2_with (first | (go_at_call 18; (with_reducible refine (spec_GoodLined.calls k _ _ l0_0 _ _ l0_1 true _ ?side1 ?side2 ?side3 ?side4 A5.out).mono ?_); (case side1 => exact lC (Kd.C_below HR0_0.out HB.out)); (case side2 => exact HC0_0.out); (case side3 => exact lC (Kd.C_below HR0_1.out HB.out)); (case side4 => exact HC0_1.out); rintro e w9 ⟨rfl, hb⟩; have n0_ := Aside0.mk (blk_below (lK BK149.out) hb); have n1_ := Aside0.mk (below_step lB hb); clear BK149; clear HB; have BK149 := n0_; have HB := n1_; clear n0_ n1_; (try clear hb); (try clear hb2); (try clear hk); (try clear hi)) | (go_at_call 51; (with_reducible refine (spec_l1In.calls a1 0 2000 t151 _ A7.out).mono ?_); rintro e w' ⟨rfl, ⟨nd, rfl⟩⟩; (try first | exact ⟨rfl, _, World.drewN_drewN _ _ _⟩ | exact ⟨rfl, _, Eq.trans (World.drewN_drewN _ _ _) (congrArg (World.drewN _) (Nat.add_assoc _ _ _))⟩))))
   go_meet
   case rel => exact ⟨_, (!t151), lF, H', ⟨lN⟩, ⟨lK BK149.out⟩, ⟨lB⟩⟩
  ·replace c6 := Bool.eq_false_iff.mpr c6
   subst c6
   rw [if_neg (show ¬ (false = true) by decide)] at H
   have H' := Aside0.mk H
   clear H
   obtain ⟨hcz10_0, hfz10_0, hcz10_1, hfz10_1⟩ := bk2 BK149.out
   go_wp2_with (first | (go_at_call 18; (with_reducible refine (spec_GoodLined.calls k _ _ l0_0 _ _ l0_1 false _ ?side1 ?side2 ?side3 ?side4 A5.out).mono ?_); (case side1 => exact lC (Kd.C_below HR0_0.out HB.out)); (case side2 => exact HC0_0.out); (case side3 => exact lC (Kd.C_below HR0_1.out HB.out)); (case side4 => exact HC0_1.out); rintro e w11 ⟨rfl, hb⟩; have n0_ := Aside0.mk (blk_below (lK BK149.out) hb); have n1_ := Aside0.mk (below_step lB hb); clear BK149; clear HB; have BK149 := n0_; have HB := n1_; clear n0_ n1_; (try clear hb); (try clear hb2); (try clear hk); (try clear hi)))
   repeat (go_quiet (fail); try go_wp2_with (first | (go_at_call 18; (with_reducible refine (spec_GoodLined.calls k _ _ l0_0 _ _ l0_1 false _ ?side1 ?side2 ?side3 ?side4 A5.out).mono ?_); (case side1 => exact lC (Kd.C_below HR0_0.out HB.out)); (case side2 => exact HC0_0.out); (case side3 => exact lC (Kd.C_below HR0_1.out HB.out)); (case side4 => exact HC0_1.out); rintro e w11 ⟨rfl, hb⟩; have n0_ := Aside0.mk (blk_below (lK BK149.out) hb); have n1_ := Aside0.mk (below_step lB hb); clear BK149; clear HB; have BK149 := n0_; have HB := n1_; clear n0_ n1_; (try clear hb); (try clear hb2); (try clear hk); (try clear hi))))
   go_meet
   case rel => exact ⟨_, (true), lF, H', ⟨lN⟩, ⟨lK BK149.out⟩, ⟨lB⟩⟩
 case rest =>
  clear HC3
  try clear p2
  try clear c3
  try clear c6
  try clear hcz10_0 hcz10_1
  try clear hcz8_0 hcz8_1
  try clear hfz10_0 hfz10_1
  try clear hfz8_0 hfz8_1
  obtain ⟨kq, x23_2, rfl, HA, HJ2, BK149, HB⟩ := hcut
  cases kq with
  | zero => exact absurd HA.out (by simp [spec_RunLined.j0])
  | succ kj2 =>
   have H := HA.out
   clear HA
   simp only [spec_RunLined.j0] at H
   by_cases c12 : x23_2 = true
   ·subst c12
    rw [if_pos rfl] at H
    simp only [Option.some.injEq, Prod.mk.injEq] at H
    obtain ⟨rfl, rfl, rfl, rfl⟩ := H
    go_wp2
    repeat (go_quiet (fail); try go_wp2)
    refine bodyPost_ret (results_list (rs := [.tmp 4, .tmp 5, .tmp 6, .tmp 7]) rfl (by simp) (.tmp (.tmp (.tmp (.tmp .nil))))) rfl ?_
    exact ⟨_, lE, by first | exact Kd.R_nil _ _ _ _ _ | exact Kd.N_nil _ _ _ _ _ | exact Kd.V_nil _ _ _ _ _ | exact Kd.Q_nil _ _ _ _ _ | exact Kd.S_nil _ _ _ _ _, lB⟩
   ·replace c12 := Bool.eq_false_iff.mpr c12
    subst c12
    rw [if_neg (show ¬ (false = true) by decide)] at H
    by_cases c13 : 40 ≤ 35184372088832
    ·rw [if_pos c13] at H
     have c13b0 := eq_true c13
     have c13b1 : decide (40 ≤ 35184372088832) = true := decide_eq_true c13
     clear c13
     obtain ⟨y152, hy152⟩ : ∃ y_ : List Int, y_ = (List.replicate 40 0) := ⟨_, rfl⟩
     replace H : (spec_RunLined.l0 kj2 a1 y152 ([] : List Int) 0 0 l0_0 l0_1) = some (r1, r2, r3, r4) := by first | (rw [hy152]; with_reducible exact H) | (have H2_ := (Option.bind_some _ _).symm.trans H; rw [hy152]; with_reducible exact H2_) | (have H2_ := (Option.bind_some _ _).symm.trans H; with_reducible exact H2_) | with_reducible exact H | (rw [hy152]; exact H) | exact H
     have Ny152 := Aside0.mk hy152
     clear hy152
     have H' := Aside0.mk H
     clear H
     go_wp2_with (first | ((with_reducible refine gate_dst (N := 24) rfl ?_); refine Kd.R_make (Kd.int .i64) _ 3 rfl (N := 24) rfl 45 _ _ rfl 40 rfl rfl Try.underlying45 (.int .i64 0) 8 info3 rfl (by decide) (by omega) 0 (ok := fun _ => True) (okp := fun _ => True) rfl (fun _ hk => hk) trivial (by omega) (by omega) (Below.refl _ _) (Nat.le_refl _) ?_; intro v153 w14 ho15 hb hg_ hnew_; clear hg_ hnew_; (first | rw [← Ny152.out] at ho15 | (simp only [Int.reduceToNat] at ho15; rw [← Ny152.out] at ho15)); have n0_ := Aside0.mk (Kd.R_lower ho15 (below_size lB)); have n1_ := Aside0.mk (blk_below (lK BK149.out) hb); have n2_ := Aside0.mk (below_step lB hb); clear BK149; clear HB; have HO154 := n0_; have BK149 := n1_; have HB := n2_; clear n0_ n1_ n2_; clear hb ho15))
     repeat (go_quiet (fail); try go_wp2_with (first | ((with_reducible refine gate_dst (N := 24) rfl ?_); refine Kd.R_make (Kd.int .i64) _ 3 rfl (N := 24) rfl 45 _ _ rfl 40 rfl rfl Try.underlying45 (.int .i64 0) 8 info3 rfl (by decide) (by omega) 0 (ok := fun _ => True) (okp := fun _ => True) rfl (fun _ hk => hk) trivial (by omega) (by omega) (Below.refl _ _) (Nat.le_refl _) ?_; intro v153 w14 ho15 hb hg_ hnew_; clear hg_ hnew_; (first | rw [← Ny152.out] at ho15 | (simp only [Int.reduceToNat] at ho15; rw [← Ny152.out] at ho15)); have n0_ := Aside0.mk (Kd.R_lower ho15 (below_size lB)); have n1_ := Aside0.mk (blk_below (lK BK149.out) hb); have n2_ := Aside0.mk (below_step lB hb); clear BK149; clear HB; have HO154 := n0_; have BK149 := n1_; have HB := n2_; clear n0_ n1_ n2_; clear hb ho15)))
     go_loopg [9, 10, 11] kj2 (fun kq v9 v10 v11 w' => ∃ (x8_2 : List Int) (x9_2 : List Int) (x10_2 : Int) (x11_2 : Int), v10 = .int .i64 x10_2 ∧ v11 = .int .i64 x11_2 ∧ Aside0 (spec_RunLined.l0 kq a1 x8_2 x9_2 x10_2 x11_2 l0_0 l0_1 = some (r1, r2, r3, r4)) ∧ Aside0 (kq ≤ kj2) ∧ Aside0 (Kd.R (Kd.int .i64) 3 w' w.heap.size (fun k_ => some k_ ≠ (v9 : Value).ownBlock) v153 x8_2) ∧ Aside0 (Kd.R (Kd.int .i64) 3 w' w.heap.size (fun k_ => some k_ ≠ (v153 : Value).ownBlock) v9 x9_2) ∧ Aside0 (w'.heap[gb149]? = some (.cells #[(.slice A0_0 l0_0.length c0_0), (.slice A0_1 l0_1.length c0_1)] 38 (0, 0))) ∧ Aside0 (Below w.heap.size w w'))
     case atStart => exact ⟨(y152), (([] : List Int)), (0), (0), lF, lF, H', ⟨Nat.le_refl _⟩, ⟨by (with_reducible repeat (first | apply Kd.R_alloc | apply Kd.R_drewN | apply Kd.R_drew)); exact Kd.R_mono HO154.out (fun _ hk => (by simp [Value.ownBlock]))⟩, ⟨by first | exact Kd.R_nil _ _ _ _ _ | exact Kd.N_nil _ _ _ _ _ | exact Kd.V_nil _ _ _ _ _ | exact Kd.Q_nil _ _ _ _ _ | exact Kd.S_nil _ _ _ _ _⟩, ⟨lK BK149.out⟩, ⟨lB⟩⟩
     case round =>
      clear H'
      try clear c1
      try clear p2
      try clear c3
      try clear c6
      try clear c12
      try clear c13
      try clear c13b0
      try clear c13b1
      try clear hcz10_0 hcz10_1
      try clear hcz8_0 hcz8_1
      try clear hfz10_0 hfz10_1
      try clear hfz8_0 hfz8_1
      try clear p2
      obtain ⟨x8_2, x9_2, x10_2, x11_2, rfl, rfl, HA, HK2, HO_8, HO_9, BK149, HB⟩ := hrel
      cases gk with
      | zero => exact absurd HA.out (by simp [spec_RunLined.l0])
      | succ k2 =>
       have H := HA.out
       clear HA
       simp only [spec_RunLined.l0] at H
       by_cases c16 : x11_2 < (l0_0.length : Int)
       ·rw [if_pos c16] at H
        have c16b0 : decide (x11_2 < (l0_0.length : Int)) = true := decide_eq_true c16
        clear c16
        by_cases c17 : x10_2 = a1
        ·rw [if_pos c17] at H
         have c17b0 : (x10_2 == a1) = true := beq_iff_eq.mpr c17
         have c17b1 : (x10_2 != a1) = false := bne_eq_false_iff_eq.mpr c17
         clear c17
         simp only [Option.some.injEq, Prod.mk.injEq] at H
         obtain ⟨rfl, rfl, rfl, rfl⟩ := H
         obtain ⟨hcz18_0, hfz18_0, hcz18_1, hfz18_1⟩ := bk2 BK149.out
         go_wp2
         repeat (go_quiet (fail); try go_wp2)
         refine bodyPost_ret (results_list (rs := [.tmp 4, .tmp 5, .tmp 6, .tmp 7]) rfl (by simp) (.tmp (.tmp (.tmp (.tmp .nil))))) rfl ?_
         exact ⟨_, lE, by first | exact Kd.R_nil _ _ _ _ _ | exact Kd.N_nil _ _ _ _ _ | exact Kd.V_nil _ _ _ _ _ | exact Kd.Q_nil _ _ _ _ _ | exact Kd.S_nil _ _ _ _ _, lB⟩
        ·rw [if_neg c17] at H
         have c17b0 : (x10_2 == a1) = false := beq_eq_false_iff_ne.mpr c17
         have c17b1 : (x10_2 != a1) = true := bne_iff_ne.mpr c17
         by_cases c19 : 0 ≤ x11_2
         ·rw [if_pos c19] at H
          have c19b0 : decide (0 ≤ x11_2) = true := decide_eq_true c19
          clear c19
          have HC20 := Aside0.mk H
          clear H
          obtain ⟨hcz21_0, hfz21_0, hcz21_1, hfz21_1⟩ := bk2 BK149.out
          have p155 : 0 ≤ (x11_2 : Int) := lD
          have q155 : x11_2 < (l0_0.length : Int) := lD
          obtain ⟨ad155, e155, hx155_0, hx155_1, hx155_2⟩ := at_T86 HR0_0.out x11_2 p155 q155
          cases e155
          replace hx155_0 := pw_cell_below HB.out hx155_0
          replace hx155_1 := pw_cell_below HB.out hx155_1
          replace hx155_2 := pw_cell_below HB.out hx155_2
          replace p155 := eq_true p155
          replace q155 := eq_true q155
          go_upto_block 2 with (first | ((with_reducible refine gate_dst (N := 12) rfl ?_); refine bxe 12 #[.int .i64 0, .int .i64 0, .int .i64 0] 86 ?_; intro gb156 hg w22 hbox hb; have n0_ := Aside0.mk (Kd.R_below (lR HO_8.out) hb); have n1_ := Aside0.mk (Kd.R_below (lR HO_9.out) hb); have n2_ := Aside0.mk (blk_below (lK BK149.out) hb); have n3_ := Aside0.mk (below_step lB hb); have n4_ := Aside0.mk (hbox); have n5_ := lG w hg; have n6_ := lG w hg; have n7_ := Aside0.mk ((by rw [hg]; exact Nat.ne_of_lt (blk_lt (lK BK149.out)) : gb149 ≠ gb156)); have n8_ := Aside0.mk ((by rw [hg]; exact Nat.ne_of_gt (blk_lt (lK BK149.out)) : gb156 ≠ gb149)); clear HO_8; clear HO_9; clear BK149; clear HB; have HO_8 := n0_; have HO_9 := n1_; have BK149 := n2_; have HB := n3_; have BK156 := n4_; have GW156 := n5_; have GE156 := n6_; have NB149_156 := n7_; have NB156_149 := n8_; clear n0_ n1_ n2_ n3_ n4_ n5_ n6_ n7_ n8_; clear hb hbox hg; have hnb23 := NB156_149.out; have hnc23 := NB149_156.out; obtain ⟨hcz24_0, hfz24_0, hcz24_1, hfz24_1, hcz24_2, hfz24_2⟩ := bk3 BK156.out))
          repeat (go_quiet (fail); go_upto_block 2 with (first | ((with_reducible refine gate_dst (N := 12) rfl ?_); refine bxe 12 #[.int .i64 0, .int .i64 0, .int .i64 0] 86 ?_; intro gb156 hg w22 hbox hb; have n0_ := Aside0.mk (Kd.R_below (lR HO_8.out) hb); have n1_ := Aside0.mk (Kd.R_below (lR HO_9.out) hb); have n2_ := Aside0.mk (blk_below (lK BK149.out) hb); have n3_ := Aside0.mk (below_step lB hb); have n4_ := Aside0.mk (hbox); have n5_ := lG w hg; have n6_ := lG w hg; have n7_ := Aside0.mk ((by rw [hg]; exact Nat.ne_of_lt (blk_lt (lK BK149.out)) : gb149 ≠ gb156)); have n8_ := Aside0.mk ((by rw [hg]; exact Nat.ne_of_gt (blk_lt (lK BK149.out)) : gb156 ≠ gb149)); clear HO_8; clear HO_9; clear BK149; clear HB; have HO_8 := n0_; have HO_9 := n1_; have BK149 := n2_; have HB := n3_; have BK156 := n4_; have GW156 := n5_; have GE156 := n6_; have NB149_156 := n7_; have NB156_149 := n8_; clear n0_ n1_ n2_ n3_ n4_ n5_ n6_ n7_ n8_; clear hb hbox hg; have hnb23 := NB156_149.out; have hnc23 := NB149_156.out; obtain ⟨hcz24_0, hfz24_0, hcz24_1, hfz24_1, hcz24_2, hfz24_2⟩ := bk3 BK156.out)))
          (try simp only [Act.put, List.setIfInBounds_toArray, List.set_cons_zero, List.set_cons_succ])
          go_cut [9, 13, 14] (fun v9 v13 v14 wc => ∃ (kq : Nat) (x8_19 : List Int) (x9_19 : List Int) (x13_19 : Int) (x14_19 : Int), v13 = .int .i64 x13_19 ∧ v14 = .int .i64 x14_19 ∧ Aside0 (spec_RunLined.j2 kq a1 x8_19 x9_19 x10_2 x11_2 x13_19 x14_19 l0_0 l0_1 = some (r1, r2, r3, r4)) ∧ Aside0 (kq ≤ k2) ∧ Aside0 (Kd.R (Kd.int .i64) 3 wc w.heap.size (fun k_ => some k_ ≠ (v9 : Value).ownBlock) v153 x8_19) ∧ Aside0 (Kd.R (Kd.int .i64) 3 wc w.heap.size (fun k_ => some k_ ≠ (v153 : Value).ownBlock) v9 x9_19) ∧ Aside0 (wc.heap[gb149]? = some (.cells #[(.slice (some ad155) l0_0.length c0_0), (.slice A0_1 l0_1.length c0_1)] 38 (0, 0))) ∧ Aside0 (wc.heap[gb156]? = some (.cells #[.int .i64 ((rd_T86 l0_0 x11_2).f0), .int .i64 ((rd_T86 l0_0 x11_2).f1), .int .i64 ((rd_T86 l0_0 x11_2).f2)] 86 (0, 0))) ∧ Aside0 (Below w.heap.size w wc))
          case first =>
           have H := HC20.out
           clear HC20
           by_cases c25 : ((rd_T86 l0_0 x11_2).f0) = 1
           ·rw [if_pos c25] at H
            have c25b0 : (((rd_T86 l0_0 x11_2).f0) == 1) = true := beq_iff_eq.mpr c25
            have c25b1 : (((rd_T86 l0_0 x11_2).f0) != 1) = false := bne_eq_false_iff_eq.mpr c25
            clear c25
            (first | rw [c25b0] | (simp only [i64_w, i32_w]; rw [c25b0]) | skip)
            by_cases c26 : (x9_2.length : Int) = 200
            ·rw [if_pos c26] at H
             have c26b0 : ((x9_2.length : Int) == 200) = true := beq_iff_eq.mpr c26
             have c26b1 : ((x9_2.length : Int) != 200) = false := bne_eq_false_iff_eq.mpr c26
             clear c26
             simp only [Option.some.injEq, Prod.mk.injEq] at H
             obtain ⟨rfl, rfl, rfl, rfl⟩ := H
             obtain ⟨Ao27, co27, eo27⟩ := Kd.R_slice HO_9.out
             subst eo27
             go_wp2
             repeat (go_quiet (fail); try go_wp2)
             refine bodyPost_ret (results_list (rs := [.tmp 4, .tmp 5, .tmp 6, .tmp 7]) rfl (by simp) (.tmp (.tmp (.tmp (.tmp .nil))))) rfl ?_
             exact ⟨_, lE, by first | exact Kd.R_nil _ _ _ _ _ | exact Kd.N_nil _ _ _ _ _ | exact Kd.V_nil _ _ _ _ _ | exact Kd.Q_nil _ _ _ _ _ | exact Kd.S_nil _ _ _ _ _, lB⟩
            ·rw [if_neg c26] at H
             have c26b0 : ((x9_2.length : Int) == 200) = false := beq_eq_false_iff_ne.mpr c26
             have c26b1 : ((x9_2.length : Int) != 200) = true := bne_iff_ne.mpr c26
             by_cases c28 : x9_2.length < 17592186044416
             ·rw [if_pos c28] at H
              have LMc28 := Aside0.mk c28
              clear c28
              obtain ⟨y157, hy157⟩ : ∃ y_ : List Int, y_ = (x9_2 ++ [(rd_T86 l0_0 x11_2).f1]) := ⟨_, rfl⟩
              replace H : (spec_RunLined.j2 k2 a1 x8_2 y157 x10_2 x11_2 0 (wrap64 (x11_2 + 1)) l0_0 l0_1) = some (r1, r2, r3, r4) := by first | (rw [hy157]; with_reducible exact H) | (have H2_ := (Option.bind_some _ _).symm.trans H; rw [hy157]; with_reducible exact H2_) | (have H2_ := (Option.bind_some _ _).symm.trans H; with_reducible exact H2_) | with_reducible exact H | (rw [hy157]; exact H) | exact H
              have Ny157 := Aside0.mk hy157
              clear hy157
              have H' := Aside0.mk H
              clear H
              obtain ⟨Ao29, co29, eo29⟩ := Kd.R_slice HO_9.out
              subst eo29
              have hnb30 := NB156_149.out
              have hnc30 := NB149_156.out
              obtain ⟨hcz31_0, hfz31_0, hcz31_1, hfz31_1, hcz31_2, hfz31_2⟩ := bk3 BK156.out
              go_wp2_with (first | ((with_reducible refine gate_builtin (b := .append) (xs := #[.tmp 49, .tmp 52]) rfl ?_); at_builtin; refine Kd.R_append (Kd.int .i64) (w0 := w) w.heap.size rfl (.tmp 49) (.tmp 52) 45 3 (.int .i64 0) 8 rfl Try.underlying45 info3 rfl (by decide) (by omega) (.slice Ao29 x9_2.length co29) x9_2 ((rd_T86 l0_0 x11_2).f1) [.int .i64 ((rd_T86 l0_0 x11_2).f1)] (fun k_ => some k_ ≠ (v153 : Value).ownBlock) (fun _ => False) rfl (by first | (go_simp; done) | (go_simp; rfl)) ?aP (fun _ hk => hk.elim) ?aF ?aO ?aB ?aS ?aL ?_; (case aP => exact rfl); (case aB => exact lB); (case aF => exact (fun k_ hk => Kd.fresh' (Kd.R_lt (by (with_reducible repeat (first | apply Kd.R_alloc | apply Kd.R_drewN | apply Kd.R_drew)); exact (Kd.R_mono (Kd.R_far (p := ⟨gb156, 2, none⟩) (Kd.R_far (p := ⟨gb156, 1, none⟩) (Kd.R_far (p := ⟨gb156, 0, none⟩) (Kd.R_types HO_8.out BK156.out (by decide)) (fun _ hk => hk.2) (.int .i64 ((rd_T86 l0_0 x11_2).f0))) (fun _ hk => hk.2) (.int .i64 ((rd_T86 l0_0 x11_2).f1))) (fun _ hk => hk.2) (.int .i64 ((rd_T86 l0_0 x11_2).f2))) (fun _ h_ => h_.1)))) k_ hk)); (case aO => exact (by (with_reducible repeat (first | apply Kd.R_alloc | apply Kd.R_drewN | apply Kd.R_drew)); exact Kd.R_mono (Kd.R_far (p := ⟨gb156, 2, none⟩) (Kd.R_far (p := ⟨gb156, 1, none⟩) (Kd.R_far (p := ⟨gb156, 0, none⟩) (Kd.R_types HO_9.out BK156.out (by decide)) (fun _ hk => hk.2) (.int .i64 ((rd_T86 l0_0 x11_2).f0))) (fun _ hk => hk.2) (.int .i64 ((rd_T86 l0_0 x11_2).f1))) (fun _ hk => hk.2) (.int .i64 ((rd_T86 l0_0 x11_2).f2))) (fun _ hk => hk.1))); (case aS => exact (below_size lB)); (case aL => have := LMc28.out; omega); intro v158 w32 ho hb hg hat; rw [← Ny157.out] at ho; have n0_ := Aside0.mk (Kd.R_after (ok := (fun _ => True)) (by (with_reducible repeat (first | apply Kd.R_alloc | apply Kd.R_drewN | apply Kd.R_drew)); exact Kd.R_mono (Kd.R_far (p := ⟨gb156, 2, none⟩) (Kd.R_far (p := ⟨gb156, 1, none⟩) (Kd.R_far (p := ⟨gb156, 0, none⟩) (Kd.R_types HO_8.out BK156.out (by decide)) (fun _ hk => hk.2) (.int .i64 ((rd_T86 l0_0 x11_2).f0))) (fun _ hk => hk.2) (.int .i64 ((rd_T86 l0_0 x11_2).f1))) (fun _ hk => hk.2) (.int .i64 ((rd_T86 l0_0 x11_2).f2))) (fun _ hk => ⟨trivial, hk.1⟩)) hg hat); have n1_ := Aside0.mk (blk_grown (lJ BK149.out) hg (Kd.R_ne HO_9.out BK149.out (by decide))); have n2_ := Aside0.mk (blk_grown (g := gb156) (o := .cells #[.int .i64 ((rd_T86 l0_0 x11_2).f0), .int .i64 ((rd_T86 l0_0 x11_2).f1), .int .i64 ((rd_T86 l0_0 x11_2).f2)] 86 (0, 0)) (by (with_reducible repeat first | apply bN | apply bD | apply bA); refine blk_put (cs := #[.int .i64 ((rd_T86 l0_0 x11_2).f0), .int .i64 ((rd_T86 l0_0 x11_2).f1), .int .i64 0]) ?_ 2 _ rfl; (with_reducible repeat first | apply bN | apply bD | apply bA); refine blk_put (cs := #[.int .i64 ((rd_T86 l0_0 x11_2).f0), .int .i64 0, .int .i64 0]) ?_ 1 _ rfl; (with_reducible repeat first | apply bN | apply bD | apply bA); refine blk_put (cs := #[.int .i64 0, .int .i64 0, .int .i64 0]) ?_ 0 _ rfl; (with_reducible repeat first | apply bN | apply bD | apply bA); exact BK156.out) hg (Kd.R_ne HO_9.out BK156.out (by decide))); have n3_ := Aside0.mk (hb); have n4_ := Aside0.mk (ho); clear HO_8; clear BK149; clear BK156; clear HB; clear HO_9; have HO_8 := n0_; have BK149 := n1_; have BK156 := n2_; have HB := n3_; have HO159 := n4_; clear n0_ n1_ n2_ n3_ n4_; clear ho hb hg hat))
              repeat (go_quiet (fail); try go_wp2_with (first | ((with_reducible refine gate_builtin (b := .append) (xs := #[.tmp 49, .tmp 52]) rfl ?_); at_builtin; refine Kd.R_append (Kd.int .i64) (w0 := w) w.heap.size rfl (.tmp 49) (.tmp 52) 45 3 (.int .i64 0) 8 rfl Try.underlying45 info3 rfl (by decide) (by omega) (.slice Ao29 x9_2.length co29) x9_2 ((rd_T86 l0_0 x11_2).f1) [.int .i64 ((rd_T86 l0_0 x11_2).f1)] (fun k_ => some k_ ≠ (v153 : Value).ownBlock) (fun _ => False) rfl (by first | (go_simp; done) | (go_simp; rfl)) ?aP (fun _ hk => hk.elim) ?aF ?aO ?aB ?aS ?aL ?_; (case aP => exact rfl); (case aB => exact lB); (case aF => exact (fun k_ hk => Kd.fresh' (Kd.R_lt (by (with_reducible repeat (first | apply Kd.R_alloc | apply Kd.R_drewN | apply Kd.R_drew)); exact (Kd.R_mono (Kd.R_far (p := ⟨gb156, 2, none⟩) (Kd.R_far (p := ⟨gb156, 1, none⟩) (Kd.R_far (p := ⟨gb156, 0, none⟩) (Kd.R_types HO_8.out BK156.out (by decide)) (fun _ hk => hk.2) (.int .i64 ((rd_T86 l0_0 x11_2).f0))) (fun _ hk => hk.2) (.int .i64 ((rd_T86 l0_0 x11_2).f1))) (fun _ hk => hk.2) (.int .i64 ((rd_T86 l0_0 x11_2).f2))) (fun _ h_ => h_.1)))) k_ hk)); (case aO => exact (by (with_reducible repeat (first | apply Kd.R_alloc | apply Kd.R_drewN | apply Kd.R_drew)); exact Kd.R_mono (Kd.R_far (p := ⟨gb156, 2, none⟩) (Kd.R_far (p := ⟨gb156, 1, none⟩) (Kd.R_far (p := ⟨gb156, 0, none⟩) (Kd.R_types HO_9.out BK156.out (by decide)) (fun _ hk => hk.2) (.int .i64 ((rd_T86 l0_0 x11_2).f0))) (fun _ hk => hk.2) (.int .i64 ((rd_T86 l0_0 x11_2).f1))) (fun _ hk => hk.2) (.int .i64 ((rd_T86 l0_0 x11_2).f2))) (fun _ hk => hk.1))); (case aS => exact (below_size lB)); (case aL => have := LMc28.out; omega); intro v158 w32 ho hb hg hat; rw [← Ny157.out] at ho; have n0_ := Aside0.mk (Kd.R_after (ok := (fun _ => True)) (by (with_reducible repeat (first | apply Kd.R_alloc | apply Kd.R_drewN | apply Kd.R_drew)); exact Kd.R_mono (Kd.R_far (p := ⟨gb156, 2, none⟩) (Kd.R_far (p := ⟨gb156, 1, none⟩) (Kd.R_far (p := ⟨gb156, 0, none⟩) (Kd.R_types HO_8.out BK156.out (by decide)) (fun _ hk => hk.2) (.int .i64 ((rd_T86 l0_0 x11_2).f0))) (fun _ hk => hk.2) (.int .i64 ((rd_T86 l0_0 x11_2).f1))) (fun _ hk => hk.2) (.int .i64 ((rd_T86 l0_0 x11_2).f2))) (fun _ hk => ⟨trivial, hk.1⟩)) hg hat); have n1_ := Aside0.mk (blk_grown (lJ BK149.out) hg (Kd.R_ne HO_9.out BK149.out (by decide))); have n2_ := Aside0.mk (blk_grown (g := gb156) (o := .cells #[.int .i64 ((rd_T86 l0_0 x11_2).f0), .int .i64 ((rd_T86 l0_0 x11_2).f1), .int .i64 ((rd_T86 l0_0 x11_2).f2)] 86 (0, 0)) (by (with_reducible repeat first | apply bN | apply bD | apply bA); refine blk_put (cs := #[.int .i64 ((rd_T86 l0_0 x11_2).f0), .int .i64 ((rd_T86 l0_0 x11_2).f1), .int .i64 0]) ?_ 2 _ rfl; (with_reducible repeat first | apply bN | apply bD | apply bA); refine blk_put (cs := #[.int .i64 ((rd_T86 l0_0 x11_2).f0), .int .i64 0, .int .i64 0]) ?_ 1 _ rfl; (with_reducible repeat first | apply bN | apply bD | apply bA); refine blk_put (cs := #[.int .i64 0, .int .i64 0, .int .i64 0]) ?_ 0 _ rfl; (with_reducible repeat first | apply bN | apply bD | apply bA); exact BK156.out) hg (Kd.R_ne HO_9.out BK156.out (by decide))); have n3_ := Aside0.mk (hb); have n4_ := Aside0.mk (ho); clear HO_8; clear BK149; clear BK156; clear HB; clear HO_9; have HO_8 := n0_; have BK149 := n1_; have BK156 := n2_; have HB := n3_; have HO159 := n4_; clear n0_ n1_ n2_ n3_ n4_; clear ho hb hg hat)))
              go_meet
              case rel => exact ⟨_, (x8_2), (y157), (0), (wrap64 (x11_2 + 1)), lF, lF, H', ⟨by have := HJ2.out; have := HK2.out; first | omega | exact Nat.le_refl _⟩, ⟨by (with_reducible repeat (first | apply Kd.R_alloc | apply Kd.R_drewN | apply Kd.R_drew)); exact Kd.R_mono HO_8.out (fun _ hk => hk.2)⟩, ⟨lR HO159.out⟩, ⟨lK BK149.out⟩, ⟨lK BK156.out⟩, ⟨lB⟩⟩
             ·rw [if_neg c28] at H
              exact absurd H (by simp)
           ·rw [if_neg c25] at H
            have c25b0 : (((rd_T86 l0_0 x11_2).f0) == 1) = false := beq_eq_false_iff_ne.mpr c25
            have c25b1 : (((rd_T86 l0_0 x11_2).f0) != 1) = true := bne_iff_ne.mpr c25
            (first | rw [c25b0] | (simp only [i64_w, i32_w]; rw [c25b0]) | skip)
            by_cases c33 : ((rd_T86 l0_0 x11_2).f0) = 2
            ·rw [if_pos c33] at H
             have c33b0 : (((rd_T86 l0_0 x11_2).f0) == 2) = true := beq_iff_eq.mpr c33
             have c33b1 : (((rd_T86 l0_0 x11_2).f0) != 2) = false := bne_eq_false_iff_eq.mpr c33
             clear c33
             have H' := Aside0.mk H
             clear H
             have hnb34 := NB156_149.out
             have hnc34 := NB149_156.out
             obtain ⟨hcz35_0, hfz35_0, hcz35_1, hfz35_1, hcz35_2, hfz35_2⟩ := bk3 BK156.out
             go_wp2
             repeat (go_quiet (fail); try go_wp2)
             go_meet
             case rel => exact ⟨_, (x8_2), (x9_2), ((rd_T86 l0_0 x11_2).f1), (wrap64 (x11_2 + 1)), lF, lF, H', ⟨by have := HJ2.out; have := HK2.out; first | omega | exact Nat.le_refl _⟩, ⟨by (with_reducible repeat (first | apply Kd.R_alloc | apply Kd.R_drewN | apply Kd.R_drew)); exact Kd.R_mono (Kd.R_far (p := ⟨gb156, 2, none⟩) (Kd.R_far (p := ⟨gb156, 1, none⟩) (Kd.R_far (p := ⟨gb156, 0, none⟩) (Kd.R_types HO_8.out BK156.out (by decide)) (fun _ hk => hk.2) (.int .i64 ((rd_T86 l0_0 x11_2).f0))) (fun _ hk => hk.2) (.int .i64 ((rd_T86 l0_0 x11_2).f1))) (fun _ hk => hk.2) (.int .i64 ((rd_T86 l0_0 x11_2).f2))) (fun _ hk => hk.1)⟩, ⟨by (with_reducible repeat (first | apply Kd.R_alloc | apply Kd.R_drewN | apply Kd.R_drew)); exact Kd.R_mono (Kd.R_far (p := ⟨gb156, 2, none⟩) (Kd.R_far (p := ⟨gb156, 1, none⟩) (Kd.R_far (p := ⟨gb156, 0, none⟩) (Kd.R_types HO_9.out BK156.out (by decide)) (fun _ hk => hk.2) (.int .i64 ((rd_T86 l0_0 x11_2).f0))) (fun _ hk => hk.2) (.int .i64 ((rd_T86 l0_0 x11_2).f1))) (fun _ hk => hk.2) (.int .i64 ((rd_T86 l0_0 x11_2).f2))) (fun _ hk => hk.1)⟩, ⟨lJ BK149.out⟩, ⟨by (with_reducible repeat first | apply bN | apply bD | apply bA); refine blk_put (cs := #[.int .i64 ((rd_T86 l0_0 x11_2).f0), .int .i64 ((rd_T86 l0_0 x11_2).f1), .int .i64 0]) ?_ 2 _ rfl; (with_reducible repeat first | apply bN | apply bD | apply bA); refine blk_put (cs := #[.int .i64 ((rd_T86 l0_0 x11_2).f0), .int .i64 0, .int .i64 0]) ?_ 1 _ rfl; (with_reducible repeat first | apply bN | apply bD | apply bA); refine blk_put (cs := #[.int .i64 0, .int .i64 0, .int .i64 0]) ?_ 0 _ rfl; (with_reducible repeat first | apply bN | apply bD | apply bA); exact BK156.out⟩, ⟨lB⟩⟩
            ·rw [if_neg c33] at H
             have c33b0 : (((rd_T86 l0_0 x11_2).f0) == 2) = false := beq_eq_false_iff_ne.mpr c33
             have c33b1 : (((rd_T86 l0_0 x11_2).f0) != 2) = true := bne_iff_ne.mpr c33
             by_cases c36 : ((rd_T86 l0_0 x11_2).f0) = 3
             ·rw [if_pos c36] at H
              have c36b0 : (((rd_T86 l0_0 x11_2).f0) == 3) = true := beq_iff_eq.mpr c36
              have c36b1 : (((rd_T86 l0_0 x11_2).f0) != 3) = false := bne_eq_false_iff_eq.mpr c36
              clear c36
              by_cases c37 : 0 ≤ ((rd_T86 l0_0 x11_2).f1)
              ·rw [if_pos c37] at H
               have c37b0 : decide (0 ≤ ((rd_T86 l0_0 x11_2).f1)) = true := decide_eq_true c37
               clear c37
               by_cases c38 : ((rd_T86 l0_0 x11_2).f1) < (x8_2.length : Int)
               ·rw [if_pos c38] at H
                have c38b0 : decide (((rd_T86 l0_0 x11_2).f1) < (x8_2.length : Int)) = true := decide_eq_true c38
                clear c38
                have H' := Aside0.mk H
                clear H
                have hnb39 := NB156_149.out
                have hnc39 := NB149_156.out
                obtain ⟨hcz40_0, hfz40_0, hcz40_1, hfz40_1, hcz40_2, hfz40_2⟩ := bk3 BK156.out
                obtain ⟨Ao41, co41, eo41⟩ := Kd.R_slice HO_8.out
                subst eo41
                have p160 : 0 ≤ (((rd_T86 l0_0 x11_2).f1) : Int) := lD
                have q160 : ((rd_T86 l0_0 x11_2).f1) < (x8_2.length : Int) := lD
                obtain ⟨ad160, e160, hx160_0⟩ := Kd.at_int (Kd.R_reads' HO_8.out).2.2 ((rd_T86 l0_0 x11_2).f1) p160 q160
                cases e160
                have hn160_0 : ad160.block ≠ gb156 := Kd.own_blk (Kd.R_ne HO_8.out BK156.out (by decide))
                have hn160_1 : ad160.block ≠ gb156 := Kd.own_blk (Kd.R_ne HO_8.out BK156.out (by decide))
                have hn160_2 : ad160.block ≠ gb156 := Kd.own_blk (Kd.R_ne HO_8.out BK156.out (by decide))
                replace hx160_0 := (cell_far (p := ⟨gb156, 0, none⟩) (by first | (rw [add_block]; exact hn160_0) | (show (Addr.add _ _).block ≠ _; rw [add_block]; exact hn160_0) | exact hn160_0) (.int .i64 ((rd_T86 l0_0 x11_2).f0))).trans hx160_0
                replace hx160_0 := (cell_far (p := ⟨gb156, 1, none⟩) (by first | (rw [add_block]; exact hn160_1) | (show (Addr.add _ _).block ≠ _; rw [add_block]; exact hn160_1) | exact hn160_1) (.int .i64 ((rd_T86 l0_0 x11_2).f1))).trans hx160_0
                replace hx160_0 := (cell_far (p := ⟨gb156, 2, none⟩) (by first | (rw [add_block]; exact hn160_2) | (show (Addr.add _ _).block ≠ _; rw [add_block]; exact hn160_2) | exact hn160_2) (.int .i64 ((rd_T86 l0_0 x11_2).f2))).trans hx160_0
                (try have hy160_0 := fun (n_ : Nat) => (show (((((w22.drewN n_).setCell ⟨gb156, 0, none⟩ (.int .i64 ((rd_T86 l0_0 x11_2).f0))).setCell ⟨gb156, 1, none⟩ (.int .i64 ((rd_T86 l0_0 x11_2).f1))).setCell ⟨gb156, 2, none⟩ (.int .i64 ((rd_T86 l0_0 x11_2).f2)))).cell? _ = some _ from hx160_0))
                clear hn160_0
                clear hn160_1
                clear hn160_2
                replace p160 := eq_true p160
                replace q160 := eq_true q160
                go_wp2
                repeat (go_quiet (fail); try go_wp2)
                go_meet
                case rel => exact ⟨_, (x8_2), (x9_2), (rd x8_2 ((rd_T86 l0_0 x11_2).f1)), (wrap64 (x11_2 + 1)), lF, lF, H', ⟨by have := HJ2.out; have := HK2.out; first | omega | exact Nat.le_refl _⟩, ⟨by (with_reducible repeat (first | apply Kd.R_alloc | apply Kd.R_drewN | apply Kd.R_drew)); exact Kd.R_mono (Kd.R_far (p := ⟨gb156, 2, none⟩) (Kd.R_far (p := ⟨gb156, 1, none⟩) (Kd.R_far (p := ⟨gb156, 0, none⟩) (Kd.R_types HO_8.out BK156.out (by decide)) (fun _ hk => hk.2) (.int .i64 ((rd_T86 l0_0 x11_2).f0))) (fun _ hk => hk.2) (.int .i64 ((rd_T86 l0_0 x11_2).f1))) (fun _ hk => hk.2) (.int .i64 ((rd_T86 l0_0 x11_2).f2))) (fun _ hk => hk.1)⟩, ⟨by (with_reducible repeat (first | apply Kd.R_alloc | apply Kd.R_drewN | apply Kd.R_drew)); exact Kd.R_mono (Kd.R_far (p := ⟨gb156, 2, none⟩) (Kd.R_far (p := ⟨gb156, 1, none⟩) (Kd.R_far (p := ⟨gb156, 0, none⟩) (Kd.R_types HO_9.out BK156.out (by decide)) (fun _ hk => hk.2) (.int .i64 ((rd_T86 l0_0 x11_2).f0))) (fun _ hk => hk.2) (.int .i64 ((rd_T86 l0_0 x11_2).f1))) (fun _ hk => hk.2) (.int .i64 ((rd_T86 l0_0 x11_2).f2))) (fun _ hk => hk.1)⟩, ⟨lJ BK149.out⟩, ⟨by (with_reducible repeat first | apply bN | apply bD | apply bA); refine blk_put (cs := #[.int .i64 ((rd_T86 l0_0 x11_2).f0), .int .i64 ((rd_T86 l0_0 x11_2).f1), .int .i64 0]) ?_ 2 _ rfl; (with_reducible repeat first | apply bN | apply bD | apply bA); refine blk_put (cs := #[.int .i64 ((rd_T86 l0_0 x11_2).f0), .int .i64 0, .int .i64 0]) ?_ 1 _ rfl; (with_reducible repeat first | apply bN | apply bD | apply bA); refine blk_put (cs := #[.int .i64 0, .int .i64 0, .int .i64 0]) ?_ 0 _ rfl; (with_reducible repeat first | apply bN | apply bD | apply bA); exact BK156.out⟩, ⟨lB⟩⟩
               ·rw [if_neg c38] at H
                exact absurd H (by simp)
              ·rw [if_neg c37] at H
               exact absurd H (by simp)
             ·rw [if_neg c36] at H
              have c36b0 : (((rd_T86 l0_0 x11_2).f0) == 3) = false := beq_eq_false_iff_ne.mpr c36
              have c36b1 : (((rd_T86 l0_0 x11_2).f0) != 3) = true := bne_iff_ne.mpr c36
              by_cases c42 : ((rd_T86 l0_0 x11_2).f0) = 4
              ·rw [if_pos c42] at H
               have c42b0 : (((rd_T86 l0_0 x11_2).f0) == 4) = true := beq_iff_eq.mpr c42
               have c42b1 : (((rd_T86 l0_0 x11_2).f0) != 4) = false := bne_eq_false_iff_eq.mpr c42
               clear c42
               have H' := Aside0.mk H
               clear H
               have hnb43 := NB156_149.out
               have hnc43 := NB149_156.out
               obtain ⟨hcz44_0, hfz44_0, hcz44_1, hfz44_1, hcz44_2, hfz44_2⟩ := bk3 BK156.out
               go_wp2
               repeat (go_quiet (fail); try go_wp2)
               go_meet
               case rel => exact ⟨_, (x8_2), (x9_2), (0), ((rd_T86 l0_0 x11_2).f2), lF, lF, H', ⟨by have := HJ2.out; have := HK2.out; first | omega | exact Nat.le_refl _⟩, ⟨by (with_reducible repeat (first | apply Kd.R_alloc | apply Kd.R_drewN | apply Kd.R_drew)); exact Kd.R_mono (Kd.R_far (p := ⟨gb156, 2, none⟩) (Kd.R_far (p := ⟨gb156, 1, none⟩) (Kd.R_far (p := ⟨gb156, 0, none⟩) (Kd.R_types HO_8.out BK156.out (by decide)) (fun _ hk => hk.2) (.int .i64 ((rd_T86 l0_0 x11_2).f0))) (fun _ hk => hk.2) (.int .i64 ((rd_T86 l0_0 x11_2).f1))) (fun _ hk => hk.2) (.int .i64 ((rd_T86 l0_0 x11_2).f2))) (fun _ hk => hk.1)⟩, ⟨by (with_reducible repeat (first | apply Kd.R_alloc | apply Kd.R_drewN | apply Kd.R_drew)); exact Kd.R_mono (Kd.R_far (p := ⟨gb156, 2, none⟩) (Kd.R_far (p := ⟨gb156, 1, none⟩) (Kd.R_far (p := ⟨gb156, 0, none⟩) (Kd.R_types HO_9.out BK156.out (by decide)) (fun _ hk => hk.2) (.int .i64 ((rd_T86 l0_0 x11_2).f0))) (fun _ hk => hk.2) (.int .i64 ((rd_T86 l0_0 x11_2).f1))) (fun _ hk => hk.2) (.int .i64 ((rd_T86 l0_0 x11_2).f2))) (fun _ hk => hk.1)⟩, ⟨lJ BK149.out⟩, ⟨by (with_reducible repeat first | apply bN | apply bD | apply bA); refine blk_put (cs := #[.int .i64 ((rd_T86 l0_0 x11_2).f0), .int .i64 ((rd_T86 l0_0 x11_2).f1), .int .i64 0]) ?_ 2 _ rfl; (with_reducible repeat first | apply bN | apply bD | apply bA); refine blk_put (cs := #[.int .i64 ((rd_T86 l0_0 x11_2).f0), .int .i64 0, .int .i64 0]) ?_ 1 _ rfl; (with_reducible repeat first | apply bN | apply bD | apply bA); refine blk_put (cs := #[.int .i64 0, .int .i64 0, .int .i64 0]) ?_ 0 _ rfl; (with_reducible repeat first | apply bN | apply bD | apply bA); exact BK156.out⟩, ⟨lB⟩⟩
              ·rw [if_neg c42] at H
               have c42b0 : (((rd_T86 l0_0 x11_2).f0) == 4) = false := beq_eq_false_iff_ne.mpr c42
               have c42b1 : (((rd_T86 l0_0 x11_2).f0) != 4) = true := bne_iff_ne.mpr c42
               by_cases c45 : ((rd_T86 l0_0 x11_2).f0) = 5
               ·rw [if_pos c45] at H
                have c45b0 : (((rd_T86 l0_0 x11_2).f0) == 5) = true := beq_iff_eq.mpr c45
                have c45b1 : (((rd_T86 l0_0 x11_2).f0) != 5) = false := bne_eq_false_iff_eq.mpr c45
                clear c45
                by_cases c46 : 0 ≤ ((rd_T86 l0_0 x11_2).f1)
                ·rw [if_pos c46] at H
                 have c46b0 : decide (0 ≤ ((rd_T86 l0_0 x11_2).f1)) = true := decide_eq_true c46
                 clear c46
                 by_cases c47 : ((rd_T86 l0_0 x11_2).f1) < (x8_2.length : Int)
                 ·rw [if_pos c47] at H
                  have c47b0 : decide (((rd_T86 l0_0 x11_2).f1) < (x8_2.length : Int)) = true := decide_eq_true c47
                  clear c47
                  obtain ⟨y161, hy161⟩ : ∃ y_ : List Int, y_ = (x8_2.set (((rd_T86 l0_0 x11_2).f1) : Int).toNat 0) := ⟨_, rfl⟩
                  replace H : (spec_RunLined.j2 k2 a1 y161 x9_2 x10_2 x11_2 0 (wrap64 (x11_2 + 1)) l0_0 l0_1) = some (r1, r2, r3, r4) := by first | (rw [hy161]; with_reducible exact H) | (have H2_ := (Option.bind_some _ _).symm.trans H; rw [hy161]; with_reducible exact H2_) | (have H2_ := (Option.bind_some _ _).symm.trans H; with_reducible exact H2_) | with_reducible exact H | (rw [hy161]; exact H) | exact H
                  have Ny161 := Aside0.mk hy161
                  clear hy161
                  have H' := Aside0.mk H
                  clear H
                  have hnb49 := NB156_149.out
                  have hnc49 := NB149_156.out
                  obtain ⟨hcz50_0, hfz50_0, hcz50_1, hfz50_1, hcz50_2, hfz50_2⟩ := bk3 BK156.out
                  have p48 : 0 ≤ (((rd_T86 l0_0 x11_2).f1) : Int) := lD
                  have q48 : (((rd_T86 l0_0 x11_2).f1) : Int) < ((x8_2.length : Int) : Int) := lD
                  obtain ⟨go48, co48, eo48, gb48, gl48, cl48, HG48⟩ := Kd.R_form HO_8.out (by omega)
                  (first | cases eo48 | (injection eo48 with ea_ en_ ec_; (first | subst ea_ | (injection ea_ with ea_; subst ea_)); subst ec_; clear en_))
                  have GB48 := Aside0.mk gb48
                  have GG48 := Aside0.mk HG48
                  clear gb48 gl48 HG48
                  obtain ⟨hx48_0, hf48_0⟩ := Kd.R_celln 0 (Kd.R_far (p := ⟨gb156, 2, none⟩) (Kd.R_far (p := ⟨gb156, 1, none⟩) (Kd.R_far (p := ⟨gb156, 0, none⟩) (Kd.R_types HO_8.out BK156.out (by decide)) (fun _ hk => hk.2) (.int .i64 ((rd_T86 l0_0 x11_2).f0))) (fun _ hk => hk.2) (.int .i64 ((rd_T86 l0_0 x11_2).f1))) (fun _ hk => hk.2) (.int .i64 ((rd_T86 l0_0 x11_2).f2))) (((rd_T86 l0_0 x11_2).f1) : Int) p48 q48
                  replace p48 := eq_true p48
                  replace q48 := eq_true q48
                  go_wp2_with (first | ((with_reducible refine gate_store (t := 3) (p := 74) rfl ?_); have n0_ : Aside0 (Kd.R (Kd.int .i64) 3 (((w22.setCell ⟨gb156, 0, none⟩ (.int .i64 ((rd_T86 l0_0 x11_2).f0))).setCell ⟨gb156, 1, none⟩ (.int .i64 ((rd_T86 l0_0 x11_2).f1))).setCell ⟨gb156, 2, none⟩ (.int .i64 ((rd_T86 l0_0 x11_2).f2))) w.heap.size (fun k_ => some k_ ≠ (u9 : Value).ownBlock) (.slice (some ⟨go48, 0, none⟩) x8_2.length co48) x8_2) := ⟨by (with_reducible repeat (first | apply Kd.R_alloc | apply Kd.R_drewN | apply Kd.R_drew)); exact Kd.R_mono (Kd.R_far (p := ⟨gb156, 2, none⟩) (Kd.R_far (p := ⟨gb156, 1, none⟩) (Kd.R_far (p := ⟨gb156, 0, none⟩) (Kd.R_types HO_8.out BK156.out (by decide)) (fun _ hk => hk.2) (.int .i64 ((rd_T86 l0_0 x11_2).f0))) (fun _ hk => hk.2) (.int .i64 ((rd_T86 l0_0 x11_2).f1))) (fun _ hk => hk.2) (.int .i64 ((rd_T86 l0_0 x11_2).f2))) (fun _ hk => hk.1)⟩; have n1_ : Aside0 (Kd.R (Kd.int .i64) 3 (((w22.setCell ⟨gb156, 0, none⟩ (.int .i64 ((rd_T86 l0_0 x11_2).f0))).setCell ⟨gb156, 1, none⟩ (.int .i64 ((rd_T86 l0_0 x11_2).f1))).setCell ⟨gb156, 2, none⟩ (.int .i64 ((rd_T86 l0_0 x11_2).f2))) w.heap.size (fun k_ => some k_ ≠ (.slice (some ⟨go48, 0, none⟩) x8_2.length co48 : Value).ownBlock) u9 x9_2) := ⟨by (with_reducible repeat (first | apply Kd.R_alloc | apply Kd.R_drewN | apply Kd.R_drew)); exact Kd.R_mono (Kd.R_far (p := ⟨gb156, 2, none⟩) (Kd.R_far (p := ⟨gb156, 1, none⟩) (Kd.R_far (p := ⟨gb156, 0, none⟩) (Kd.R_types HO_9.out BK156.out (by decide)) (fun _ hk => hk.2) (.int .i64 ((rd_T86 l0_0 x11_2).f0))) (fun _ hk => hk.2) (.int .i64 ((rd_T86 l0_0 x11_2).f1))) (fun _ hk => hk.2) (.int .i64 ((rd_T86 l0_0 x11_2).f2))) (fun _ hk => hk.1)⟩; have n2_ : Aside0 ((((w22.setCell ⟨gb156, 0, none⟩ (.int .i64 ((rd_T86 l0_0 x11_2).f0))).setCell ⟨gb156, 1, none⟩ (.int .i64 ((rd_T86 l0_0 x11_2).f1))).setCell ⟨gb156, 2, none⟩ (.int .i64 ((rd_T86 l0_0 x11_2).f2))).heap[gb149]? = some (.cells #[.slice (some ad155) l0_0.length c0_0, .slice A0_1 l0_1.length c0_1] 38 (0, 0))) := ⟨lJ BK149.out⟩; have n3_ : Aside0 ((((w22.setCell ⟨gb156, 0, none⟩ (.int .i64 ((rd_T86 l0_0 x11_2).f0))).setCell ⟨gb156, 1, none⟩ (.int .i64 ((rd_T86 l0_0 x11_2).f1))).setCell ⟨gb156, 2, none⟩ (.int .i64 ((rd_T86 l0_0 x11_2).f2))).heap[gb156]? = some (.cells #[.int .i64 ((rd_T86 l0_0 x11_2).f0), .int .i64 ((rd_T86 l0_0 x11_2).f1), .int .i64 ((rd_T86 l0_0 x11_2).f2)] 86 (0, 0))) := ⟨by (with_reducible repeat first | apply bN | apply bD | apply bA); refine blk_put (cs := #[.int .i64 ((rd_T86 l0_0 x11_2).f0), .int .i64 ((rd_T86 l0_0 x11_2).f1), .int .i64 0]) ?_ 2 _ rfl; (with_reducible repeat first | apply bN | apply bD | apply bA); refine blk_put (cs := #[.int .i64 ((rd_T86 l0_0 x11_2).f0), .int .i64 0, .int .i64 0]) ?_ 1 _ rfl; (with_reducible repeat first | apply bN | apply bD | apply bA); refine blk_put (cs := #[.int .i64 0, .int .i64 0, .int .i64 0]) ?_ 0 _ rfl; (with_reducible repeat first | apply bN | apply bD | apply bA); exact BK156.out⟩; have n4_ : Aside0 (Below w.heap.size w (((w22.setCell ⟨gb156, 0, none⟩ (.int .i64 ((rd_T86 l0_0 x11_2).f0))).setCell ⟨gb156, 1, none⟩ (.int .i64 ((rd_T86 l0_0 x11_2).f1))).setCell ⟨gb156, 2, none⟩ (.int .i64 ((rd_T86 l0_0 x11_2).f2)))) := ⟨lB⟩; (try clear HO_8); (try clear HO_9); (try clear BK149); (try clear BK156); (try clear HB); generalize (((w22.setCell ⟨gb156, 0, none⟩ (.int .i64 ((rd_T86 l0_0 x11_2).f0))).setCell ⟨gb156, 1, none⟩ (.int .i64 ((rd_T86 l0_0 x11_2).f1))).setCell ⟨gb156, 2, none⟩ (.int .i64 ((rd_T86 l0_0 x11_2).f2))) = w53 at n0_ n1_ n2_ n3_ n4_ ⊢; have HO_8 := n0_; have HO_9 := n1_; have BK149 := n2_; have BK156 := n3_; have HB := n4_; clear n0_ n1_ n2_ n3_ n4_; (try (rw [drewN_self w53]; generalize hq_ : World.drewN w53 _ = w53; have n0_ := Aside0.mk (Kd.R_at hq_ HO_8.out); have n1_ := Aside0.mk (Kd.R_at hq_ HO_9.out); have n2_ := Aside0.mk (blk_at hq_ BK149.out); have n3_ := Aside0.mk (blk_at hq_ BK156.out); have n4_ := Aside0.mk (below_at hq_ HB.out); clear hq_ HO_8 HO_9 BK149 BK156 HB; have HO_8 := n0_; have HO_9 := n1_; have BK149 := n2_; have BK156 := n3_; have HB := n4_; clear n0_ n1_ n2_ n3_ n4_)); obtain ⟨hy51_, hz51_⟩ := Kd.R_celln 0 HO_8.out (((rd_T86 l0_0 x11_2).f1) : Int) (lD) (lD); have HP51 := Kd.R_putg HO_8.out (((rd_T86 l0_0 x11_2).f1) : Int) 0; refine store_event (t := 3) (p := 74) (v := ?vo_w52) (w1 := (w53.setCell ⟨go48, (((rd_T86 l0_0 x11_2).f1) : Int).toNat, none⟩ (.int .i64 0))) ?hg ?ho ?hn ?hr ?_; (case ho => rfl); (case hg => rfl); (case hn => rfl); (case hr => first | (go_simp; done) | (go_simp; rfl)); intro w52 hw; have hg : w53.grownBy w52 (some go48) := (by rw [hw]; exact HP51.2); have hp_ : Kd.R (Kd.int .i64) 3 w52 w.heap.size (fun k_ => some k_ ≠ (u9 : Value).ownBlock) (.slice (some ⟨go48, 0, none⟩) x8_2.length co48) y161 := (by rw [hw, Ny161.out]; exact HP51.1); clear HP51; have n0_ := Aside0.mk (hp_); have n1_ := Aside0.mk (Kd.R_after (v := (.slice (some ⟨go48, 0, none⟩) x8_2.length co48)) (v1 := (.slice (some ⟨go48, 0, none⟩) x8_2.length co48)) (ok := (fun _ => True)) (by (with_reducible repeat (first | apply Kd.R_alloc | apply Kd.R_drewN | apply Kd.R_drew)); exact Kd.R_mono HO_9.out (fun _ hk => ⟨trivial, hk⟩)) hg (.inl rfl)); have n2_ := Aside0.mk (blk_grown (lK BK149.out) hg (Kd.R_ne HO_8.out BK149.out (by decide))); have n3_ := Aside0.mk (blk_grown (lK BK156.out) hg (Kd.R_ne HO_8.out BK156.out (by decide))); have n4_ := Aside0.mk ((by rw [hw]; exact below_set (HB.out) GB48.out : Below w.heap.size w w52)); clear HO_8; clear HO_9; clear BK149; clear BK156; clear HB; have HO_8 := n0_; have HO_9 := n1_; have BK149 := n2_; have BK156 := n3_; have HB := n4_; clear n0_ n1_ n2_ n3_ n4_; clear hg hw hp_))
                  repeat (go_quiet (fail); try go_wp2_with (first | ((with_reducible refine gate_store (t := 3) (p := 74) rfl ?_); have n0_ : Aside0 (Kd.R (Kd.int .i64) 3 (((w22.setCell ⟨gb156, 0, none⟩ (.int .i64 ((rd_T86 l0_0 x11_2).f0))).setCell ⟨gb156, 1, none⟩ (.int .i64 ((rd_T86 l0_0 x11_2).f1))).setCell ⟨gb156, 2, none⟩ (.int .i64 ((rd_T86 l0_0 x11_2).f2))) w.heap.size (fun k_ => some k_ ≠ (u9 : Value).ownBlock) (.slice (some ⟨go48, 0, none⟩) x8_2.length co48) x8_2) := ⟨by (with_reducible repeat (first | apply Kd.R_alloc | apply Kd.R_drewN | apply Kd.R_drew)); exact Kd.R_mono (Kd.R_far (p := ⟨gb156, 2, none⟩) (Kd.R_far (p := ⟨gb156, 1, none⟩) (Kd.R_far (p := ⟨gb156, 0, none⟩) (Kd.R_types HO_8.out BK156.out (by decide)) (fun _ hk => hk.2) (.int .i64 ((rd_T86 l0_0 x11_2).f0))) (fun _ hk => hk.2) (.int .i64 ((rd_T86 l0_0 x11_2).f1))) (fun _ hk => hk.2) (.int .i64 ((rd_T86 l0_0 x11_2).f2))) (fun _ hk => hk.1)⟩; have n1_ : Aside0 (Kd.R (Kd.int .i64) 3 (((w22.setCell ⟨gb156, 0, none⟩ (.int .i64 ((rd_T86 l0_0 x11_2).f0))).setCell ⟨gb156, 1, none⟩ (.int .i64 ((rd_T86 l0_0 x11_2).f1))).setCell ⟨gb156, 2, none⟩ (.int .i64 ((rd_T86 l0_0 x11_2).f2))) w.heap.size (fun k_ => some k_ ≠ (.slice (some ⟨go48, 0, none⟩) x8_2.length co48 : Value).ownBlock) u9 x9_2) := ⟨by (with_reducible repeat (first | apply Kd.R_alloc | apply Kd.R_drewN | apply Kd.R_drew)); exact Kd.R_mono (Kd.R_far (p := ⟨gb156, 2, none⟩) (Kd.R_far (p := ⟨gb156, 1, none⟩) (Kd.R_far (p := ⟨gb156, 0, none⟩) (Kd.R_types HO_9.out BK156.out (by decide)) (fun _ hk => hk.2) (.int .i64 ((rd_T86 l0_0 x11_2).f0))) (fun _ hk => hk.2) (.int .i64 ((rd_T86 l0_0 x11_2).f1))) (fun _ hk => hk.2) (.int .i64 ((rd_T86 l0_0 x11_2).f2))) (fun _ hk => hk.1)⟩; have n2_ : Aside0 ((((w22.setCell ⟨gb156, 0, none⟩ (.int .i64 ((rd_T86 l0_0 x11_2).f0))).setCell ⟨gb156, 1, none⟩ (.int .i64 ((rd_T86 l0_0 x11_2).f1))).setCell ⟨gb156, 2, none⟩ (.int .i64 ((rd_T86 l0_0 x11_2).f2))).heap[gb149]? = some (.cells #[.slice (some ad155) l0_0.length c0_0, .slice A0_1 l0_1.length c0_1] 38 (0, 0))) := ⟨lJ BK149.out⟩; have n3_ : Aside0 ((((w22.setCell ⟨gb156, 0, none⟩ (.int .i64 ((rd_T86 l0_0 x11_2).f0))).setCell ⟨gb156, 1, none⟩ (.int .i64 ((rd_T86 l0_0 x11_2).f1))).setCell ⟨gb156, 2, none⟩ (.int .i64 ((rd_T86 l0_0 x11_2).f2))).heap[gb156]? = some (.cells #[.int .i64 ((rd_T86 l0_0 x11_2).f0), .int .i64 ((rd_T86 l0_0 x11_2).f1), .int .i64 ((rd_T86 l0_0 x11_2).f2)] 86 (0, 0))) := ⟨by (with_reducible repeat first | apply bN | apply bD | apply bA); refine blk_put (cs := #[.int .i64 ((rd_T86 l0_0 x11_2).f0), .int .i64 ((rd_T86 l0_0 x11_2).f1), .int .i64 0]) ?_ 2 _ rfl; (with_reducible repeat first | apply bN | apply bD | apply bA); refine blk_put (cs := #[.int .i64 ((rd_T86 l0_0 x11_2).f0), .int .i64 0, .int .i64 0]) ?_ 1 _ rfl; (with_reducible repeat first | apply bN | apply bD | apply bA); refine blk_put (cs := #[.int .i64 0, .int .i64 0, .int .i64 0]) ?_ 0 _ rfl; (with_reducible repeat first | apply bN | apply bD | apply bA); exact BK156.out⟩; have n4_ : Aside0 (Below w.heap.size w (((w22.setCell ⟨gb156, 0, none⟩ (.int .i64 ((rd_T86 l0_0 x11_2).f0))).setCell ⟨gb156, 1, none⟩ (.int .i64 ((rd_T86 l0_0 x11_2).f1))).setCell ⟨gb156, 2, none⟩ (.int .i64 ((rd_T86 l0_0 x11_2).f2)))) := ⟨lB⟩; (try clear HO_8); (try clear HO_9); (try clear BK149); (try clear BK156); (try clear HB); generalize (((w22.setCell ⟨gb156, 0, none⟩ (.int .i64 ((rd_T86 l0_0 x11_2).f0))).setCell ⟨gb156, 1, none⟩ (.int .i64 ((rd_T86 l0_0 x11_2).f1))).setCell ⟨gb156, 2, none⟩ (.int .i64 ((rd_T86 l0_0 x11_2).f2))) = w53 at n0_ n1_ n2_ n3_ n4_ ⊢; have HO_8 := n0_; have HO_9 := n1_; have BK149 := n2_; have BK156 := n3_; have HB := n4_; clear n0_ n1_ n2_ n3_ n4_; (try (rw [drewN_self w53]; generalize hq_ : World.drewN w53 _ = w53; have n0_ := Aside0.mk (Kd.R_at hq_ HO_8.out); have n1_ := Aside0.mk (Kd.R_at hq_ HO_9.out); have n2_ := Aside0.mk (blk_at hq_ BK149.out); have n3_ := Aside0.mk (blk_at hq_ BK156.out); have n4_ := Aside0.mk (below_at hq_ HB.out); clear hq_ HO_8 HO_9 BK149 BK156 HB; have HO_8 := n0_; have HO_9 := n1_; have BK149 := n2_; have BK156 := n3_; have HB := n4_; clear n0_ n1_ n2_ n3_ n4_)); obtain ⟨hy51_, hz51_⟩ := Kd.R_celln 0 HO_8.out (((rd_T86 l0_0 x11_2).f1) : Int) (lD) (lD); have HP51 := Kd.R_putg HO_8.out (((rd_T86 l0_0 x11_2).f1) : Int) 0; refine store_event (t := 3) (p := 74) (v := ?vo_w52) (w1 := (w53.setCell ⟨go48, (((rd_T86 l0_0 x11_2).f1) : Int).toNat, none⟩ (.int .i64 0))) ?hg ?ho ?hn ?hr ?_; (case ho => rfl); (case hg => rfl); (case hn => rfl); (case hr => first | (go_simp; done) | (go_simp; rfl)); intro w52 hw; have hg : w53.grownBy w52 (some go48) := (by rw [hw]; exact HP51.2); have hp_ : Kd.R (Kd.int .i64) 3 w52 w.heap.size (fun k_ => some k_ ≠ (u9 : Value).ownBlock) (.slice (some ⟨go48, 0, none⟩) x8_2.length co48) y161 := (by rw [hw, Ny161.out]; exact HP51.1); clear HP51; have n0_ := Aside0.mk (hp_); have n1_ := Aside0.mk (Kd.R_after (v := (.slice (some ⟨go48, 0, none⟩) x8_2.length co48)) (v1 := (.slice (some ⟨go48, 0, none⟩) x8_2.length co48)) (ok := (fun _ => True)) (by (with_reducible repeat (first | apply Kd.R_alloc | apply Kd.R_drewN | apply Kd.R_drew)); exact Kd.R_mono HO_9.out (fun _ hk => ⟨trivial, hk⟩)) hg (.inl rfl)); have n2_ := Aside0.mk (blk_grown (lK BK149.out) hg (Kd.R_ne HO_8.out BK149.out (by decide))); have n3_ := Aside0.mk (blk_grown (lK BK156.out) hg (Kd.R_ne HO_8.out BK156.out (by decide))); have n4_ := Aside0.mk ((by rw [hw]; exact below_set (HB.out) GB48.out : Below w.heap.size w w52)); clear HO_8; clear HO_9; clear BK149; clear BK156; clear HB; have HO_8 := n0_; have HO_9 := n1_; have BK149 := n2_; have BK156 := n3_; have HB := n4_; clear n0_ n1_ n2_ n3_ n4_; clear hg hw hp_)))
                  go_meet
                  case rel => exact ⟨_, (y161), (x9_2), (0), (wrap64 (x11_2 + 1)), lF, lF, H', ⟨by have := HJ2.out; have := HK2.out; first | omega | exact Nat.le_refl _⟩, ⟨lR HO_8.out⟩, ⟨by (with_reducible repeat (first | apply Kd.R_alloc | apply Kd.R_drewN | apply Kd.R_drew)); exact Kd.R_mono HO_9.out (fun _ hk => hk.2)⟩, ⟨lK BK149.out⟩, ⟨lK BK156.out⟩, ⟨lB⟩⟩
                 ·rw [if_neg c47] at H
                  exact absurd H (by simp)
                ·rw [if_neg c46] at H
                 exact absurd H (by simp)
               ·rw [if_neg c45] at H
                have c45b0 : (((rd_T86 l0_0 x11_2).f0) == 5) = false := beq_eq_false_iff_ne.mpr c45
                have c45b1 : (((rd_T86 l0_0 x11_2).f0) != 5) = true := bne_iff_ne.mpr c45
                by_cases c54 : ((rd_T86 l0_0 x11_2).f0) = 6
                ·rw [if_pos c54] at H
                 have c54b0 : (((rd_T86 l0_0 x11_2).f0) == 6) = true := beq_iff_eq.mpr c54
                 have c54b1 : (((rd_T86 l0_0 x11_2).f0) != 6) = false := bne_eq_false_iff_eq.mpr c54
                 clear c54
                 by_cases c55 : 0 ≤ ((rd_T86 l0_0 x11_2).f1)
                 ·rw [if_pos c55] at H
                  have c55b0 : decide (0 ≤ ((rd_T86 l0_0 x11_2).f1)) = true := decide_eq_true c55
                  clear c55
                  by_cases c56 : ((rd_T86 l0_0 x11_2).f1) < (x8_2.length : Int)
                  ·rw [if_pos c56] at H
                   have c56b0 : decide (((rd_T86 l0_0 x11_2).f1) < (x8_2.length : Int)) = true := decide_eq_true c56
                   clear c56
                   by_cases c57 : (rd x8_2 ((rd_T86 l0_0 x11_2).f1)) = ((rd_T86 l0_0 x11_2).f2)
                   ·rw [if_pos c57] at H
                    have c57b0 : ((rd x8_2 ((rd_T86 l0_0 x11_2).f1)) == ((rd_T86 l0_0 x11_2).f2)) = true := beq_iff_eq.mpr c57
                    have c57b1 : ((rd x8_2 ((rd_T86 l0_0 x11_2).f1)) != ((rd_T86 l0_0 x11_2).f2)) = false := bne_eq_false_iff_eq.mpr c57
                    clear c57
                    have H' := Aside0.mk H
                    clear H
                    have hnb58 := NB156_149.out
                    have hnc58 := NB149_156.out
                    obtain ⟨hcz59_0, hfz59_0, hcz59_1, hfz59_1, hcz59_2, hfz59_2⟩ := bk3 BK156.out
                    obtain ⟨Ao60, co60, eo60⟩ := Kd.R_slice HO_8.out
                    subst eo60
                    have p162 : 0 ≤ (((rd_T86 l0_0 x11_2).f1) : Int) := lD
                    have q162 : ((rd_T86 l0_0 x11_2).f1) < (x8_2.length : Int) := lD
                    obtain ⟨ad162, e162, hx162_0⟩ := Kd.at_int (Kd.R_reads' HO_8.out).2.2 ((rd_T86 l0_0 x11_2).f1) p162 q162
                    cases e162
                    have hn162_0 : ad162.block ≠ gb156 := Kd.own_blk (Kd.R_ne HO_8.out BK156.out (by decide))
                    have hn162_1 : ad162.block ≠ gb156 := Kd.own_blk (Kd.R_ne HO_8.out BK156.out (by decide))
                    have hn162_2 : ad162.block ≠ gb156 := Kd.own_blk (Kd.R_ne HO_8.out BK156.out (by decide))
                    replace hx162_0 := (cell_far (p := ⟨gb156, 0, none⟩) (by first | (rw [add_block]; exact hn162_0) | (show (Addr.add _ _).block ≠ _; rw [add_block]; exact hn162_0) | exact hn162_0) (.int .i64 ((rd_T86 l0_0 x11_2).f0))).trans hx162_0
                    replace hx162_0 := (cell_far (p := ⟨gb156, 1, none⟩) (by first | (rw [add_block]; exact hn162_1) | (show (Addr.add _ _).block ≠ _; rw [add_block]; exact hn162_1) | exact hn162_1) (.int .i64 ((rd_T86 l0_0 x11_2).f1))).trans hx162_0
                    replace hx162_0 := (cell_far (p := ⟨gb156, 2, none⟩) (by first | (rw [add_block]; exact hn162_2) | (show (Addr.add _ _).block ≠ _; rw [add_block]; exact hn162_2) | exact hn162_2) (.int .i64 ((rd_T86 l0_0 x11_2).f2))).trans hx162_0
                    (try have hy162_0 := fun (n_ : Nat) => (show (((((w22.drewN n_).setCell ⟨gb156, 0, none⟩ (.int .i64 ((rd_T86 l0_0 x11_2).f0))).setCell ⟨gb156, 1, none⟩ (.int .i64 ((rd_T86 l0_0 x11_2).f1))).setCell ⟨gb156, 2, none⟩ (.int .i64 ((rd_T86 l0_0 x11_2).f2)))).cell? _ = some _ from hx162_0))
                    clear hn162_0
                    clear hn162_1
                    clear hn162_2
                    replace p162 := eq_true p162
                    replace q162 := eq_true q162
                    go_wp2
                    repeat (go_quiet (fail); try go_wp2)
                    go_meet
                    case rel => exact ⟨_, (x8_2), (x9_2), (0), (wrap64 (x11_2 + 1)), lF, lF, H', ⟨by have := HJ2.out; have := HK2.out; first | omega | exact Nat.le_refl _⟩, ⟨by (with_reducible repeat (first | apply Kd.R_alloc | apply Kd.R_drewN | apply Kd.R_drew)); exact Kd.R_mono (Kd.R_far (p := ⟨gb156, 2, none⟩) (Kd.R_far (p := ⟨gb156, 1, none⟩) (Kd.R_far (p := ⟨gb156, 0, none⟩) (Kd.R_types HO_8.out BK156.out (by decide)) (fun _ hk => hk.2) (.int .i64 ((rd_T86 l0_0 x11_2).f0))) (fun _ hk => hk.2) (.int .i64 ((rd_T86 l0_0 x11_2).f1))) (fun _ hk => hk.2) (.int .i64 ((rd_T86 l0_0 x11_2).f2))) (fun _ hk => hk.1)⟩, ⟨by (with_reducible repeat (first | apply Kd.R_alloc | apply Kd.R_drewN | apply Kd.R_drew)); exact Kd.R_mono (Kd.R_far (p := ⟨gb156, 2, none⟩) (Kd.R_far (p := ⟨gb156, 1, none⟩) (Kd.R_far (p := ⟨gb156, 0, none⟩) (Kd.R_types HO_9.out BK156.out (by decide)) (fun _ hk => hk.2) (.int .i64 ((rd_T86 l0_0 x11_2).f0))) (fun _ hk => hk.2) (.int .i64 ((rd_T86 l0_0 x11_2).f1))) (fun _ hk => hk.2) (.int .i64 ((rd_T86 l0_0 x11_2).f2))) (fun _ hk => hk.1)⟩, ⟨lJ BK149.out⟩, ⟨by (with_reducible repeat first | apply bN | apply bD | apply bA); refine blk_put (cs := #[.int .i64 ((rd_T86 l0_0 x11_2).f0), .int .i64 ((rd_T86 l0_0 x11_2).f1), .int .i64 0]) ?_ 2 _ rfl; (with_reducible repeat first | apply bN | apply bD | apply bA); refine blk_put (cs := #[.int .i64 ((rd_T86 l0_0 x11_2).f0), .int .i64 0, .int .i64 0]) ?_ 1 _ rfl; (with_reducible repeat first | apply bN | apply bD | apply bA); refine blk_put (cs := #[.int .i64 0, .int .i64 0, .int .i64 0]) ?_ 0 _ rfl; (with_reducible repeat first | apply bN | apply bD | apply bA); exact BK156.out⟩, ⟨lB⟩⟩
                   ·rw [if_neg c57] at H
                    have c57b0 : ((rd x8_2 ((rd_T86 l0_0 x11_2).f1)) == ((rd_T86 l0_0 x11_2).f2)) = false := beq_eq_false_iff_ne.mpr c57
                    have c57b1 : ((rd x8_2 ((rd_T86 l0_0 x11_2).f1)) != ((rd_T86 l0_0 x11_2).f2)) = true := bne_iff_ne.mpr c57
                    obtain ⟨y164, hy164⟩ : ∃ y_ : List Int, y_ = (x8_2.set (((rd_T86 l0_0 x11_2).f1) : Int).toNat (wrap64 ((rd x8_2 ((rd_T86 l0_0 x11_2).f1)) + 1))) := ⟨_, rfl⟩
                    replace H : (spec_RunLined.j2 k2 a1 y164 x9_2 x10_2 x11_2 0 (wrap64 (x11_2 + 2)) l0_0 l0_1) = some (r1, r2, r3, r4) := by first | (rw [hy164]; with_reducible exact H) | (have H2_ := (Option.bind_some _ _).symm.trans H; rw [hy164]; with_reducible exact H2_) | (have H2_ := (Option.bind_some _ _).symm.trans H; with_reducible exact H2_) | with_reducible exact H | (rw [hy164]; exact H) | exact H
                    have Ny164 := Aside0.mk hy164
                    clear hy164
                    have H' := Aside0.mk H
                    clear H
                    have hnb62 := NB156_149.out
                    have hnc62 := NB149_156.out
                    obtain ⟨hcz63_0, hfz63_0, hcz63_1, hfz63_1, hcz63_2, hfz63_2⟩ := bk3 BK156.out
                    obtain ⟨Ao64, co64, eo64⟩ := Kd.R_slice HO_8.out
                    subst eo64
                    have p162 : 0 ≤ (((rd_T86 l0_0 x11_2).f1) : Int) := lD
                    have q162 : ((rd_T86 l0_0 x11_2).f1) < (x8_2.length : Int) := lD
                    obtain ⟨ad162, e162, hx162_0⟩ := Kd.at_int (Kd.R_reads' HO_8.out).2.2 ((rd_T86 l0_0 x11_2).f1) p162 q162
                    cases e162
                    have hn162_0 : ad162.block ≠ gb156 := Kd.own_blk (Kd.R_ne HO_8.out BK156.out (by decide))
                    have hn162_1 : ad162.block ≠ gb156 := Kd.own_blk (Kd.R_ne HO_8.out BK156.out (by decide))
                    have hn162_2 : ad162.block ≠ gb156 := Kd.own_blk (Kd.R_ne HO_8.out BK156.out (by decide))
                    replace hx162_0 := (cell_far (p := ⟨gb156, 0, none⟩) (by first | (rw [add_block]; exact hn162_0) | (show (Addr.add _ _).block ≠ _; rw [add_block]; exact hn162_0) | exact hn162_0) (.int .i64 ((rd_T86 l0_0 x11_2).f0))).trans hx162_0
                    replace hx162_0 := (cell_far (p := ⟨gb156, 1, none⟩) (by first | (rw [add_block]; exact hn162_1) | (show (Addr.add _ _).block ≠ _; rw [add_block]; exact hn162_1) | exact hn162_1) (.int .i64 ((rd_T86 l0_0 x11_2).f1))).trans hx162_0
                    replace hx162_0 := (cell_far (p := ⟨gb156, 2, none⟩) (by first | (rw [add_block]; exact hn162_2) | (show (Addr.add _ _).block ≠ _; rw [add_block]; exact hn162_2) | exact hn162_2) (.int .i64 ((rd_T86 l0_0 x11_2).f2))).trans hx162_0
                    (try have hy162_0 := fun (n_ : Nat) => (show (((((w22.drewN n_).setCell ⟨gb156, 0, none⟩ (.int .i64 ((rd_T86 l0_0 x11_2).f0))).setCell ⟨gb156, 1, none⟩ (.int .i64 ((rd_T86 l0_0 x11_2).f1))).setCell ⟨gb156, 2, none⟩ (.int .i64 ((rd_T86 l0_0 x11_2).f2)))).cell? _ = some _ from hx162_0))
                    clear hn162_0
                    clear hn162_1
                    clear hn162_2
                    replace p162 := eq_true p162
                    replace q162 := eq_true q162
                    have p163 : 0 ≤ (((rd_T86 l0_0 x11_2).f1) : Int) := lD
                    have q163 : ((rd_T86 l0_0 x11_2).f1) < (x8_2.length : Int) := lD
                    obtain ⟨ad163, e163, hx163_0⟩ := Kd.at_int (Kd.R_reads' HO_8.out).2.2 ((rd_T86 l0_0 x11_2).f1) p163 q163
                    obtain rfl : ad162 = ad163 := (by injection e163)
                    have hn163_0 : ad162.block ≠ gb156 := Kd.own_blk (Kd.R_ne HO_8.out BK156.out (by decide))
                    have hn163_1 : ad162.block ≠ gb156 := Kd.own_blk (Kd.R_ne HO_8.out BK156.out (by decide))
                    have hn163_2 : ad162.block ≠ gb156 := Kd.own_blk (Kd.R_ne HO_8.out BK156.out (by decide))
                    replace hx163_0 := (cell_far (p := ⟨gb156, 0, none⟩) (by first | (rw [add_block]; exact hn163_0) | (show (Addr.add _ _).block ≠ _; rw [add_block]; exact hn163_0) | exact hn163_0) (.int .i64 ((rd_T86 l0_0 x11_2).f0))).trans hx163_0
                    replace hx163_0 := (cell_far (p := ⟨gb156, 1, none⟩) (by first | (rw [add_block]; exact hn163_1) | (show (Addr.add _ _).block ≠ _; rw [add_block]; exact hn163_1) | exact hn163_1) (.int .i64 ((rd_T86 l0_0 x11_2).f1))).trans hx163_0
                    replace hx163_0 := (cell_far (p := ⟨gb156, 2, none⟩) (by first | (rw [add_block]; exact hn163_2) | (show (Addr.add _ _).block ≠ _; rw [add_block]; exact hn163_2) | exact hn163_2) (.int .i64 ((rd_T86 l0_0 x11_2).f2))).trans hx163_0
                    (try have hy163_0 := fun (n_ : Nat) => (show (((((w22.drewN n_).setCell ⟨gb156, 0, none⟩ (.int .i64 ((rd_T86 l0_0 x11_2).f0))).setCell ⟨gb156, 1, none⟩ (.int .i64 ((rd_T86 l0_0 x11_2).f1))).setCell ⟨gb156, 2, none⟩ (.int .i64 ((rd_T86 l0_0 x11_2).f2)))).cell? _ = some _ from hx163_0))
                    clear hn163_0
                    clear hn163_1
                    clear hn163_2
                    replace p163 := eq_true p163
                    replace q163 := eq_true q163
                    have p61 : 0 ≤ (((rd_T86 l0_0 x11_2).f1) : Int) := lD
                    have q61 : (((rd_T86 l0_0 x11_2).f1) : Int) < ((x8_2.length : Int) : Int) := lD
                    obtain ⟨go61, co61, eo61, gb61, gl61, cl61, HG61⟩ := Kd.R_form HO_8.out (by omega)
                    (first | cases eo61 | (injection eo61 with ea_ en_ ec_; (first | subst ea_ | (injection ea_ with ea_; subst ea_)); subst ec_; clear en_))
                    have GB61 := Aside0.mk gb61
                    have GG61 := Aside0.mk HG61
                    clear gb61 gl61 HG61
                    (first | simp only [add_plain] at hx162_0 | skip)
                    (first | simp only [add_plain] at hx163_0 | skip)
                    obtain ⟨hx61_0, hf61_0⟩ := Kd.R_celln 0 (Kd.R_far (p := ⟨gb156, 2, none⟩) (Kd.R_far (p := ⟨gb156, 1, none⟩) (Kd.R_far (p := ⟨gb156, 0, none⟩) (Kd.R_types HO_8.out BK156.out (by decide)) (fun _ hk => hk.2) (.int .i64 ((rd_T86 l0_0 x11_2).f0))) (fun _ hk => hk.2) (.int .i64 ((rd_T86 l0_0 x11_2).f1))) (fun _ hk => hk.2) (.int .i64 ((rd_T86 l0_0 x11_2).f2))) (((rd_T86 l0_0 x11_2).f1) : Int) p61 q61
                    replace p61 := eq_true p61
                    replace q61 := eq_true q61
                    go_wp2_with (first | ((with_reducible refine gate_store (t := 3) (p := 91) rfl ?_); have n0_ : Aside0 (Kd.R (Kd.int .i64) 3 (((w22.setCell ⟨gb156, 0, none⟩ (.int .i64 ((rd_T86 l0_0 x11_2).f0))).setCell ⟨gb156, 1, none⟩ (.int .i64 ((rd_T86 l0_0 x11_2).f1))).setCell ⟨gb156, 2, none⟩ (.int .i64 ((rd_T86 l0_0 x11_2).f2))) w.heap.size (fun k_ => some k_ ≠ (u9 : Value).ownBlock) (.slice (some ⟨go61, 0, none⟩) x8_2.length co64) x8_2) := ⟨by (with_reducible repeat (first | apply Kd.R_alloc | apply Kd.R_drewN | apply Kd.R_drew)); exact Kd.R_mono (Kd.R_far (p := ⟨gb156, 2, none⟩) (Kd.R_far (p := ⟨gb156, 1, none⟩) (Kd.R_far (p := ⟨gb156, 0, none⟩) (Kd.R_types HO_8.out BK156.out (by decide)) (fun _ hk => hk.2) (.int .i64 ((rd_T86 l0_0 x11_2).f0))) (fun _ hk => hk.2) (.int .i64 ((rd_T86 l0_0 x11_2).f1))) (fun _ hk => hk.2) (.int .i64 ((rd_T86 l0_0 x11_2).f2))) (fun _ hk => hk.1)⟩; have n1_ : Aside0 (Kd.R (Kd.int .i64) 3 (((w22.setCell ⟨gb156, 0, none⟩ (.int .i64 ((rd_T86 l0_0 x11_2).f0))).setCell ⟨gb156, 1, none⟩ (.int .i64 ((rd_T86 l0_0 x11_2).f1))).setCell ⟨gb156, 2, none⟩ (.int .i64 ((rd_T86 l0_0 x11_2).f2))) w.heap.size (fun k_ => some k_ ≠ (.slice (some ⟨go61, 0, none⟩) x8_2.length co64 : Value).ownBlock) u9 x9_2) := ⟨by (with_reducible repeat (first | apply Kd.R_alloc | apply Kd.R_drewN | apply Kd.R_drew)); exact Kd.R_mono (Kd.R_far (p := ⟨gb156, 2, none⟩) (Kd.R_far (p := ⟨gb156, 1, none⟩) (Kd.R_far (p := ⟨gb156, 0, none⟩) (Kd.R_types HO_9.out BK156.out (by decide)) (fun _ hk => hk.2) (.int .i64 ((rd_T86 l0_0 x11_2).f0))) (fun _ hk => hk.2) (.int .i64 ((rd_T86 l0_0 x11_2).f1))) (fun _ hk => hk.2) (.int .i64 ((rd_T86 l0_0 x11_2).f2))) (fun _ hk => hk.1)⟩; have n2_ : Aside0 ((((w22.setCell ⟨gb156, 0, none⟩ (.int .i64 ((rd_T86 l0_0 x11_2).f0))).setCell ⟨gb156, 1, none⟩ (.int .i64 ((rd_T86 l0_0 x11_2).f1))).setCell ⟨gb156, 2, none⟩ (.int .i64 ((rd_T86 l0_0 x11_2).f2))).heap[gb149]? = some (.cells #[.slice (some ad155) l0_0.length c0_0, .slice A0_1 l0_1.length c0_1] 38 (0, 0))) := ⟨lJ BK149.out⟩; have n3_ : Aside0 ((((w22.setCell ⟨gb156, 0, none⟩ (.int .i64 ((rd_T86 l0_0 x11_2).f0))).setCell ⟨gb156, 1, none⟩ (.int .i64 ((rd_T86 l0_0 x11_2).f1))).setCell ⟨gb156, 2, none⟩ (.int .i64 ((rd_T86 l0_0 x11_2).f2))).heap[gb156]? = some (.cells #[.int .i64 ((rd_T86 l0_0 x11_2).f0), .int .i64 ((rd_T86 l0_0 x11_2).f1), .int .i64 ((rd_T86 l0_0 x11_2).f2)] 86 (0, 0))) := ⟨by (with_reducible repeat first | apply bN | apply bD | apply bA); refine blk_put (cs := #[.int .i64 ((rd_T86 l0_0 x11_2).f0), .int .i64 ((rd_T86 l0_0 x11_2).f1), .int .i64 0]) ?_ 2 _ rfl; (with_reducible repeat first | apply bN | apply bD | apply bA); refine blk_put (cs := #[.int .i64 ((rd_T86 l0_0 x11_2).f0), .int .i64 0, .int .i64 0]) ?_ 1 _ rfl; (with_reducible repeat first | apply bN | apply bD | apply bA); refine blk_put (cs := #[.int .i64 0, .int .i64 0, .int .i64 0]) ?_ 0 _ rfl; (with_reducible repeat first | apply bN | apply bD | apply bA); exact BK156.out⟩; have n4_ : Aside0 (Below w.heap.size w (((w22.setCell ⟨gb156, 0, none⟩ (.int .i64 ((rd_T86 l0_0 x11_2).f0))).setCell ⟨gb156, 1, none⟩ (.int .i64 ((rd_T86 l0_0 x11_2).f1))).setCell ⟨gb156, 2, none⟩ (.int .i64 ((rd_T86 l0_0 x11_2).f2)))) := ⟨lB⟩; (try clear HO_8); (try clear HO_9); (try clear BK149); (try clear BK156); (try clear HB); generalize (((w22.setCell ⟨gb156, 0, none⟩ (.int .i64 ((rd_T86 l0_0 x11_2).f0))).setCell ⟨gb156, 1, none⟩ (.int .i64 ((rd_T86 l0_0 x11_2).f1))).setCell ⟨gb156, 2, none⟩ (.int .i64 ((rd_T86 l0_0 x11_2).f2))) = w67 at n0_ n1_ n2_ n3_ n4_ ⊢; have HO_8 := n0_; have HO_9 := n1_; have BK149 := n2_; have BK156 := n3_; have HB := n4_; clear n0_ n1_ n2_ n3_ n4_; (try (rw [drewN_self w67]; generalize hq_ : World.drewN w67 _ = w67; have n0_ := Aside0.mk (Kd.R_at hq_ HO_8.out); have n1_ := Aside0.mk (Kd.R_at hq_ HO_9.out); have n2_ := Aside0.mk (blk_at hq_ BK149.out); have n3_ := Aside0.mk (blk_at hq_ BK156.out); have n4_ := Aside0.mk (below_at hq_ HB.out); clear hq_ HO_8 HO_9 BK149 BK156 HB; have HO_8 := n0_; have HO_9 := n1_; have BK149 := n2_; have BK156 := n3_; have HB := n4_; clear n0_ n1_ n2_ n3_ n4_)); obtain ⟨hy65_, hz65_⟩ := Kd.R_celln 0 HO_8.out (((rd_T86 l0_0 x11_2).f1) : Int) (lD) (lD); have HP65 := Kd.R_putg HO_8.out (((rd_T86 l0_0 x11_2).f1) : Int) (wrap64 ((rd x8_2 ((rd_T86 l0_0 x11_2).f1)) + 1)); refine store_event (t := 3) (p := 91) (v := ?vo_w66) (w1 := (w67.setCell ⟨go61, (((rd_T86 l0_0 x11_2).f1) : Int).toNat, none⟩ (.int .i64 (wrap64 ((rd x8_2 ((rd_T86 l0_0 x11_2).f1)) + 1))))) ?hg ?ho ?hn ?hr ?_; (case ho => rfl); (case hg => rfl); (case hn => rfl); (case hr => first | (go_simp; done) | (go_simp; rfl)); intro w66 hw; have hg : w67.grownBy w66 (some go61) := (by rw [hw]; exact HP65.2); have hp_ : Kd.R (Kd.int .i64) 3 w66 w.heap.size (fun k_ => some k_ ≠ (u9 : Value).ownBlock) (.slice (some ⟨go61, 0, none⟩) x8_2.length co64) y164 := (by rw [hw, Ny164.out]; exact HP65.1); clear HP65; have n0_ := Aside0.mk (hp_); have n1_ := Aside0.mk (Kd.R_after (v := (.slice (some ⟨go61, 0, none⟩) x8_2.length co64)) (v1 := (.slice (some ⟨go61, 0, none⟩) x8_2.length co64)) (ok := (fun _ => True)) (by (with_reducible repeat (first | apply Kd.R_alloc | apply Kd.R_drewN | apply Kd.R_drew)); exact Kd.R_mono HO_9.out (fun _ hk => ⟨trivial, hk⟩)) hg (.inl rfl)); have n2_ := Aside0.mk (blk_grown (lK BK149.out) hg (Kd.R_ne HO_8.out BK149.out (by decide))); have n3_ := Aside0.mk (blk_grown (lK BK156.out) hg (Kd.R_ne HO_8.out BK156.out (by decide))); have n4_ := Aside0.mk ((by rw [hw]; exact below_set (HB.out) GB61.out : Below w.heap.size w w66)); clear HO_8; clear HO_9; clear BK149; clear BK156; clear HB; have HO_8 := n0_; have HO_9 := n1_; have BK149 := n2_; have BK156 := n3_; have HB := n4_; clear n0_ n1_ n2_ n3_ n4_; clear hg hw hp_))
                    repeat (go_quiet (fail); try go_wp2_with (first | ((with_reducible refine gate_store (t := 3) (p := 91) rfl ?_); have n0_ : Aside0 (Kd.R (Kd.int .i64) 3 (((w22.setCell ⟨gb156, 0, none⟩ (.int .i64 ((rd_T86 l0_0 x11_2).f0))).setCell ⟨gb156, 1, none⟩ (.int .i64 ((rd_T86 l0_0 x11_2).f1))).setCell ⟨gb156, 2, none⟩ (.int .i64 ((rd_T86 l0_0 x11_2).f2))) w.heap.size (fun k_ => some k_ ≠ (u9 : Value).ownBlock) (.slice (some ⟨go61, 0, none⟩) x8_2.length co64) x8_2) := ⟨by (with_reducible repeat (first | apply Kd.R_alloc | apply Kd.R_drewN | apply Kd.R_drew)); exact Kd.R_mono (Kd.R_far (p := ⟨gb156, 2, none⟩) (Kd.R_far (p := ⟨gb156, 1, none⟩) (Kd.R_far (p := ⟨gb156, 0, none⟩) (Kd.R_types HO_8.out BK156.out (by decide)) (fun _ hk => hk.2) (.int .i64 ((rd_T86 l0_0 x11_2).f0))) (fun _ hk => hk.2) (.int .i64 ((rd_T86 l0_0 x11_2).f1))) (fun _ hk => hk.2) (.int .i64 ((rd_T86 l0_0 x11_2).f2))) (fun _ hk => hk.1)⟩; have n1_ : Aside0 (Kd.R (Kd.int .i64) 3 (((w22.setCell ⟨gb156, 0, none⟩ (.int .i64 ((rd_T86 l0_0 x11_2).f0))).setCell ⟨gb156, 1, none⟩ (.int .i64 ((rd_T86 l0_0 x11_2).f1))).setCell ⟨gb156, 2, none⟩ (.int .i64 ((rd_T86 l0_0 x11_2).f2))) w.heap.size (fun k_ => some k_ ≠ (.slice (some ⟨go61, 0, none⟩) x8_2.length co64 : Value).ownBlock) u9 x9_2) := ⟨by (with_reducible repeat (first | apply Kd.R_alloc | apply Kd.R_drewN | apply Kd.R_drew)); exact Kd.R_mono (Kd.R_far (p := ⟨gb156, 2, none⟩) (Kd.R_far (p := ⟨gb156, 1, none⟩) (Kd.R_far (p := ⟨gb156, 0, none⟩) (Kd.R_types HO_9.out BK156.out (by decide)) (fun _ hk => hk.2) (.int .i64 ((rd_T86 l0_0 x11_2).f0))) (fun _ hk => hk.2) (.int .i64 ((rd_T86 l0_0 x11_2).f1))) (fun _ hk => hk.2) (.int .i64 ((rd_T86 l0_0 x11_2).f2))) (fun _ hk => hk.1)⟩; have n2_ : Aside0 ((((w22.setCell ⟨gb156, 0, none⟩ (.int .i64 ((rd_T86 l0_0 x11_2).f0))).setCell ⟨gb156, 1, none⟩ (.int .i64 ((rd_T86 l0_0 x11_2).f1))).setCell ⟨gb156, 2, none⟩ (.int .i64 ((rd_T86 l0_0 x11_2).f2))).heap[gb149]? = some (.cells #[.slice (some ad155) l0_0.length c0_0, .slice A0_1 l0_1.length c0_1] 38 (0, 0))) := ⟨lJ BK149.out⟩; have n3_ : Aside0 ((((w22.setCell ⟨gb156, 0, none⟩ (.int .i64 ((rd_T86 l0_0 x11_2).f0))).setCell ⟨gb156, 1, none⟩ (.int .i64 ((rd_T86 l0_0 x11_2).f1))).setCell ⟨gb156, 2, none⟩ (.int .i64 ((rd_T86 l0_0 x11_2).f2))).heap[gb156]? = some (.cells #[.int .i64 ((rd_T86 l0_0 x11_2).f0), .int .i64 ((rd_T86 l0_0 x11_2).f1), .int .i64 ((rd_T86 l0_0 x11_2).f2)] 86 (0, 0))) := ⟨by (with_reducible repeat first | apply bN | apply bD | apply bA); refine blk_put (cs := #[.int .i64 ((rd_T86 l0_0 x11_2).f0), .int .i64 ((rd_T86 l0_0 x11_2).f1), .int .i64 0]) ?_ 2 _ rfl; (with_reducible repeat first | apply bN | apply bD | apply bA); refine blk_put (cs := #[.int .i64 ((rd_T86 l0_0 x11_2).f0), .int .i64 0, .int .i64 0]) ?_ 1 _ rfl; (with_reducible repeat first | apply bN | apply bD | apply bA); refine blk_put (cs := #[.int .i64 0, .int .i64 0, .int .i64 0]) ?_ 0 _ rfl; (with_reducible repeat first | apply bN | apply bD | apply bA); exact BK156.out⟩; have n4_ : Aside0 (Below w.heap.size w (((w22.setCell ⟨gb156, 0, none⟩ (.int .i64 ((rd_T86 l0_0 x11_2).f0))).setCell ⟨gb156, 1, none⟩ (.int .i64 ((rd_T86 l0_0 x11_2).f1))).setCell ⟨gb156, 2, none⟩ (.int .i64 ((rd_T86 l0_0 x11_2).f2)))) := ⟨lB⟩; (try clear HO_8); (try clear HO_9); (try clear BK149); (try clear BK156); (try clear HB); generalize (((w22.setCell ⟨gb156, 0, none⟩ (.int .i64 ((rd_T86 l0_0 x11_2).f0))).setCell ⟨gb156, 1, none⟩ (.int .i64 ((rd_T86 l0_0 x11_2).f1))).setCell ⟨gb156, 2, none⟩ (.int .i64 ((rd_T86 l0_0 x11_2).f2))) = w67 at n0_ n1_ n2_ n3_ n4_ ⊢; have HO_8 := n0_; have HO_9 := n1_; have BK149 := n2_; have BK156 := n3_; have HB := n4_; clear n0_ n1_ n2_ n3_ n4_; (try (rw [drewN_self w67]; generalize hq_ : World.drewN w67 _ = w67; have n0_ := Aside0.mk (Kd.R_at hq_ HO_8.out); have n1_ := Aside0.mk (Kd.R_at hq_ HO_9.out); have n2_ := Aside0.mk (blk_at hq_ BK149.out); have n3_ := Aside0.mk (blk_at hq_ BK156.out); have n4_ := Aside0.mk (below_at hq_ HB.out); clear hq_ HO_8 HO_9 BK149 BK156 HB; have HO_8 := n0_; have HO_9 := n1_; have BK149 := n2_; have BK156 := n3_; have HB := n4_; clear n0_ n1_ n2_ n3_ n4_)); obtain ⟨hy65_, hz65_⟩ := Kd.R_celln 0 HO_8.out (((rd_T86 l0_0 x11_2).f1) : Int) (lD) (lD); have HP65 := Kd.R_putg HO_8.out (((rd_T86 l0_0 x11_2).f1) : Int) (wrap64 ((rd x8_2 ((rd_T86 l0_0 x11_2).f1)) + 1)); refine store_event (t := 3) (p := 91) (v := ?vo_w66) (w1 := (w67.setCell ⟨go61, (((rd_T86 l0_0 x11_2).f1) : Int).toNat, none⟩ (.int .i64 (wrap64 ((rd x8_2 ((rd_T86 l0_0 x11_2).f1)) + 1))))) ?hg ?ho ?hn ?hr ?_; (case ho => rfl); (case hg => rfl); (case hn => rfl); (case hr => first | (go_simp; done) | (go_simp; rfl)); intro w66 hw; have hg : w67.grownBy w66 (some go61) := (by rw [hw]; exact HP65.2); have hp_ : Kd.R (Kd.int .i64) 3 w66 w.heap.size (fun k_ => some k_ ≠ (u9 : Value).ownBlock) (.slice (some ⟨go61, 0, none⟩) x8_2.length co64) y164 := (by rw [hw, Ny164.out]; exact HP65.1); clear HP65; have n0_ := Aside0.mk (hp_); have n1_ := Aside0.mk (Kd.R_after (v := (.slice (some ⟨go61, 0, none⟩) x8_2.length co64)) (v1 := (.slice (some ⟨go61, 0, none⟩) x8_2.length co64)) (ok := (fun _ => True)) (by (with_reducible repeat (first | apply Kd.R_alloc | apply Kd.R_drewN | apply Kd.R_drew)); exact Kd.R_mono HO_9.out (fun _ hk => ⟨trivial, hk⟩)) hg (.inl rfl)); have n2_ := Aside0.mk (blk_grown (lK BK149.out) hg (Kd.R_ne HO_8.out BK149.out (by decide))); have n3_ := Aside0.mk (blk_grown (lK BK156.out) hg (Kd.R_ne HO_8.out BK156.out (by decide))); have n4_ := Aside0.mk ((by rw [hw]; exact below_set (HB.out) GB61.out : Below w.heap.size w w66)); clear HO_8; clear HO_9; clear BK149; clear BK156; clear HB; have HO_8 := n0_; have HO_9 := n1_; have BK149 := n2_; have BK156 := n3_; have HB := n4_; clear n0_ n1_ n2_ n3_ n4_; clear hg hw hp_)))
                    go_meet
                    case rel => exact ⟨_, (y164), (x9_2), (0), (wrap64 (x11_2 + 2)), lF, lF, H', ⟨by have := HJ2.out; have := HK2.out; first | omega | exact Nat.le_refl _⟩, ⟨lR HO_8.out⟩, ⟨by (with_reducible repeat (first | apply Kd.R_alloc | apply Kd.R_drewN | apply Kd.R_drew)); exact Kd.R_mono HO_9.out (fun _ hk => hk.2)⟩, ⟨lK BK149.out⟩, ⟨lK BK156.out⟩, ⟨lB⟩⟩
                  ·rw [if_neg c56] at H
                   exact absurd H (by simp)
                 ·rw [if_neg c55] at H
                  exact absurd H (by simp)
                ·rw [if_neg c54] at H
                 have c54b0 : (((rd_T86 l0_0 x11_2).f0) == 6) = false := beq_eq_false_iff_ne.mpr c54
                 have c54b1 : (((rd_T86 l0_0 x11_2).f0) != 6) = true := bne_iff_ne.mpr c54
                 have H' := Aside0.mk H
                 clear H
                 go_wp2
                 repeat (go_quiet (fail); try go_wp2)
                 go_meet
                 case rel => exact ⟨_, (x8_2), (x9_2), (0), (wrap64 (x11_2 + 1)), lF, lF, H', ⟨by have := HJ2.out; have := HK2.out; first | omega | exact Nat.le_refl _⟩, ⟨by (with_reducible repeat (first | apply Kd.R_alloc | apply Kd.R_drewN | apply Kd.R_drew)); exact Kd.R_mono (Kd.R_far (p := ⟨gb156, 2, none⟩) (Kd.R_far (p := ⟨gb156, 1, none⟩) (Kd.R_far (p := ⟨gb156, 0, none⟩) (Kd.R_types HO_8.out BK156.out (by decide)) (fun _ hk => hk.2) (.int .i64 ((rd_T86 l0_0 x11_2).f0))) (fun _ hk => hk.2) (.int .i64 ((rd_T86 l0_0 x11_2).f1))) (fun _ hk => hk.2) (.int .i64 ((rd_T86 l0_0 x11_2).f2))) (fun _ hk => hk.1)⟩, ⟨by (with_reducible repeat (first | apply Kd.R_alloc | apply Kd.R_drewN | apply Kd.R_drew)); exact Kd.R_mono (Kd.R_far (p := ⟨gb156, 2, none⟩) (Kd.R_far (p := ⟨gb156, 1, none⟩) (Kd.R_far (p := ⟨gb156, 0, none⟩) (Kd.R_types HO_9.out BK156.out (by decide)) (fun _ hk => hk.2) (.int .i64 ((rd_T86 l0_0 x11_2).f0))) (fun _ hk => hk.2) (.int .i64 ((rd_T86 l0_0 x11_2).f1))) (fun _ hk => hk.2) (.int .i64 ((rd_T86 l0_0 x11_2).f2))) (fun _ hk => hk.1)⟩, ⟨lJ BK149.out⟩, ⟨by (with_reducible repeat first | apply bN | apply bD | apply bA); refine blk_put (cs := #[.int .i64 ((rd_T86 l0_0 x11_2).f0), .int .i64 ((rd_T86 l0_0 x11_2).f1), .int .i64 0]) ?_ 2 _ rfl; (with_reducible repeat first | apply bN | apply bD | apply bA); refine blk_put (cs := #[.int .i64 ((rd_T86 l0_0 x11_2).f0), .int .i64 0, .int .i64 0]) ?_ 1 _ rfl; (with_reducible repeat first | apply bN | apply bD | apply bA); refine blk_put (cs := #[.int .i64 0, .int .i64 0, .int .i64 0]) ?_ 0 _ rfl; (with_reducible repeat first | apply bN | apply bD | apply bA); exact BK156.out⟩, ⟨lB⟩⟩
          case rest =>
           clear HC20
           try clear c1
           try clear p1
           try clear q1
           try clear hx1
           try clear c2
           try clear p2
           try clear c3
           try clear c4
           try clear p4
           try clear q4
           try clear hx4
           try clear hf4
           try clear c5
           try clear c6
           try clear p6
           try clear q6
           try clear hx6
           try clear hf6
           try clear c12
           try clear c13
           try clear c13b0
           try clear c13b1
           try clear p15
           try clear q15
           try clear hx15
           try clear c16
           try clear c16b0
           try clear p16
           try clear q16
           try clear hx16
           try clear c17
           try clear c17b0
           try clear c17b1
           try clear c19
           try clear c19b0
           try clear c23
           try clear c25
           try clear c25b0
           try clear c25b1
           try clear c26
           try clear c26b0
           try clear c26b1
           try clear c28
           try clear c30
           try clear c32
           try clear c33
           try clear c33b0
           try clear c33b1
           try clear c34
           try clear c36
           try clear c36b0
           try clear c36b1
           try clear c37
           try clear c37b0
           try clear c38
           try clear c38b0
           try clear c39
           try clear c42
           try clear c42b0
           try clear c42b1
           try clear c43
           try clear c45
           try clear c45b0
           try clear c45b1
           try clear c46
           try clear c46b0
           try clear c47
           try clear c47b0
           try clear p48
           try clear q48
           try clear hx48
           try clear hf48
           try clear c49
           try clear c54
           try clear c54b0
           try clear c54b1
           try clear c55
           try clear c55b0
           try clear c56
           try clear c56b0
           try clear c57
           try clear c57b0
           try clear c57b1
           try clear c58
           try clear p61
           try clear q61
           try clear hx61
           try clear hf61
           try clear c62
           try clear p64
           try clear hcz10_0 hcz10_1
           try clear hcz18_0 hcz18_1
           try clear hcz21_0 hcz21_1
           try clear hcz24_0 hcz24_1 hcz24_2
           try clear hcz31_0 hcz31_1 hcz31_2
           try clear hcz35_0 hcz35_1 hcz35_2
           try clear hcz40_0 hcz40_1 hcz40_2
           try clear hcz44_0 hcz44_1 hcz44_2
           try clear hcz50_0 hcz50_1 hcz50_2
           try clear hcz59_0 hcz59_1 hcz59_2
           try clear hcz63_0 hcz63_1 hcz63_2
           try clear hcz8_0 hcz8_1
           try clear hfz10_0 hfz10_1
           try clear hfz18_0 hfz18_1
           try clear hfz21_0 hfz21_1
           try clear hfz24_0 hfz24_1 hfz24_2
           try clear hfz31_0 hfz31_1 hfz31_2
           try clear hfz35_0 hfz35_1 hfz35_2
           try clear hfz40_0 hfz40_1 hfz40_2
           try clear hfz44_0 hfz44_1 hfz44_2
           try clear hfz50_0 hfz50_1 hfz50_2
           try clear hfz59_0 hfz59_1 hfz59_2
           try clear hfz63_0 hfz63_1 hfz63_2
           try clear hfz8_0 hfz8_1
           try clear hx155_0
           try clear hx155_1
           try clear hx155_2
           try clear hx160_0
           try clear hx162_0
           try clear hx163_0
           try clear hx48_0
           try clear hx61_0
           try clear p155
           try clear p160
           try clear p162
           try clear p163
           try clear p2
           try clear p48
           try clear p61
           try clear q155
           try clear q160
           try clear q162
           try clear q163
           try clear q48
           try clear q61
           obtain ⟨kq, x8_19, x9_19, x13_19, x14_19, rfl, rfl, HA, HJ19, HO_8, HO_9, BK149, BK156, HB⟩ := hcut
           cases kq with
           | zero => exact absurd HA.out (by simp [spec_RunLined.j2])
           | succ kj19 =>
            have H := HA.out
            clear HA
            simp only [spec_RunLined.j2] at H
            by_cases c68 : x13_19 = 0
            ·rw [if_pos c68] at H
             have c68b0 : (x13_19 == 0) = true := beq_iff_eq.mpr c68
             have c68b1 : (x13_19 != 0) = false := bne_eq_false_iff_eq.mpr c68
             clear c68
             have H' := Aside0.mk H
             clear H
             go_wp2
             repeat (go_quiet (fail); try go_wp2)
             go_roundg kj19
             case measure => have := HJ2.out; have := HK2.out; have := HJ19.out; omega
             case rel => exact ⟨(x8_19), (x9_19), (wrap64 (x10_2 + 1)), (x14_19), lF, lF, H', ⟨by have := HJ2.out; have := HK2.out; have := HJ19.out; omega⟩, ⟨lR HO_8.out⟩, ⟨lR HO_9.out⟩, ⟨lK BK149.out⟩, ⟨lB⟩⟩
            ·rw [if_neg c68] at H
             have c68b0 : (x13_19 == 0) = false := beq_eq_false_iff_ne.mpr c68
             have c68b1 : (x13_19 != 0) = true := bne_iff_ne.mpr c68
             replace H := lO H
             obtain ⟨t165, A69, H⟩ := H
             by_cases c70 : t165 < 0
             ·rw [if_pos c70] at H
              have c70b0 : decide (t165 < 0) = true := decide_eq_true c70
              clear c70
              simp only [Option.some.injEq, Prod.mk.injEq] at H
              obtain ⟨rfl, rfl, rfl, rfl⟩ := H
              have hnb71 := NB149_156.out
              have hnc71 := NB156_149.out
              obtain ⟨hcz72_0, hfz72_0, hcz72_1, hfz72_1⟩ := bk2 BK149.out
              go_wp2_with (first | (go_at_call 57; (with_reducible refine (spec_l16Guard.calls kj19 _ _ l0_0 _ _ l0_1 x11_2 x13_19 t165 _ ?side1 ?side2 ?side3 ?side4 A69.out).mono ?_); (case side1 => exact lC (Kd.C_below HR0_0.out HB.out)); (case side2 => exact HC0_0.out); (case side3 => exact lC (Kd.C_below HR0_1.out HB.out)); (case side4 => exact HC0_1.out); rintro e w73 ⟨rfl, hb⟩; have n0_ := Aside0.mk (Kd.R_below (lR HO_8.out) hb); have n1_ := Aside0.mk (Kd.R_below (lR HO_9.out) hb); have n2_ := Aside0.mk (blk_below (lK BK149.out) hb); have n3_ := Aside0.mk (blk_below (lK BK156.out) hb); have n4_ := Aside0.mk (below_step lB hb); clear HO_8; clear HO_9; clear BK149; clear BK156; clear HB; have HO_8 := n0_; have HO_9 := n1_; have BK149 := n2_; have BK156 := n3_; have HB := n4_; clear n0_ n1_ n2_ n3_ n4_; (try clear hb); (try clear hb2); (try clear hk); (try clear hi)))
              repeat (go_quiet (fail); try go_wp2_with (first | (go_at_call 57; (with_reducible refine (spec_l16Guard.calls kj19 _ _ l0_0 _ _ l0_1 x11_2 x13_19 t165 _ ?side1 ?side2 ?side3 ?side4 A69.out).mono ?_); (case side1 => exact lC (Kd.C_below HR0_0.out HB.out)); (case side2 => exact HC0_0.out); (case side3 => exact lC (Kd.C_below HR0_1.out HB.out)); (case side4 => exact HC0_1.out); rintro e w73 ⟨rfl, hb⟩; have n0_ := Aside0.mk (Kd.R_below (lR HO_8.out) hb); have n1_ := Aside0.mk (Kd.R_below (lR HO_9.out) hb); have n2_ := Aside0.mk (blk_below (lK BK149.out) hb); have n3_ := Aside0.mk (blk_below (lK BK156.out) hb); have n4_ := Aside0.mk (below_step lB hb); clear HO_8; clear HO_9; clear BK149; clear BK156; clear HB; have HO_8 := n0_; have HO_9 := n1_; have BK149 := n2_; have BK156 := n3_; have HB := n4_; clear n0_ n1_ n2_ n3_ n4_; (try clear hb); (try clear hb2); (try clear hk); (try clear hi))))
              refine bodyPost_ret (results_list (rs := [.tmp 4, .tmp 5, .tmp 6, .tmp 7]) rfl (by simp) (.tmp (.tmp (.tmp (.tmp .nil))))) rfl ?_
              exact ⟨_, lE, by (with_reducible repeat (first | apply Kd.R_alloc | apply Kd.R_drewN | apply Kd.R_drew)); exact Kd.R_mono HO_9.out (fun _ hk => trivial), lB⟩
             ·rw [if_neg c70] at H
              have c70b0 : decide (t165 < 0) = false := decide_eq_false c70
              clear c70
              by_cases c74 : 0 ≤ t165
              ·rw [if_pos c74] at H
               have c74b0 : decide (0 ≤ t165) = true := decide_eq_true c74
               clear c74
               by_cases c75 : t165 < (x8_19.length : Int)
               ·rw [if_pos c75] at H
                have c75b0 : decide (t165 < (x8_19.length : Int)) = true := decide_eq_true c75
                clear c75
                obtain ⟨y166, hy166⟩ : ∃ y_ : List Int, y_ = (x8_19.set (t165 : Int).toNat x13_19) := ⟨_, rfl⟩
                replace H : (if t165 < (l0_1.length : Int) then (spec_RunLined.l0 kj19 a1 y166 x9_19 (wrap64 (x10_2 + 1)) ((rd_T63 l0_1 t165).f3) l0_0 l0_1) else (none)) = some (r1, r2, r3, r4) := by first | (rw [hy166]; with_reducible exact H) | (have H2_ := (Option.bind_some _ _).symm.trans H; rw [hy166]; with_reducible exact H2_) | (have H2_ := (Option.bind_some _ _).symm.trans H; with_reducible exact H2_) | with_reducible exact H | (rw [hy166]; exact H) | exact H
                have Ny166 := Aside0.mk hy166
                clear hy166
                by_cases c77 : t165 < (l0_1.length : Int)
                ·rw [if_pos c77] at H
                 have c77b0 : decide (t165 < (l0_1.length : Int)) = true := decide_eq_true c77
                 clear c77
                 have H' := Aside0.mk H
                 clear H
                 have hnb78 := NB149_156.out
                 have hnc78 := NB156_149.out
                 obtain ⟨hcz79_0, hfz79_0, hcz79_1, hfz79_1⟩ := bk2 BK149.out
                 go_wp2_with (first | (go_at_call 57; (with_reducible refine (spec_l16Guard.calls kj19 _ _ l0_0 _ _ l0_1 x11_2 x13_19 t165 _ ?side1 ?side2 ?side3 ?side4 A69.out).mono ?_); (case side1 => exact lC (Kd.C_below HR0_0.out HB.out)); (case side2 => exact HC0_0.out); (case side3 => exact lC (Kd.C_below HR0_1.out HB.out)); (case side4 => exact HC0_1.out); rintro e w80 ⟨rfl, hb⟩; have n0_ := Aside0.mk (Kd.R_below (lR HO_8.out) hb); have n1_ := Aside0.mk (Kd.R_below (lR HO_9.out) hb); have n2_ := Aside0.mk (blk_below (lK BK149.out) hb); have n3_ := Aside0.mk (blk_below (lK BK156.out) hb); have n4_ := Aside0.mk (below_step lB hb); clear HO_8; clear HO_9; clear BK149; clear BK156; clear HB; have HO_8 := n0_; have HO_9 := n1_; have BK149 := n2_; have BK156 := n3_; have HB := n4_; clear n0_ n1_ n2_ n3_ n4_; (try clear hb); (try clear hb2); (try clear hk); (try clear hi); have p76 : 0 ≤ (t165 : Int) := lD; have q76 : (t165 : Int) < ((x8_19.length : Int) : Int) := lD; obtain ⟨go76, co76, eo76, gb76, gl76, cl76, HG76⟩ := Kd.R_form HO_8.out (by omega); (first | cases eo76 | (injection eo76 with ea_ en_ ec_; (first | subst ea_ | (injection ea_ with ea_; subst ea_)); subst ec_; clear en_)); have GB76 := Aside0.mk gb76; have GG76 := Aside0.mk HG76; clear gb76 gl76 HG76; obtain ⟨hx76_0, hf76_0⟩ := Kd.R_celln 0 HO_8.out (t165 : Int) p76 q76; replace p76 := eq_true p76; replace q76 := eq_true q76; obtain ⟨hy81_, hz81_⟩ := Kd.R_celln 0 HO_8.out (t165 : Int) (lD) (lD); have HP81 := Kd.R_putg HO_8.out (t165 : Int) x13_19) | ((with_reducible refine gate_store (t := 3) (p := 109) rfl ?_); (try (rw [drewN_self w80]; generalize hq_ : World.drewN w80 _ = w80; have n0_ := Aside0.mk (Kd.R_at hq_ HO_8.out); have n1_ := Aside0.mk (Kd.R_at hq_ HO_9.out); have n2_ := Aside0.mk (blk_at hq_ BK149.out); have n3_ := Aside0.mk (blk_at hq_ BK156.out); have n4_ := Aside0.mk (below_at hq_ HB.out); clear hq_ HO_8 HO_9 BK149 BK156 HB; have HO_8 := n0_; have HO_9 := n1_; have BK149 := n2_; have BK156 := n3_; have HB := n4_; clear n0_ n1_ n2_ n3_ n4_; (try (obtain ⟨hy81_, hz81_⟩ := Kd.R_celln 0 HO_8.out (t165 : Int) (lD) (lD))); (try (have HP81 := Kd.R_putg HO_8.out (t165 : Int) x13_19)))); refine store_event (t := 3) (p := 109) (v := ?vo_w82) (w1 := (w80.setCell ⟨go76, (t165 : Int).toNat, none⟩ (.int .i64 x13_19))) ?hg ?ho ?hn ?hr ?_; (case ho => rfl); (case hg => rfl); (case hn => rfl); (case hr => first | (go_simp; done) | (go_simp; rfl)); intro w82 hw; have hg : w80.grownBy w82 (some go76) := (by rw [hw]; exact HP81.2); have hp_ : Kd.R (Kd.int .i64) 3 w82 w.heap.size (fun k_ => some k_ ≠ (u9 : Value).ownBlock) (.slice (some ⟨go76, 0, none⟩) x8_19.length co76) y166 := (by rw [hw, Ny166.out]; exact HP81.1); clear HP81; have n0_ := Aside0.mk (hp_); have n1_ := Aside0.mk (Kd.R_after (v := (.slice (some ⟨go76, 0, none⟩) x8_19.length co76)) (v1 := (.slice (some ⟨go76, 0, none⟩) x8_19.length co76)) (ok := (fun _ => True)) (by (with_reducible repeat (first | apply Kd.R_alloc | apply Kd.R_drewN | apply Kd.R_drew)); exact Kd.R_mono HO_9.out (fun _ hk => ⟨trivial, hk⟩)) hg (.inl rfl)); have n2_ := Aside0.mk (blk_grown (lK BK149.out) hg (Kd.R_ne HO_8.out BK149.out (by decide))); have n3_ := Aside0.mk (blk_grown (lK BK156.out) hg (Kd.R_ne HO_8.out BK156.out (by decide))); have n4_ := Aside0.mk ((by rw [hw]; exact below_set (HB.out) GB76.out : Below w.heap.size w w82)); clear HO_8; clear HO_9; clear BK149; clear BK156; clear HB; have HO_8 := n0_; have HO_9 := n1_; have BK149 := n2_; have BK156 := n3_; have HB := n4_; clear n0_ n1_ n2_ n3_ n4_; clear hg hw hp_; obtain ⟨hcz83_0, hfz83_0, hcz83_1, hfz83_1⟩ := bk2 BK149.out; have p167 : 0 ≤ (t165 : Int) := lD; have q167 : t165 < (l0_1.length : Int) := lD; obtain ⟨ad167, e167, hx167_0, hx167_1, hx167_2, hx167_3⟩ := at_T63 HR0_1.out t165 p167 q167; cases e167; replace hx167_0 := pw_cell_below HB.out hx167_0; replace hx167_1 := pw_cell_below HB.out hx167_1; replace hx167_2 := pw_cell_below HB.out hx167_2; replace hx167_3 := pw_cell_below HB.out hx167_3; replace p167 := eq_true p167; replace q167 := eq_true q167))
                 repeat (go_quiet (fail); try go_wp2_with (first | (go_at_call 57; (with_reducible refine (spec_l16Guard.calls kj19 _ _ l0_0 _ _ l0_1 x11_2 x13_19 t165 _ ?side1 ?side2 ?side3 ?side4 A69.out).mono ?_); (case side1 => exact lC (Kd.C_below HR0_0.out HB.out)); (case side2 => exact HC0_0.out); (case side3 => exact lC (Kd.C_below HR0_1.out HB.out)); (case side4 => exact HC0_1.out); rintro e w80 ⟨rfl, hb⟩; have n0_ := Aside0.mk (Kd.R_below (lR HO_8.out) hb); have n1_ := Aside0.mk (Kd.R_below (lR HO_9.out) hb); have n2_ := Aside0.mk (blk_below (lK BK149.out) hb); have n3_ := Aside0.mk (blk_below (lK BK156.out) hb); have n4_ := Aside0.mk (below_step lB hb); clear HO_8; clear HO_9; clear BK149; clear BK156; clear HB; have HO_8 := n0_; have HO_9 := n1_; have BK149 := n2_; have BK156 := n3_; have HB := n4_; clear n0_ n1_ n2_ n3_ n4_; (try clear hb); (try clear hb2); (try clear hk); (try clear hi); have p76 : 0 ≤ (t165 : Int) := lD; have q76 : (t165 : Int) < ((x8_19.length : Int) : Int) := lD; obtain ⟨go76, co76, eo76, gb76, gl76, cl76, HG76⟩ := Kd.R_form HO_8.out (by omega); (first | cases eo76 | (injection eo76 with ea_ en_ ec_; (first | subst ea_ | (injection ea_ with ea_; subst ea_)); subst ec_; clear en_)); have GB76 := Aside0.mk gb76; have GG76 := Aside0.mk HG76; clear gb76 gl76 HG76; obtain ⟨hx76_0, hf76_0⟩ := Kd.R_celln 0 HO_8.out (t165 : Int) p76 q76; replace p76 := eq_true p76; replace q76 := eq_true q76; obtain ⟨hy81_, hz81_⟩ := Kd.R_celln 0 HO_8.out (t165 : Int) (lD) (lD); have HP81 := Kd.R_putg HO_8.out (t165 : Int) x13_19) | ((with_reducible refine gate_store (t := 3) (p := 109) rfl ?_); (try (rw [drewN_self w80]; generalize hq_ : World.drewN w80 _ = w80; have n0_ := Aside0.mk (Kd.R_at hq_ HO_8.out); have n1_ := Aside0.mk (Kd.R_at hq_ HO_9.out); have n2_ := Aside0.mk (blk_at hq_ BK149.out); have n3_ := Aside0.mk (blk_at hq_ BK156.out); have n4_ := Aside0.mk (below_at hq_ HB.out); clear hq_ HO_8 HO_9 BK149 BK156 HB; have HO_8 := n0_; have HO_9 := n1_; have BK149 := n2_; have BK156 := n3_; have HB := n4_; clear n0_ n1_ n2_ n3_ n4_; (try (obtain ⟨hy81_, hz81_⟩ := Kd.R_celln 0 HO_8.out (t165 : Int) (lD) (lD))); (try (have HP81 := Kd.R_putg HO_8.out (t165 : Int) x13_19)))); refine store_event (t := 3) (p := 109) (v := ?vo_w82) (w1 := (w80.setCell ⟨go76, (t165 : Int).toNat, none⟩ (.int .i64 x13_19))) ?hg ?ho ?hn ?hr ?_; (case ho => rfl); (case hg => rfl); (case hn => rfl); (case hr => first | (go_simp; done) | (go_simp; rfl)); intro w82 hw; have hg : w80.grownBy w82 (some go76) := (by rw [hw]; exact HP81.2); have hp_ : Kd.R (Kd.int .i64) 3 w82 w.heap.size (fun k_ => some k_ ≠ (u9 : Value).ownBlock) (.slice (some ⟨go76, 0, none⟩) x8_19.length co76) y166 := (by rw [hw, Ny166.out]; exact HP81.1); clear HP81; have n0_ := Aside0.mk (hp_); have n1_ := Aside0.mk (Kd.R_after (v := (.slice (some ⟨go76, 0, none⟩) x8_19.length co76)) (v1 := (.slice (some ⟨go76, 0, none⟩) x8_19.length co76)) (ok := (fun _ => True)) (by (with_reducible repeat (first | apply Kd.R_alloc | apply Kd.R_drewN | apply Kd.R_drew)); exact Kd.R_mono HO_9.out (fun _ hk => ⟨trivial, hk⟩)) hg (.inl rfl)); have n2_ := Aside0.mk (blk_grown (lK BK149.out) hg (Kd.R_ne HO_8.out BK149.out (by decide))); have n3_ := Aside0.mk (blk_grown (lK BK156.out) hg (Kd.R_ne HO_8.out BK156.out (by decide))); have n4_ := Aside0.mk ((by rw [hw]; exact below_set (HB.out) GB76.out : Below w.heap.size w w82)); clear HO_8; clear HO_9; clear BK149; clear BK156; clear HB; have HO_8 := n0_; have HO_9 := n1_; have BK149 := n2_; have BK156 := n3_; have HB := n4_; clear n0_ n1_ n2_ n3_ n4_; clear hg hw hp_; obtain ⟨hcz83_0, hfz83_0, hcz83_1, hfz83_1⟩ := bk2 BK149.out; have p167 : 0 ≤ (t165 : Int) := lD; have q167 : t165 < (l0_1.length : Int) := lD; obtain ⟨ad167, e167, hx167_0, hx167_1, hx167_2, hx167_3⟩ := at_T63 HR0_1.out t165 p167 q167; cases e167; replace hx167_0 := pw_cell_below HB.out hx167_0; replace hx167_1 := pw_cell_below HB.out hx167_1; replace hx167_2 := pw_cell_below HB.out hx167_2; replace hx167_3 := pw_cell_below HB.out hx167_3; replace p167 := eq_true p167; replace q167 := eq_true q167)))
                 go_roundg kj19
                 case measure => have := HJ2.out; have := HK2.out; have := HJ19.out; omega
                 case rel => exact ⟨(y166), (x9_19), (wrap64 (x10_2 + 1)), ((rd_T63 l0_1 t165).f3), lF, lF, H', ⟨by have := HJ2.out; have := HK2.out; have := HJ19.out; omega⟩, ⟨lR HO_8.out⟩, ⟨by (with_reducible repeat (first | apply Kd.R_alloc | apply Kd.R_drewN | apply Kd.R_drew)); exact Kd.R_mono HO_9.out (fun _ hk => hk.2)⟩, ⟨lK BK149.out⟩, ⟨lB⟩⟩
                ·rw [if_neg c77] at H
                 exact absurd H (by simp)
               ·rw [if_neg c75] at H
                exact absurd H (by simp)
              ·rw [if_neg c74] at H
               exact absurd H (by simp)
         ·rw [if_neg c19] at H
          exact absurd H (by simp)
       ·rw [if_neg c16] at H
        have c16b0 : decide (x11_2 < (l0_0.length : Int)) = false := decide_eq_false c16
        clear c16
        simp only [Option.some.injEq, Prod.mk.injEq] at H
        obtain ⟨rfl, rfl, rfl, rfl⟩ := H
        obtain ⟨hcz84_0, hfz84_0, hcz84_1, hfz84_1⟩ := bk2 BK149.out
        go_wp2
        repeat (go_quiet (fail); try go_wp2)
        refine bodyPost_ret (results_list (rs := [.tmp 4, .tmp 5, .tmp 6, .tmp 7]) rfl (by simp) (.tmp (.tmp (.tmp (.tmp .nil))))) rfl ?_
        exact ⟨_, lE, by (with_reducible repeat (first | apply Kd.R_alloc | apply Kd.R_drewN | apply Kd.R_drew)); exact Kd.R_mono HO_9.out (fun _ hk => trivial), lB⟩
    ·rw [if_neg c13] at H
     exact absurd H (by simp)

end Go.Proofs.Ytgjojppbichaiaa.Q
