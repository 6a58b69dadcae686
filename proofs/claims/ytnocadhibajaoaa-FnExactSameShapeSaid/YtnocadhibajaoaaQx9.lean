-- Written by the program wip/tools/pr.py of this claim's session, over the kit's print.py.
import Derived.Test.YtnocadhibajaoaaQx0
import Derived.Test.YtnocadhibajaoaaQx1
import Derived.Test.YtnocadhibajaoaaQx2
import Derived.Test.YtnocadhibajaoaaQx5
import Derived.Test.YtnocadhibajaoaaQx8
namespace Go.Proofs.Ytnocadhibajaoaa.Q
open Go.RowKit Go.Proofs.YtnocadhibajaoaaW.PrintWords Go.Proofs.YtnocadhibajaoaaW.PrintLast Go.Proofs.YtnocadhibajaoaaW.PrintMore
attribute [local go_sem] max2_int min2_int max_two min_two max_three min_three max_four min_four   -- for this text's walks alone
set_option linter.unusedVariables false
set_option linter.unusedSimpArgs false

/-! ### laws_FnExactSameShape: function 6 -/
def laws_FnExactSameShape.j0 : Nat → Bool → List (S59) → List Int → List Int → Int → List (S59) → List Int → List Int → Int → List (S45) → List Int → List Int → Int → List (S45) → List Int → List Int → Int → Option (Bool)
 | 0, _, _, _, _, _, _, _, _, _, _, _, _, _, _, _, _, _ => none
 | k + 1, x47, x268000, x268001, x268002, x268003, x269000, x269001, x269002, x269003, x304000, x304001, x304002, x304003, x315000, x315001, x315002, x315003 => if x47 = true then (some false) else ((laws_toHeap.f k x268000 x268001 x268002 x268003).bind fun bt317 => ((laws_eqHeap.f k x304000 x304001 x304002 x304003 bt317.1 bt317.2.1 bt317.2.2.1 bt317.2.2.2).bind fun t327 => (if t327 = true then ((laws_toHeap.f k x269000 x269001 x269002 x269003).bind fun bt328 => ((laws_eqHeap.f k x315000 x315001 x315002 x315003 bt328.1 bt328.2.1 bt328.2.2.1 bt328.2.2.2).bind fun t338 => (if t338 = true then (some true) else (some false)))) else (some false))))
def laws_FnExactSameShape.f (k : Nat) (l0_0 : List (S59)) (l0_1 : List Int) (l0_2 : List Int) (a0_3 : Int) (l1_0 : List (S59)) (l1_1 : List Int) (l1_2 : List Int) (a1_3 : Int) : Option (Bool) := (laws_szHeap.f k l0_0 l0_1 l0_2 a0_3 1048576).bind fun t269 => (if t269 < 0 then (some true) else ((laws_szHeap.f k l1_0 l1_1 l1_2 a1_3 t269).bind fun t270 => (if t270 < 0 then (some true) else ((laws_toHeap.f k l0_0 l0_1 l0_2 a0_3).bind fun bt271 => ((laws_toHeap.f k l1_0 l1_1 l1_2 a1_3).bind fun bt281 => ((spec_SameShape.f k bt271.1 bt271.2.1 bt271.2.2.1 bt271.2.2.2 bt281.1 bt281.2.1 bt281.2.2.1 bt281.2.2.2).bind fun bt291 => ((laws_toHeap.f k l0_0 l0_1 l0_2 a0_3).bind fun bt293 => ((laws_toHeap.f k l1_0 l1_1 l1_2 a1_3).bind fun bt304 => ((impl_SameShape.f k bt293.1 bt293.2.1 bt293.2.2.1 bt293.2.2.2 bt304.1 bt304.2.1 bt304.2.2.1 bt304.2.2.2).bind fun bt315 => (if (bt315.1 != bt291.1) = true then (laws_FnExactSameShape.j0 k true l0_0 l0_1 l0_2 a0_3 l1_0 l1_1 l1_2 a1_3 bt293.1 bt293.2.1 bt293.2.2.1 bt293.2.2.2 bt304.1 bt304.2.1 bt304.2.2.1 bt304.2.2.2) else (laws_FnExactSameShape.j0 k (bt315.2 != bt291.2) l0_0 l0_1 l0_2 a0_3 l1_0 l1_1 l1_2 a1_3 bt293.1 bt293.2.1 bt293.2.2.1 bt293.2.2.2 bt304.1 bt304.2.1 bt304.2.2.1 bt304.2.2.2)))))))))))
theorem laws_FnExactSameShape.mono_l : ∀ k, (∀ y0 y1 y2 y3 y4 y5 y6 y7 y8 y9 y10 y11 y12 y13 y14 y15 y16, LeO (laws_FnExactSameShape.j0 k y0 y1 y2 y3 y4 y5 y6 y7 y8 y9 y10 y11 y12 y13 y14 y15 y16) (laws_FnExactSameShape.j0 (k + 1) y0 y1 y2 y3 y4 y5 y6 y7 y8 y9 y10 y11 y12 y13 y14 y15 y16))
 | 0 => fun _ _ _ _ _ _ _ _ _ _ _ _ _ _ _ _ _ r h => by simp [laws_FnExactSameShape.j0] at h
 | k + 1 => by
  have ih0 := laws_FnExactSameShape.mono_l k
  ·intro y0 y1 y2 y3 y4 y5 y6 y7 y8 y9 y10 y11 y12 y13 y14 y15 y16
   unfold laws_FnExactSameShape.j0
   repeat' first
   | with_reducible apply ih0
   | with_reducible apply impl_SameShape.mono
   | with_reducible apply laws_eqHeap.mono
   | with_reducible apply laws_szHeap.mono
   | with_reducible apply laws_toHeap.mono
   | with_reducible apply spec_SameShape.mono
   | (with_reducible exact LeO.refl _)
   | (with_reducible exact LeO.none _)
   | (with_reducible refine LeO.ite ?_ ?_)
   | (with_reducible refine LeO.bind ?_ (fun _ => ?_))
   | apply ih0
   | apply impl_SameShape.mono
   | apply laws_eqHeap.mono
   | apply laws_szHeap.mono
   | apply laws_toHeap.mono
   | apply spec_SameShape.mono
   | exact LeO.none _
   | refine LeO.ite ?_ ?_
   | refine LeO.bind ?_ (fun _ => ?_)
theorem laws_FnExactSameShape.mono : ∀ a0 a1 a2 a3 a4 a5 a6 a7 k, LeO (laws_FnExactSameShape.f k a0 a1 a2 a3 a4 a5 a6 a7) (laws_FnExactSameShape.f (k + 1) a0 a1 a2 a3 a4 a5 a6 a7) := by
 intro a0 a1 a2 a3 a4 a5 a6 a7 k
 have ih0 := laws_FnExactSameShape.mono_l k
 unfold laws_FnExactSameShape.f
 repeat' first
   | with_reducible apply ih0
   | with_reducible apply impl_SameShape.mono
   | with_reducible apply laws_eqHeap.mono
   | with_reducible apply laws_szHeap.mono
   | with_reducible apply laws_toHeap.mono
   | with_reducible apply spec_SameShape.mono
   | (with_reducible exact LeO.refl _)
   | (with_reducible exact LeO.none _)
   | (with_reducible refine LeO.ite ?_ ?_)
   | (with_reducible refine LeO.bind ?_ (fun _ => ?_))
   | apply ih0
   | apply impl_SameShape.mono
   | apply laws_eqHeap.mono
   | apply laws_szHeap.mono
   | apply laws_toHeap.mono
   | apply spec_SameShape.mono
   | exact LeO.none _
   | refine LeO.ite ?_ ?_
   | refine LeO.bind ?_ (fun _ => ?_)
def laws_FnExactSameShape.T8 : Bool × List (List Nat × List Nat) := (true, [([], []), ([0], [0]), ([], []), ([2, 1], [2]), ([1, 3, 3], [1, 3]), ([4], [4]), ([5], [5]), ([5], [5]), ([6, 4, 0, 1, 2, 3, 4, 5, 6], [6]), ([7, 8, 0, 1, 2, 3, 4, 5, 6, 7, 8], [7])])
def laws_FnExactSameShape.B8 : List Nat := [0, 1, 0, 7, 15, 31, 63, 63, 127, 511]
theorem laws_FnExactSameShape.tab8 : rtab .any (opsOf Try.f6 8) = laws_FnExactSameShape.T8 := by kernel_rfl
theorem laws_FnExactSameShape.bits8 : waitsOk laws_FnExactSameShape.T8.2 laws_FnExactSameShape.B8 = true := by kernel_rfl
set_option maxHeartbeats 8000000 in
set_option maxRecDepth 100000 in
theorem laws_FnExactSameShape.calls (k : Nat) (A0_0 : Option Addr) (c0_0 : Nat) (l0_0 : List (S59)) (A0_1 : Option Addr) (c0_1 : Nat) (l0_1 : List Int) (A0_2 : Option Addr) (c0_2 : Nat) (l0_2 : List Int) (a0_3 : Int) (A1_0 : Option Addr) (c1_0 : Nat) (l1_0 : List (S59)) (A1_1 : Option Addr) (c1_1 : Nat) (l1_1 : List Int) (A1_2 : Option Addr) (c1_2 : Nat) (l1_2 : List Int) (a1_3 : Int) (r : Bool) (w : World) (hr0_0 : Kd.C k59 w A0_0 l0_0.length l0_0) (hc0_0 : l0_0.length ≤ c0_0) (hr0_1 : Kd.C (Kd.int .i64) w A0_1 l0_1.length l0_1) (hc0_1 : l0_1.length ≤ c0_1) (hr0_2 : Kd.C (Kd.int .i64) w A0_2 l0_2.length l0_2) (hc0_2 : l0_2.length ≤ c0_2) (hr1_0 : Kd.C k59 w A1_0 l1_0.length l1_0) (hc1_0 : l1_0.length ≤ c1_0) (hr1_1 : Kd.C (Kd.int .i64) w A1_1 l1_1.length l1_1) (hc1_1 : l1_1.length ≤ c1_1) (hr1_2 : Kd.C (Kd.int .i64) w A1_2 l1_2.length l1_2) (hc1_2 : l1_2.length ≤ c1_2) (h : laws_FnExactSameShape.f k l0_0 l0_1 l0_2 a0_3 l1_0 l1_1 l1_2 a1_3 = some r) :
  Calls Try.prog 6 #[.agg #[.slice A0_0 l0_0.length c0_0, .slice A0_1 l0_1.length c0_1, .slice A0_2 l0_2.length c0_2, .int .i64 a0_3], .agg #[.slice A1_0 l1_0.length c1_0, .slice A1_1 l1_1.length c1_1, .slice A1_2 l1_2.length c1_2, .int .i64 a1_3]] w fun e w' => e = .returned (.bool r) ∧ Below w.heap.size w w' := by
 have hu32 := Try.underlying32
 have hu25 := Try.underlying25
 have HR0_0 := Aside0.mk hr0_0
 have HC0_0 := Aside0.mk hc0_0
 clear hr0_0 hc0_0
 have HR0_1 := Aside0.mk hr0_1
 have HC0_1 := Aside0.mk hc0_1
 clear hr0_1 hc0_1
 have HR0_2 := Aside0.mk hr0_2
 have HC0_2 := Aside0.mk hc0_2
 clear hr0_2 hc0_2
 have HR1_0 := Aside0.mk hr1_0
 have HC1_0 := Aside0.mk hc1_0
 clear hr1_0 hc1_0
 have HR1_1 := Aside0.mk hr1_1
 have HC1_1 := Aside0.mk hc1_1
 clear hr1_1 hc1_1
 have HR1_2 := Aside0.mk hr1_2
 have HC1_2 := Aside0.mk hc1_2
 clear hr1_2 hc1_2
 have HB := Aside0.mk (Below.refl w.heap.size w)
 have H : ((laws_szHeap.f k l0_0 l0_1 l0_2 a0_3 1048576).bind fun t269 => (if t269 < 0 then (some true) else ((laws_szHeap.f k l1_0 l1_1 l1_2 a1_3 t269).bind fun t270 => (if t270 < 0 then (some true) else ((laws_toHeap.f k l0_0 l0_1 l0_2 a0_3).bind fun bt271 => ((laws_toHeap.f k l1_0 l1_1 l1_2 a1_3).bind fun bt281 => ((spec_SameShape.f k bt271.1 bt271.2.1 bt271.2.2.1 bt271.2.2.2 bt281.1 bt281.2.1 bt281.2.2.1 bt281.2.2.2).bind fun bt291 => ((laws_toHeap.f k l0_0 l0_1 l0_2 a0_3).bind fun bt293 => ((laws_toHeap.f k l1_0 l1_1 l1_2 a1_3).bind fun bt304 => ((impl_SameShape.f k bt293.1 bt293.2.1 bt293.2.2.1 bt293.2.2.2 bt304.1 bt304.2.1 bt304.2.2.1 bt304.2.2.2).bind fun bt315 => (if (bt315.1 != bt291.1) = true then (laws_FnExactSameShape.j0 k true l0_0 l0_1 l0_2 a0_3 l1_0 l1_1 l1_2 a1_3 bt293.1 bt293.2.1 bt293.2.2.1 bt293.2.2.2 bt304.1 bt304.2.1 bt304.2.2.1 bt304.2.2.2) else (laws_FnExactSameShape.j0 k (bt315.2 != bt291.2) l0_0 l0_1 l0_2 a0_3 l1_0 l1_1 l1_2 a1_3 bt293.1 bt293.2.1 bt293.2.2.1 bt293.2.2.2 bt304.1 bt304.2.1 bt304.2.2.1 bt304.2.2.2)))))))))))) = some r := h
 clear h
 replace H := lO H
 obtain ⟨t269, A3, H⟩ := H
 by_cases c4 : t269 < 0
 ·rw [if_pos c4] at H
  have c4b0 : decide (t269 < 0) = true := decide_eq_true c4
  clear c4
  obtain rfl := Option.some.inj H
  go_enter Try.func6, Try.ntmps6
  go_wp2_with (first | ((with_reducible refine gate_dst (N := 2) rfl ?_); refine bxe 2 #[.slice A0_0 l0_0.length c0_0, .slice A0_1 l0_1.length c0_1, .slice A0_2 l0_2.length c0_2, .int .i64 a0_3] 32 ?_; intro gb267 hg w5 hbox hb; have n0_ := Aside0.mk (below_step lB hb); have n1_ := Aside0.mk (hbox); have n2_ := lG w hg; have n3_ := lG w hg; clear HB; have HB := n0_; have BK267 := n1_; have GW267 := n2_; have GE267 := n3_; clear n0_ n1_ n2_ n3_; clear hb hbox hg) | ((with_reducible refine gate_dst (N := 3) rfl ?_); refine bxe 3 #[.slice A1_0 l1_0.length c1_0, .slice A1_1 l1_1.length c1_1, .slice A1_2 l1_2.length c1_2, .int .i64 a1_3] 32 ?_; intro gb268 hg w6 hbox hb; have n0_ := Aside0.mk (blk_below (lK BK267.out) hb); have n1_ := Aside0.mk (below_step lB hb); have n2_ := Aside0.mk (hbox); have n3_ := lG w hg; have n4_ := lG w hg; have n5_ := Aside0.mk ((by rw [hg]; exact Nat.ne_of_lt (blk_lt (lK BK267.out)) : gb267 ≠ gb268)); have n6_ := Aside0.mk ((by rw [hg]; exact Nat.ne_of_gt (blk_lt (lK BK267.out)) : gb268 ≠ gb267)); clear BK267; clear HB; have BK267 := n0_; have HB := n1_; have BK268 := n2_; have GW268 := n3_; have GE268 := n4_; have NB267_268 := n5_; have NB268_267 := n6_; clear n0_ n1_ n2_ n3_ n4_ n5_ n6_; clear hb hbox hg; have hnb7 := NB267_268.out; have hnc7 := NB268_267.out; obtain ⟨hcz8_0, hfz8_0, hcz8_1, hfz8_1, hcz8_2, hfz8_2, hcz8_3, hfz8_3⟩ := bk4 BK267.out) | ((with_reducible refine gate_callee (f := 14) rfl ?_); refine gl_ (some 14) (Try.func14) #[.agg #[.slice A0_0 l0_0.length c0_0, .slice A0_1 l0_1.length c0_1, .slice A0_2 l0_2.length c0_2, .int .i64 a0_3], .int .i64 1048576] ?_; (with_reducible refine (laws_szHeap.calls k _ _ l0_0 _ _ l0_1 _ _ l0_2 a0_3 1048576 t269 _ ?side1 ?side2 ?side3 ?side4 ?side5 ?side6 A3.out).mono ?_); (case side1 => exact lC (Kd.C_below HR0_0.out HB.out)); (case side2 => exact HC0_0.out); (case side3 => exact lC (Kd.C_below HR0_1.out HB.out)); (case side4 => exact HC0_1.out); (case side5 => exact lC (Kd.C_below HR0_2.out HB.out)); (case side6 => exact HC0_2.out); rintro e w9 ⟨rfl, hb⟩; refine ⟨_, rfl, ?_⟩; have n0_ := Aside0.mk (blk_below (lK BK267.out) hb); have n1_ := Aside0.mk (blk_below (lK BK268.out) hb); have n2_ := Aside0.mk (below_step lB hb); clear BK267; clear BK268; clear HB; have BK267 := n0_; have BK268 := n1_; have HB := n2_; clear n0_ n1_ n2_; (try clear hb); (try clear hb2); (try clear hk); (try clear hi)))
  go_ret
  exact ⟨lE, lB⟩
 ·rw [if_neg c4] at H
  have c4b0 : decide (t269 < 0) = false := decide_eq_false c4
  clear c4
  replace H := lO H
  obtain ⟨t270, A10, H⟩ := H
  by_cases c11 : t270 < 0
  ·rw [if_pos c11] at H
   have c11b0 : decide (t270 < 0) = true := decide_eq_true c11
   clear c11
   obtain rfl := Option.some.inj H
   go_enter Try.func6, Try.ntmps6
   go_wp2_with (first | ((with_reducible refine gate_dst (N := 2) rfl ?_); refine bxe 2 #[.slice A0_0 l0_0.length c0_0, .slice A0_1 l0_1.length c0_1, .slice A0_2 l0_2.length c0_2, .int .i64 a0_3] 32 ?_; intro gb267 hg w12 hbox hb; have n0_ := Aside0.mk (below_step lB hb); have n1_ := Aside0.mk (hbox); have n2_ := lG w hg; have n3_ := lG w hg; clear HB; have HB := n0_; have BK267 := n1_; have GW267 := n2_; have GE267 := n3_; clear n0_ n1_ n2_ n3_; clear hb hbox hg) | ((with_reducible refine gate_dst (N := 3) rfl ?_); refine bxe 3 #[.slice A1_0 l1_0.length c1_0, .slice A1_1 l1_1.length c1_1, .slice A1_2 l1_2.length c1_2, .int .i64 a1_3] 32 ?_; intro gb268 hg w13 hbox hb; have n0_ := Aside0.mk (blk_below (lK BK267.out) hb); have n1_ := Aside0.mk (below_step lB hb); have n2_ := Aside0.mk (hbox); have n3_ := lG w hg; have n4_ := lG w hg; have n5_ := Aside0.mk ((by rw [hg]; exact Nat.ne_of_lt (blk_lt (lK BK267.out)) : gb267 ≠ gb268)); have n6_ := Aside0.mk ((by rw [hg]; exact Nat.ne_of_gt (blk_lt (lK BK267.out)) : gb268 ≠ gb267)); clear BK267; clear HB; have BK267 := n0_; have HB := n1_; have BK268 := n2_; have GW268 := n3_; have GE268 := n4_; have NB267_268 := n5_; have NB268_267 := n6_; clear n0_ n1_ n2_ n3_ n4_ n5_ n6_; clear hb hbox hg; have hnb14 := NB267_268.out; have hnc14 := NB268_267.out; obtain ⟨hcz15_0, hfz15_0, hcz15_1, hfz15_1, hcz15_2, hfz15_2, hcz15_3, hfz15_3⟩ := bk4 BK267.out) | ((with_reducible refine gate_callee (f := 14) rfl ?_); refine gl_ (some 14) (Try.func14) #[.agg #[.slice A0_0 l0_0.length c0_0, .slice A0_1 l0_1.length c0_1, .slice A0_2 l0_2.length c0_2, .int .i64 a0_3], .int .i64 1048576] ?_; (with_reducible refine (laws_szHeap.calls k _ _ l0_0 _ _ l0_1 _ _ l0_2 a0_3 1048576 t269 _ ?side1 ?side2 ?side3 ?side4 ?side5 ?side6 A3.out).mono ?_); (case side1 => exact lC (Kd.C_below HR0_0.out HB.out)); (case side2 => exact HC0_0.out); (case side3 => exact lC (Kd.C_below HR0_1.out HB.out)); (case side4 => exact HC0_1.out); (case side5 => exact lC (Kd.C_below HR0_2.out HB.out)); (case side6 => exact HC0_2.out); rintro e w16 ⟨rfl, hb⟩; refine ⟨_, rfl, ?_⟩; have n0_ := Aside0.mk (blk_below (lK BK267.out) hb); have n1_ := Aside0.mk (blk_below (lK BK268.out) hb); have n2_ := Aside0.mk (below_step lB hb); clear BK267; clear BK268; clear HB; have BK267 := n0_; have BK268 := n1_; have HB := n2_; clear n0_ n1_ n2_; (try clear hb); (try clear hb2); (try clear hk); (try clear hi); obtain ⟨hcz17_0, hfz17_0, hcz17_1, hfz17_1, hcz17_2, hfz17_2, hcz17_3, hfz17_3⟩ := bk4 BK268.out) | ((with_reducible refine gate_callee (f := 14) rfl ?_); refine gl_ (some 19) (Try.func14) #[.agg #[.slice A1_0 l1_0.length c1_0, .slice A1_1 l1_1.length c1_1, .slice A1_2 l1_2.length c1_2, .int .i64 a1_3], .int .i64 t269] ?_; (with_reducible refine (laws_szHeap.calls k _ _ l1_0 _ _ l1_1 _ _ l1_2 a1_3 t269 t270 _ ?side1 ?side2 ?side3 ?side4 ?side5 ?side6 A10.out).mono ?_); (case side1 => exact lC (Kd.C_below HR1_0.out HB.out)); (case side2 => exact HC1_0.out); (case side3 => exact lC (Kd.C_below HR1_1.out HB.out)); (case side4 => exact HC1_1.out); (case side5 => exact lC (Kd.C_below HR1_2.out HB.out)); (case side6 => exact HC1_2.out); rintro e w18 ⟨rfl, hb⟩; refine ⟨_, rfl, ?_⟩; have n0_ := Aside0.mk (blk_below (lK BK267.out) hb); have n1_ := Aside0.mk (blk_below (lK BK268.out) hb); have n2_ := Aside0.mk (below_step lB hb); clear BK267; clear BK268; clear HB; have BK267 := n0_; have BK268 := n1_; have HB := n2_; clear n0_ n1_ n2_; (try clear hb); (try clear hb2); (try clear hk); (try clear hi)))
   go_ret
   exact ⟨lE, lB⟩
  ·rw [if_neg c11] at H
   have c11b0 : decide (t270 < 0) = false := decide_eq_false c11
   clear c11
   replace H := Option.bind_eq_some_iff.mp H
   obtain ⟨⟨t271, t274, t277, t280⟩, A190, H⟩ := H
   replace H : ((laws_toHeap.f k l1_0 l1_1 l1_2 a1_3).bind fun bt281 => ((spec_SameShape.f k t271 t274 t277 t280 bt281.1 bt281.2.1 bt281.2.2.1 bt281.2.2.2).bind fun bt291 => ((laws_toHeap.f k l0_0 l0_1 l0_2 a0_3).bind fun bt293 => ((laws_toHeap.f k l1_0 l1_1 l1_2 a1_3).bind fun bt304 => ((impl_SameShape.f k bt293.1 bt293.2.1 bt293.2.2.1 bt293.2.2.2 bt304.1 bt304.2.1 bt304.2.2.1 bt304.2.2.2).bind fun bt315 => (if (bt315.1 != bt291.1) = true then (laws_FnExactSameShape.j0 k true l0_0 l0_1 l0_2 a0_3 l1_0 l1_1 l1_2 a1_3 bt293.1 bt293.2.1 bt293.2.2.1 bt293.2.2.2 bt304.1 bt304.2.1 bt304.2.2.1 bt304.2.2.2) else (laws_FnExactSameShape.j0 k (bt315.2 != bt291.2) l0_0 l0_1 l0_2 a0_3 l1_0 l1_1 l1_2 a1_3 bt293.1 bt293.2.1 bt293.2.2.1 bt293.2.2.2 bt304.1 bt304.2.1 bt304.2.2.1 bt304.2.2.2))))))) = some r := H
   have A19 := Aside0.mk A190
   clear A190
   replace H := Option.bind_eq_some_iff.mp H
   obtain ⟨⟨t281, t284, t287, t290⟩, A200, H⟩ := H
   replace H : ((spec_SameShape.f k t271 t274 t277 t280 t281 t284 t287 t290).bind fun bt291 => ((laws_toHeap.f k l0_0 l0_1 l0_2 a0_3).bind fun bt293 => ((laws_toHeap.f k l1_0 l1_1 l1_2 a1_3).bind fun bt304 => ((impl_SameShape.f k bt293.1 bt293.2.1 bt293.2.2.1 bt293.2.2.2 bt304.1 bt304.2.1 bt304.2.2.1 bt304.2.2.2).bind fun bt315 => (if (bt315.1 != bt291.1) = true then (laws_FnExactSameShape.j0 k true l0_0 l0_1 l0_2 a0_3 l1_0 l1_1 l1_2 a1_3 bt293.1 bt293.2.1 bt293.2.2.1 bt293.2.2.2 bt304.1 bt304.2.1 bt304.2.2.1 bt304.2.2.2) else (laws_FnExactSameShape.j0 k (bt315.2 != bt291.2) l0_0 l0_1 l0_2 a0_3 l1_0 l1_1 l1_2 a1_3 bt293.1 bt293.2.1 bt293.2.2.1 bt293.2.2.2 bt304.1 bt304.2.1 bt304.2.2.1 bt304.2.2.2)))))) = some r := H
   have A20 := Aside0.mk A200
   clear A200
   replace H := Option.bind_eq_some_iff.mp H
   obtain ⟨⟨t291, t292⟩, A210, H⟩ := H
   replace H : ((laws_toHeap.f k l0_0 l0_1 l0_2 a0_3).bind fun bt293 => ((laws_toHeap.f k l1_0 l1_1 l1_2 a1_3).bind fun bt304 => ((impl_SameShape.f k bt293.1 bt293.2.1 bt293.2.2.1 bt293.2.2.2 bt304.1 bt304.2.1 bt304.2.2.1 bt304.2.2.2).bind fun bt315 => (if (bt315.1 != t291) = true then (laws_FnExactSameShape.j0 k true l0_0 l0_1 l0_2 a0_3 l1_0 l1_1 l1_2 a1_3 bt293.1 bt293.2.1 bt293.2.2.1 bt293.2.2.2 bt304.1 bt304.2.1 bt304.2.2.1 bt304.2.2.2) else (laws_FnExactSameShape.j0 k (bt315.2 != t292) l0_0 l0_1 l0_2 a0_3 l1_0 l1_1 l1_2 a1_3 bt293.1 bt293.2.1 bt293.2.2.1 bt293.2.2.2 bt304.1 bt304.2.1 bt304.2.2.1 bt304.2.2.2))))) = some r := H
   have A21 := Aside0.mk A210
   clear A210
   replace H := Option.bind_eq_some_iff.mp H
   obtain ⟨⟨t293, t296, t299, t302⟩, A220, H⟩ := H
   replace H : ((laws_toHeap.f k l1_0 l1_1 l1_2 a1_3).bind fun bt304 => ((impl_SameShape.f k t293 t296 t299 t302 bt304.1 bt304.2.1 bt304.2.2.1 bt304.2.2.2).bind fun bt315 => (if (bt315.1 != t291) = true then (laws_FnExactSameShape.j0 k true l0_0 l0_1 l0_2 a0_3 l1_0 l1_1 l1_2 a1_3 t293 t296 t299 t302 bt304.1 bt304.2.1 bt304.2.2.1 bt304.2.2.2) else (laws_FnExactSameShape.j0 k (bt315.2 != t292) l0_0 l0_1 l0_2 a0_3 l1_0 l1_1 l1_2 a1_3 t293 t296 t299 t302 bt304.1 bt304.2.1 bt304.2.2.1 bt304.2.2.2)))) = some r := H
   have A22 := Aside0.mk A220
   clear A220
   replace H := Option.bind_eq_some_iff.mp H
   obtain ⟨⟨t304, t307, t310, t313⟩, A230, H⟩ := H
   replace H : ((impl_SameShape.f k t293 t296 t299 t302 t304 t307 t310 t313).bind fun bt315 => (if (bt315.1 != t291) = true then (laws_FnExactSameShape.j0 k true l0_0 l0_1 l0_2 a0_3 l1_0 l1_1 l1_2 a1_3 t293 t296 t299 t302 t304 t307 t310 t313) else (laws_FnExactSameShape.j0 k (bt315.2 != t292) l0_0 l0_1 l0_2 a0_3 l1_0 l1_1 l1_2 a1_3 t293 t296 t299 t302 t304 t307 t310 t313))) = some r := H
   have A23 := Aside0.mk A230
   clear A230
   replace H := Option.bind_eq_some_iff.mp H
   obtain ⟨⟨t315, t316⟩, A240, H⟩ := H
   replace H : (if (t315 != t291) = true then (laws_FnExactSameShape.j0 k true l0_0 l0_1 l0_2 a0_3 l1_0 l1_1 l1_2 a1_3 t293 t296 t299 t302 t304 t307 t310 t313) else (laws_FnExactSameShape.j0 k (t316 != t292) l0_0 l0_1 l0_2 a0_3 l1_0 l1_1 l1_2 a1_3 t293 t296 t299 t302 t304 t307 t310 t313)) = some r := H
   have A24 := Aside0.mk A240
   clear A240
   have HC25 := Aside0.mk H
   clear H
   go_enter Try.func6, Try.ntmps6
   try go_wp2_with (first | ((with_reducible refine gate_dst (N := 2) rfl ?_); refine bxe 2 #[.slice A0_0 l0_0.length c0_0, .slice A0_1 l0_1.length c0_1, .slice A0_2 l0_2.length c0_2, .int .i64 a0_3] 32 ?_; intro gb267 hg w26 hbox hb; have n0_ := Aside0.mk (below_step lB hb); have n1_ := Aside0.mk (hbox); have n2_ := lG w hg; have n3_ := lG w hg; clear HB; have HB := n0_; have BK267 := n1_; have GW267 := n2_; have GE267 := n3_; clear n0_ n1_ n2_ n3_; clear hb hbox hg) | ((with_reducible refine gate_dst (N := 3) rfl ?_); refine bxe 3 #[.slice A1_0 l1_0.length c1_0, .slice A1_1 l1_1.length c1_1, .slice A1_2 l1_2.length c1_2, .int .i64 a1_3] 32 ?_; intro gb268 hg w27 hbox hb; have n0_ := Aside0.mk (blk_below (lK BK267.out) hb); have n1_ := Aside0.mk (below_step lB hb); have n2_ := Aside0.mk (hbox); have n3_ := lG w hg; have n4_ := lG w hg; have n5_ := Aside0.mk ((by rw [hg]; exact Nat.ne_of_lt (blk_lt (lK BK267.out)) : gb267 ≠ gb268)); have n6_ := Aside0.mk ((by rw [hg]; exact Nat.ne_of_gt (blk_lt (lK BK267.out)) : gb268 ≠ gb267)); clear BK267; clear HB; have BK267 := n0_; have HB := n1_; have BK268 := n2_; have GW268 := n3_; have GE268 := n4_; have NB267_268 := n5_; have NB268_267 := n6_; clear n0_ n1_ n2_ n3_ n4_ n5_ n6_; clear hb hbox hg; have hnb28 := NB267_268.out; have hnc28 := NB268_267.out; obtain ⟨hcz29_0, hfz29_0, hcz29_1, hfz29_1, hcz29_2, hfz29_2, hcz29_3, hfz29_3⟩ := bk4 BK267.out) | ((with_reducible refine gate_callee (f := 14) rfl ?_); refine gl_ (some 14) (Try.func14) #[.agg #[.slice A0_0 l0_0.length c0_0, .slice A0_1 l0_1.length c0_1, .slice A0_2 l0_2.length c0_2, .int .i64 a0_3], .int .i64 1048576] ?_; (with_reducible refine (laws_szHeap.calls k _ _ l0_0 _ _ l0_1 _ _ l0_2 a0_3 1048576 t269 _ ?side1 ?side2 ?side3 ?side4 ?side5 ?side6 A3.out).mono ?_); (case side1 => exact lC (Kd.C_below HR0_0.out HB.out)); (case side2 => exact HC0_0.out); (case side3 => exact lC (Kd.C_below HR0_1.out HB.out)); (case side4 => exact HC0_1.out); (case side5 => exact lC (Kd.C_below HR0_2.out HB.out)); (case side6 => exact HC0_2.out); rintro e w30 ⟨rfl, hb⟩; refine ⟨_, rfl, ?_⟩; have n0_ := Aside0.mk (blk_below (lK BK267.out) hb); have n1_ := Aside0.mk (blk_below (lK BK268.out) hb); have n2_ := Aside0.mk (below_step lB hb); clear BK267; clear BK268; clear HB; have BK267 := n0_; have BK268 := n1_; have HB := n2_; clear n0_ n1_ n2_; (try clear hb); (try clear hb2); (try clear hk); (try clear hi); obtain ⟨hcz31_0, hfz31_0, hcz31_1, hfz31_1, hcz31_2, hfz31_2, hcz31_3, hfz31_3⟩ := bk4 BK268.out) | ((with_reducible refine gate_callee (f := 14) rfl ?_); refine gl_ (some 19) (Try.func14) #[.agg #[.slice A1_0 l1_0.length c1_0, .slice A1_1 l1_1.length c1_1, .slice A1_2 l1_2.length c1_2, .int .i64 a1_3], .int .i64 t269] ?_; (with_reducible refine (laws_szHeap.calls k _ _ l1_0 _ _ l1_1 _ _ l1_2 a1_3 t269 t270 _ ?side1 ?side2 ?side3 ?side4 ?side5 ?side6 A10.out).mono ?_); (case side1 => exact lC (Kd.C_below HR1_0.out HB.out)); (case side2 => exact HC1_0.out); (case side3 => exact lC (Kd.C_below HR1_1.out HB.out)); (case side4 => exact HC1_1.out); (case side5 => exact lC (Kd.C_below HR1_2.out HB.out)); (case side6 => exact HC1_2.out); rintro e w32 ⟨rfl, hb⟩; refine ⟨_, rfl, ?_⟩; have n0_ := Aside0.mk (blk_below (lK BK267.out) hb); have n1_ := Aside0.mk (blk_below (lK BK268.out) hb); have n2_ := Aside0.mk (below_step lB hb); clear BK267; clear BK268; clear HB; have BK267 := n0_; have BK268 := n1_; have HB := n2_; clear n0_ n1_ n2_; (try clear hb); (try clear hb2); (try clear hk); (try clear hi)))
   have n0_ := Aside0.mk (blk_drew BK267.out)
   have n1_ := Aside0.mk (blk_drew BK268.out)
   have n2_ := Aside0.mk (below_drew1 HB.out)
   clear BK267
   clear BK268
   clear HB
   have BK267 := n0_
   have BK268 := n1_
   have HB := n2_
   clear n0_ n1_ n2_
   refine start_ (n := 10) (S := fun w' => w'.cell? ⟨gb267, 0, none⟩ = some (.slice A0_0 l0_0.length c0_0) ∧ w'.cell? ⟨gb267, 1, none⟩ = some (.slice A0_1 l0_1.length c0_1) ∧ w'.cell? ⟨gb267, 2, none⟩ = some (.slice A0_2 l0_2.length c0_2) ∧ w'.cell? ⟨gb267, 3, none⟩ = some (.int .i64 a0_3) ∧ w'.cell? ⟨gb268, 0, none⟩ = some (.slice A1_0 l1_0.length c1_0) ∧ w'.cell? ⟨gb268, 1, none⟩ = some (.slice A1_1 l1_1.length c1_1) ∧ w'.cell? ⟨gb268, 2, none⟩ = some (.slice A1_2 l1_2.length c1_2) ∧ w'.cell? ⟨gb268, 3, none⟩ = some (.int .i64 a1_3)) (ds := []) (bs 10 0) kR rfl kR ⟨bZ BK267.out 0, bZ BK267.out 1, bZ BK267.out 2, bZ BK267.out 3, bZ BK268.out 0, bZ BK268.out 1, bZ BK268.out 2, bZ BK268.out 3⟩ (fun hHeld => ?_); refine with_tabW laws_FnExactSameShape.tab8 laws_FnExactSameShape.bits8 (fun HT_ HW_ => ?_)
   generalize w32.drew = w33 at BK267 BK268 HB hHeld ⊢
   refine tak_ 0 23 (bs 10 1) (take_ofW HT_.out HW_.out kR) hHeld ?_
   refine tak_ 2 25 (bs 10 5) (take_ofW HT_.out HW_.out kR) hHeld ?_
   refine one_ (i := 1) (N := some 24) (bs 10 7) rfl rfl (one_of HT_.out (by kernel_rfl)) (by decide) (fun K hK => ?_)
   refine goes_ Try.func16 (by kernel_rfl) rfl #[.agg #[.slice A0_0 l0_0.length c0_0, .slice A0_1 l0_1.length c0_1, .slice A0_2 l0_2.length c0_2, .int .i64 a0_3]] (by rfl) rfl rfl (by (try simp only [List.map_toArray, List.map_cons, List.map_nil]); first | done | rfl | (simp only [List.length_drop, List.length_take]; rfl)) ?_
   with_reducible refine (laws_toHeap.calls k _ _ l0_0 _ _ l0_1 _ _ l0_2 a0_3 t271 t274 t277 t280 _ ?side1 ?side2 ?side3 ?side4 ?side5 ?side6 A19.out).mono ?_
   (case side1 => exact lC (Kd.C_below HR0_0.out HB.out))
   (case side2 => exact HC0_0.out)
   (case side3 => exact lC (Kd.C_below HR0_1.out HB.out))
   (case side4 => exact HC0_1.out)
   (case side5 => exact lC (Kd.C_below HR0_2.out HB.out))
   (case side6 => exact HC0_2.out)
   rintro e w34 ⟨v272, v275, v278, rfl, ho0, ho1, ho2, hb⟩
   refine ⟨_, rfl, ?_⟩
   have n0_ := Aside0.mk (Kd.S_lower ho0 (below_size lB))
   have n1_ := Aside0.mk (Kd.R_lower ho1 (below_size lB))
   have n2_ := Aside0.mk (Kd.R_lower ho2 (below_size lB))
   have n3_ := Aside0.mk (blk_below (lK BK267.out) hb)
   have n4_ := Aside0.mk (blk_below (lK BK268.out) hb)
   have n5_ := Aside0.mk (below_step lB hb)
   clear BK267
   clear BK268
   clear HB
   have HO273 := n0_
   have HO276 := n1_
   have HO279 := n2_
   have BK267 := n3_
   have BK268 := n4_
   have HB := n5_
   clear n0_ n1_ n2_ n3_ n4_ n5_
   (try clear hb)
   (try clear hb2)
   (try clear hk)
   (try clear hi)
   (try clear ho0)
   (try clear ho1)
   (try clear ho2)
   refine hK.out _ _ ⟨bZ BK267.out 0, bZ BK267.out 1, bZ BK267.out 2, bZ BK267.out 3, bZ BK268.out 0, bZ BK268.out 1, bZ BK268.out 2, bZ BK268.out 3⟩ (fun hHeld => ?_)
   clear hK K
   refine norm_ (a' := ?_) ?_ ?_
   rotate_left
   ·show Act.put _ (some 24) _ = _
    simp only [Act.put, List.setIfInBounds_toArray, List.set_cons_zero, List.set_cons_succ, i64_w, i32_w]
    rfl
   refine one_ (i := 3) (N := some 26) (bs 10 15) rfl rfl (one_of HT_.out (by kernel_rfl)) (by decide) (fun K hK => ?_)
   refine goes_ Try.func16 (by kernel_rfl) rfl #[.agg #[.slice A1_0 l1_0.length c1_0, .slice A1_1 l1_1.length c1_1, .slice A1_2 l1_2.length c1_2, .int .i64 a1_3]] (by rfl) rfl rfl (by (try simp only [List.map_toArray, List.map_cons, List.map_nil]); first | done | rfl | (simp only [List.length_drop, List.length_take]; rfl)) ?_
   with_reducible refine (laws_toHeap.calls k _ _ l1_0 _ _ l1_1 _ _ l1_2 a1_3 t281 t284 t287 t290 _ ?side1 ?side2 ?side3 ?side4 ?side5 ?side6 A20.out).mono ?_
   (case side1 => exact lC (Kd.C_below HR1_0.out HB.out))
   (case side2 => exact HC1_0.out)
   (case side3 => exact lC (Kd.C_below HR1_1.out HB.out))
   (case side4 => exact HC1_1.out)
   (case side5 => exact lC (Kd.C_below HR1_2.out HB.out))
   (case side6 => exact HC1_2.out)
   rintro e w35 ⟨v282, v285, v288, rfl, ho0, ho1, ho2, hb⟩
   refine ⟨_, rfl, ?_⟩
   have n0_ := Aside0.mk (Kd.S_mono (Kd.S_told (Kd.S_told (Kd.S_told (Kd.S_old (lS HO273.out) hb) (Kd.S_base ho0)) (Kd.R_base ho1)) (Kd.R_base ho2)) (fun _ h_ => h_.1))
   have n1_ := Aside0.mk (Kd.R_mono (Kd.R_told (Kd.R_told (Kd.R_old (lR HO276.out) hb) (Kd.R_base ho1)) (Kd.R_base ho2)) (fun _ h_ => h_.1))
   have n2_ := Aside0.mk (Kd.R_mono (Kd.R_told (Kd.R_told (Kd.R_old (lR HO279.out) hb) (Kd.R_base ho1)) (Kd.R_base ho2)) (fun _ h_ => h_.1))
   have n3_ := Aside0.mk (Kd.S_lower (Kd.S_new' (Kd.S_new' (Kd.S_new' ho0 (Kd.S_lt (lS HO273.out))) (Kd.R_lt (lR HO276.out))) (Kd.R_lt (lR HO279.out))) (below_size lB))
   have n4_ := Aside0.mk (Kd.R_lower (Kd.R_new' (Kd.R_new' ho1 (Kd.R_lt (lR HO276.out))) (Kd.R_lt (lR HO279.out))) (below_size lB))
   have n5_ := Aside0.mk (Kd.R_lower (Kd.R_new' (Kd.R_new' ho2 (Kd.R_lt (lR HO276.out))) (Kd.R_lt (lR HO279.out))) (below_size lB))
   have n6_ := Aside0.mk (blk_below (lK BK267.out) hb)
   have n7_ := Aside0.mk (blk_below (lK BK268.out) hb)
   have n8_ := Aside0.mk (below_step lB hb)
   clear HO273
   clear HO276
   clear HO279
   clear BK267
   clear BK268
   clear HB
   have HO273 := n0_
   have HO276 := n1_
   have HO279 := n2_
   have HO283 := n3_
   have HO286 := n4_
   have HO289 := n5_
   have BK267 := n6_
   have BK268 := n7_
   have HB := n8_
   clear n0_ n1_ n2_ n3_ n4_ n5_ n6_ n7_ n8_
   (try clear hb)
   (try clear hb2)
   (try clear hk)
   (try clear hi)
   (try clear ho0)
   (try clear ho1)
   (try clear ho2)
   obtain ⟨Ao36, co36, eo36⟩ := Kd.S_slice HO273.out
   (first | subst eo36 | (injection eo36 with f1_ f2_ f3_; have f4_ := f1_.symm; have f5_ := f3_.symm; clear f1_ f2_ f3_; subst f4_; subst f5_))
   obtain ⟨Ao37, co37, eo37⟩ := Kd.R_slice HO276.out
   (first | subst eo37 | (injection eo37 with f1_ f2_ f3_; have f4_ := f1_.symm; have f5_ := f3_.symm; clear f1_ f2_ f3_; subst f4_; subst f5_))
   obtain ⟨Ao38, co38, eo38⟩ := Kd.R_slice HO279.out
   (first | subst eo38 | (injection eo38 with f1_ f2_ f3_; have f4_ := f1_.symm; have f5_ := f3_.symm; clear f1_ f2_ f3_; subst f4_; subst f5_))
   obtain ⟨Ao39, co39, eo39⟩ := Kd.S_slice HO283.out
   (first | subst eo39 | (injection eo39 with f1_ f2_ f3_; have f4_ := f1_.symm; have f5_ := f3_.symm; clear f1_ f2_ f3_; subst f4_; subst f5_))
   obtain ⟨Ao40, co40, eo40⟩ := Kd.R_slice HO286.out
   (first | subst eo40 | (injection eo40 with f1_ f2_ f3_; have f4_ := f1_.symm; have f5_ := f3_.symm; clear f1_ f2_ f3_; subst f4_; subst f5_))
   obtain ⟨Ao41, co41, eo41⟩ := Kd.R_slice HO289.out
   (first | subst eo41 | (injection eo41 with f1_ f2_ f3_; have f4_ := f1_.symm; have f5_ := f3_.symm; clear f1_ f2_ f3_; subst f4_; subst f5_))
   refine hK.out _ _ ⟨bZ BK267.out 0, bZ BK267.out 1, bZ BK267.out 2, bZ BK267.out 3, bZ BK268.out 0, bZ BK268.out 1, bZ BK268.out 2, bZ BK268.out 3⟩ (fun hHeld => ?_)
   clear hK K
   refine norm_ (a' := ?_) ?_ ?_
   rotate_left
   ·show Act.put _ (some 26) _ = _
    simp only [Act.put, List.setIfInBounds_toArray, List.set_cons_zero, List.set_cons_succ, i64_w, i32_w]
    rfl
   refine one_ (i := 4) (N := some 27) (bs 10 31) rfl rfl (one_of HT_.out (by kernel_rfl)) (by decide) (fun K hK => ?_)
   refine goes_ Try.func23 (by kernel_rfl) rfl #[.agg #[.slice Ao36 t271.length co36, .slice Ao37 t274.length co37, .slice Ao38 t277.length co38, .int .i64 t280], .agg #[.slice Ao39 t281.length co39, .slice Ao40 t284.length co40, .slice Ao41 t287.length co41, .int .i64 t290]] (by rfl) rfl rfl (by (try simp only [List.map_toArray, List.map_cons, List.map_nil]); first | done | rfl | (simp only [List.length_drop, List.length_take]; rfl)) ?_
   with_reducible refine (spec_SameShape.calls k _ _ t271 _ _ t274 _ _ t277 t280 _ _ t281 _ _ t284 _ _ t287 t290 t291 t292 _ ?side1 ?side2 ?side3 ?side4 ?side5 ?side6 ?side7 ?side8 ?side9 ?side10 ?side11 ?side12 A21.out).mono ?_
   (case side1 => repeat (first | exact (Kd.S_reads' HO273.out).2.2 | (with_reducible refine Kd.C_alloc ?_ _) | (with_reducible refine Kd.C_drewN ?_ _) | (with_reducible refine Kd.C_drew ?_)))
   (case side2 => exact (Kd.S_reads' HO273.out).2.1)
   (case side3 => repeat (first | exact (Kd.R_reads' HO276.out).2.2 | (with_reducible refine Kd.C_alloc ?_ _) | (with_reducible refine Kd.C_drewN ?_ _) | (with_reducible refine Kd.C_drew ?_)))
   (case side4 => exact (Kd.R_reads' HO276.out).2.1)
   (case side5 => repeat (first | exact (Kd.R_reads' HO279.out).2.2 | (with_reducible refine Kd.C_alloc ?_ _) | (with_reducible refine Kd.C_drewN ?_ _) | (with_reducible refine Kd.C_drew ?_)))
   (case side6 => exact (Kd.R_reads' HO279.out).2.1)
   (case side7 => repeat (first | exact (Kd.S_reads' HO283.out).2.2 | (with_reducible refine Kd.C_alloc ?_ _) | (with_reducible refine Kd.C_drewN ?_ _) | (with_reducible refine Kd.C_drew ?_)))
   (case side8 => exact (Kd.S_reads' HO283.out).2.1)
   (case side9 => repeat (first | exact (Kd.R_reads' HO286.out).2.2 | (with_reducible refine Kd.C_alloc ?_ _) | (with_reducible refine Kd.C_drewN ?_ _) | (with_reducible refine Kd.C_drew ?_)))
   (case side10 => exact (Kd.R_reads' HO286.out).2.1)
   (case side11 => repeat (first | exact (Kd.R_reads' HO289.out).2.2 | (with_reducible refine Kd.C_alloc ?_ _) | (with_reducible refine Kd.C_drewN ?_ _) | (with_reducible refine Kd.C_drew ?_)))
   (case side12 => exact (Kd.R_reads' HO289.out).2.1)
   rintro e w42 ⟨rfl, hb⟩
   refine ⟨_, rfl, ?_⟩
   have n0_ := Aside0.mk (Kd.S_below (lS HO273.out) hb)
   have n1_ := Aside0.mk (Kd.R_below (lR HO276.out) hb)
   have n2_ := Aside0.mk (Kd.R_below (lR HO279.out) hb)
   have n3_ := Aside0.mk (Kd.S_below (lS HO283.out) hb)
   have n4_ := Aside0.mk (Kd.R_below (lR HO286.out) hb)
   have n5_ := Aside0.mk (Kd.R_below (lR HO289.out) hb)
   have n6_ := Aside0.mk (blk_below (lK BK267.out) hb)
   have n7_ := Aside0.mk (blk_below (lK BK268.out) hb)
   have n8_ := Aside0.mk (below_step lB hb)
   clear HO273
   clear HO276
   clear HO279
   clear HO283
   clear HO286
   clear HO289
   clear BK267
   clear BK268
   clear HB
   have HO273 := n0_
   have HO276 := n1_
   have HO279 := n2_
   have HO283 := n3_
   have HO286 := n4_
   have HO289 := n5_
   have BK267 := n6_
   have BK268 := n7_
   have HB := n8_
   clear n0_ n1_ n2_ n3_ n4_ n5_ n6_ n7_ n8_
   (try clear hb)
   (try clear hb2)
   (try clear hk)
   (try clear hi)
   refine hK.out _ _ ⟨bZ BK267.out 0, bZ BK267.out 1, bZ BK267.out 2, bZ BK267.out 3, bZ BK268.out 0, bZ BK268.out 1, bZ BK268.out 2, bZ BK268.out 3⟩ (fun hHeld => ?_)
   clear hK K
   refine norm_ (a' := ?_) ?_ ?_
   rotate_left
   ·show Act.put _ (some 27) _ = _
    simp only [Act.put, List.setIfInBounds_toArray, List.set_cons_zero, List.set_cons_succ, i64_w, i32_w]
    rfl
   refine pur_ 5 22 (bs 10 63) (any_of HT_.out kR) ?_
   refine pur_ 6 28 (bs 10 127) (any_of HT_.out kR) ?_
   refine pur_ 7 29 (bs 10 255) (any_of HT_.out kR) ?_
   refine pur_ 8 6 (bs 10 511) (any_of HT_.out kR) ?_
   refine pur_ 9 7 (bs 10 1023) (any_of HT_.out kR) ?_
   refine done_ (done_of HT_.out (by kernel_rfl)) ?_
   obtain ⟨hcz43_0, hfz43_0, hcz43_1, hfz43_1, hcz43_2, hfz43_2, hcz43_3, hfz43_3⟩ := bk4 BK267.out
   go_upto_region 12 with (first | ((with_reducible refine gate_callee (f := 16) rfl ?_); refine gl_ (some 31) (Try.func16) #[.agg #[.slice A0_0 l0_0.length c0_0, .slice A0_1 l0_1.length c0_1, .slice A0_2 l0_2.length c0_2, .int .i64 a0_3]] ?_; (with_reducible refine (laws_toHeap.calls k _ _ l0_0 _ _ l0_1 _ _ l0_2 a0_3 t293 t296 t299 t302 _ ?side1 ?side2 ?side3 ?side4 ?side5 ?side6 A22.out).mono ?_); (case side1 => exact lC (Kd.C_below HR0_0.out HB.out)); (case side2 => exact HC0_0.out); (case side3 => exact lC (Kd.C_below HR0_1.out HB.out)); (case side4 => exact HC0_1.out); (case side5 => exact lC (Kd.C_below HR0_2.out HB.out)); (case side6 => exact HC0_2.out); rintro e w44 ⟨v294, v297, v300, rfl, ho0, ho1, ho2, hb⟩; refine ⟨_, rfl, ?_⟩; have n0_ := Aside0.mk (Kd.S_mono (Kd.S_told (Kd.S_told (Kd.S_told (Kd.S_old (lS HO273.out) hb) (Kd.S_base ho0)) (Kd.R_base ho1)) (Kd.R_base ho2)) (fun _ h_ => h_.1)); have n1_ := Aside0.mk (Kd.R_mono (Kd.R_told (Kd.R_told (Kd.R_old (lR HO276.out) hb) (Kd.R_base ho1)) (Kd.R_base ho2)) (fun _ h_ => h_.1)); have n2_ := Aside0.mk (Kd.R_mono (Kd.R_told (Kd.R_told (Kd.R_old (lR HO279.out) hb) (Kd.R_base ho1)) (Kd.R_base ho2)) (fun _ h_ => h_.1)); have n3_ := Aside0.mk (Kd.S_mono (Kd.S_told (Kd.S_told (Kd.S_told (Kd.S_old (lS HO283.out) hb) (Kd.S_base ho0)) (Kd.R_base ho1)) (Kd.R_base ho2)) (fun _ h_ => h_.1)); have n4_ := Aside0.mk (Kd.R_mono (Kd.R_told (Kd.R_told (Kd.R_old (lR HO286.out) hb) (Kd.R_base ho1)) (Kd.R_base ho2)) (fun _ h_ => h_.1)); have n5_ := Aside0.mk (Kd.R_mono (Kd.R_told (Kd.R_told (Kd.R_old (lR HO289.out) hb) (Kd.R_base ho1)) (Kd.R_base ho2)) (fun _ h_ => h_.1)); have n6_ := Aside0.mk (Kd.S_lower (Kd.S_new' (Kd.S_new' (Kd.S_new' (Kd.S_new' (Kd.S_new' (Kd.S_new' ho0 (Kd.S_lt (lS HO273.out))) (Kd.R_lt (lR HO276.out))) (Kd.R_lt (lR HO279.out))) (Kd.S_lt (lS HO283.out))) (Kd.R_lt (lR HO286.out))) (Kd.R_lt (lR HO289.out))) (below_size lB)); have n7_ := Aside0.mk (Kd.R_lower (Kd.R_new' (Kd.R_new' (Kd.R_new' (Kd.R_new' ho1 (Kd.R_lt (lR HO276.out))) (Kd.R_lt (lR HO279.out))) (Kd.R_lt (lR HO286.out))) (Kd.R_lt (lR HO289.out))) (below_size lB)); have n8_ := Aside0.mk (Kd.R_lower (Kd.R_new' (Kd.R_new' (Kd.R_new' (Kd.R_new' ho2 (Kd.R_lt (lR HO276.out))) (Kd.R_lt (lR HO279.out))) (Kd.R_lt (lR HO286.out))) (Kd.R_lt (lR HO289.out))) (below_size lB)); have n9_ := Aside0.mk (blk_below (lK BK267.out) hb); have n10_ := Aside0.mk (blk_below (lK BK268.out) hb); have n11_ := Aside0.mk (below_step lB hb); clear HO273; clear HO276; clear HO279; clear HO283; clear HO286; clear HO289; clear BK267; clear BK268; clear HB; have HO273 := n0_; have HO276 := n1_; have HO279 := n2_; have HO283 := n3_; have HO286 := n4_; have HO289 := n5_; have HO295 := n6_; have HO298 := n7_; have HO301 := n8_; have BK267 := n9_; have BK268 := n10_; have HB := n11_; clear n0_ n1_ n2_ n3_ n4_ n5_ n6_ n7_ n8_ n9_ n10_ n11_; (try clear hb); (try clear hb2); (try clear hk); (try clear hi); (try clear ho0); (try clear ho1); (try clear ho2)) | ((with_reducible refine gate_dst (N := 8) rfl ?_); refine bxe 8 #[.slice none 0 0, .slice none 0 0, .slice none 0 0, .int .i64 0] 25 ?_; intro gb303 hg w45 hbox hb; have n0_ := Aside0.mk (Kd.S_below (lS HO273.out) hb); have n1_ := Aside0.mk (Kd.R_below (lR HO276.out) hb); have n2_ := Aside0.mk (Kd.R_below (lR HO279.out) hb); have n3_ := Aside0.mk (Kd.S_below (lS HO283.out) hb); have n4_ := Aside0.mk (Kd.R_below (lR HO286.out) hb); have n5_ := Aside0.mk (Kd.R_below (lR HO289.out) hb); have n6_ := Aside0.mk (Kd.S_below (lS HO295.out) hb); have n7_ := Aside0.mk (Kd.R_below (lR HO298.out) hb); have n8_ := Aside0.mk (Kd.R_below (lR HO301.out) hb); have n9_ := Aside0.mk (blk_below (lK BK267.out) hb); have n10_ := Aside0.mk (blk_below (lK BK268.out) hb); have n11_ := Aside0.mk (below_step lB hb); have n12_ := Aside0.mk (hbox); have n13_ := lG w hg; have n14_ := lG w hg; have n15_ := Aside0.mk ((by rw [hg]; exact Nat.ne_of_lt (blk_lt (lK BK267.out)) : gb267 ≠ gb303)); have n16_ := Aside0.mk ((by rw [hg]; exact Nat.ne_of_gt (blk_lt (lK BK267.out)) : gb303 ≠ gb267)); have n17_ := Aside0.mk ((by rw [hg]; exact Nat.ne_of_lt (blk_lt (lK BK268.out)) : gb268 ≠ gb303)); have n18_ := Aside0.mk ((by rw [hg]; exact Nat.ne_of_gt (blk_lt (lK BK268.out)) : gb303 ≠ gb268)); clear HO273; clear HO276; clear HO279; clear HO283; clear HO286; clear HO289; clear HO295; clear HO298; clear HO301; clear BK267; clear BK268; clear HB; have HO273 := n0_; have HO276 := n1_; have HO279 := n2_; have HO283 := n3_; have HO286 := n4_; have HO289 := n5_; have HO295 := n6_; have HO298 := n7_; have HO301 := n8_; have BK267 := n9_; have BK268 := n10_; have HB := n11_; have BK303 := n12_; have GW303 := n13_; have GE303 := n14_; have NB267_303 := n15_; have NB303_267 := n16_; have NB268_303 := n17_; have NB303_268 := n18_; clear n0_ n1_ n2_ n3_ n4_ n5_ n6_ n7_ n8_ n9_ n10_ n11_ n12_ n13_ n14_ n15_ n16_ n17_ n18_; clear hb hbox hg; obtain ⟨Ao46, co46, eo46⟩ := Kd.S_slice HO295.out; subst eo46; have hnb47 := NB303_267.out; have hnc47 := NB267_303.out; have hnb48 := NB303_268.out; have hnc48 := NB268_303.out; obtain ⟨hcz49_0, hfz49_0, hcz49_1, hfz49_1, hcz49_2, hfz49_2, hcz49_3, hfz49_3⟩ := bk4 BK303.out; obtain ⟨Ao50, co50, eo50⟩ := Kd.R_slice HO298.out; subst eo50; obtain ⟨Ao51, co51, eo51⟩ := Kd.R_slice HO301.out; subst eo51; obtain ⟨hcz52_0, hfz52_0, hcz52_1, hfz52_1, hcz52_2, hfz52_2, hcz52_3, hfz52_3⟩ := bk4 BK268.out) | ((with_reducible refine gate_callee (f := 16) rfl ?_); refine gl_ (some 33) (Try.func16) #[.agg #[.slice A1_0 l1_0.length c1_0, .slice A1_1 l1_1.length c1_1, .slice A1_2 l1_2.length c1_2, .int .i64 a1_3]] ?_; (with_reducible refine (laws_toHeap.calls k _ _ l1_0 _ _ l1_1 _ _ l1_2 a1_3 t304 t307 t310 t313 _ ?side1 ?side2 ?side3 ?side4 ?side5 ?side6 A23.out).mono ?_); (case side1 => exact Kd.C_below HR1_0.out lB); (case side2 => exact HC1_0.out); (case side3 => exact Kd.C_below HR1_1.out lB); (case side4 => exact HC1_1.out); (case side5 => exact Kd.C_below HR1_2.out lB); (case side6 => exact HC1_2.out); rintro e w53 ⟨v305, v308, v311, rfl, ho0, ho1, ho2, hb⟩; refine ⟨_, rfl, ?_⟩; have n0_ := Aside0.mk (Kd.S_mono (Kd.S_told (Kd.S_told (Kd.S_told (Kd.S_old (by (with_reducible repeat (first | apply Kd.S_alloc | apply Kd.S_drewN | apply Kd.S_drew)); exact (Kd.S_mono (Kd.S_far (p := ⟨gb303, 3, none⟩) (Kd.S_far (p := ⟨gb303, 2, none⟩) (Kd.S_far (p := ⟨gb303, 1, none⟩) (Kd.S_far (p := ⟨gb303, 0, none⟩) (Kd.S_types HO273.out BK303.out (by decide)) (fun _ hk => hk.2) (.slice Ao46 t293.length co46)) (fun _ hk => hk.2) (.slice Ao50 t296.length co50)) (fun _ hk => hk.2) (.slice Ao51 t299.length co51)) (fun _ hk => hk.2) (.int .i64 t302)) (fun _ h_ => h_.1))) hb) (Kd.S_base ho0)) (Kd.R_base ho1)) (Kd.R_base ho2)) (fun _ h_ => h_.1)); have n1_ := Aside0.mk (Kd.R_mono (Kd.R_told (Kd.R_told (Kd.R_old (by (with_reducible repeat (first | apply Kd.R_alloc | apply Kd.R_drewN | apply Kd.R_drew)); exact (Kd.R_mono (Kd.R_far (p := ⟨gb303, 3, none⟩) (Kd.R_far (p := ⟨gb303, 2, none⟩) (Kd.R_far (p := ⟨gb303, 1, none⟩) (Kd.R_far (p := ⟨gb303, 0, none⟩) (Kd.R_types HO276.out BK303.out (by decide)) (fun _ hk => hk.2) (.slice Ao46 t293.length co46)) (fun _ hk => hk.2) (.slice Ao50 t296.length co50)) (fun _ hk => hk.2) (.slice Ao51 t299.length co51)) (fun _ hk => hk.2) (.int .i64 t302)) (fun _ h_ => h_.1))) hb) (Kd.R_base ho1)) (Kd.R_base ho2)) (fun _ h_ => h_.1)); have n2_ := Aside0.mk (Kd.R_mono (Kd.R_told (Kd.R_told (Kd.R_old (by (with_reducible repeat (first | apply Kd.R_alloc | apply Kd.R_drewN | apply Kd.R_drew)); exact (Kd.R_mono (Kd.R_far (p := ⟨gb303, 3, none⟩) (Kd.R_far (p := ⟨gb303, 2, none⟩) (Kd.R_far (p := ⟨gb303, 1, none⟩) (Kd.R_far (p := ⟨gb303, 0, none⟩) (Kd.R_types HO279.out BK303.out (by decide)) (fun _ hk => hk.2) (.slice Ao46 t293.length co46)) (fun _ hk => hk.2) (.slice Ao50 t296.length co50)) (fun _ hk => hk.2) (.slice Ao51 t299.length co51)) (fun _ hk => hk.2) (.int .i64 t302)) (fun _ h_ => h_.1))) hb) (Kd.R_base ho1)) (Kd.R_base ho2)) (fun _ h_ => h_.1)); have n3_ := Aside0.mk (Kd.S_mono (Kd.S_told (Kd.S_told (Kd.S_told (Kd.S_old (by (with_reducible repeat (first | apply Kd.S_alloc | apply Kd.S_drewN | apply Kd.S_drew)); exact (Kd.S_mono (Kd.S_far (p := ⟨gb303, 3, none⟩) (Kd.S_far (p := ⟨gb303, 2, none⟩) (Kd.S_far (p := ⟨gb303, 1, none⟩) (Kd.S_far (p := ⟨gb303, 0, none⟩) (Kd.S_types HO283.out BK303.out (by decide)) (fun _ hk => hk.2) (.slice Ao46 t293.length co46)) (fun _ hk => hk.2) (.slice Ao50 t296.length co50)) (fun _ hk => hk.2) (.slice Ao51 t299.length co51)) (fun _ hk => hk.2) (.int .i64 t302)) (fun _ h_ => h_.1))) hb) (Kd.S_base ho0)) (Kd.R_base ho1)) (Kd.R_base ho2)) (fun _ h_ => h_.1)); have n4_ := Aside0.mk (Kd.R_mono (Kd.R_told (Kd.R_told (Kd.R_old (by (with_reducible repeat (first | apply Kd.R_alloc | apply Kd.R_drewN | apply Kd.R_drew)); exact (Kd.R_mono (Kd.R_far (p := ⟨gb303, 3, none⟩) (Kd.R_far (p := ⟨gb303, 2, none⟩) (Kd.R_far (p := ⟨gb303, 1, none⟩) (Kd.R_far (p := ⟨gb303, 0, none⟩) (Kd.R_types HO286.out BK303.out (by decide)) (fun _ hk => hk.2) (.slice Ao46 t293.length co46)) (fun _ hk => hk.2) (.slice Ao50 t296.length co50)) (fun _ hk => hk.2) (.slice Ao51 t299.length co51)) (fun _ hk => hk.2) (.int .i64 t302)) (fun _ h_ => h_.1))) hb) (Kd.R_base ho1)) (Kd.R_base ho2)) (fun _ h_ => h_.1)); have n5_ := Aside0.mk (Kd.R_mono (Kd.R_told (Kd.R_told (Kd.R_old (by (with_reducible repeat (first | apply Kd.R_alloc | apply Kd.R_drewN | apply Kd.R_drew)); exact (Kd.R_mono (Kd.R_far (p := ⟨gb303, 3, none⟩) (Kd.R_far (p := ⟨gb303, 2, none⟩) (Kd.R_far (p := ⟨gb303, 1, none⟩) (Kd.R_far (p := ⟨gb303, 0, none⟩) (Kd.R_types HO289.out BK303.out (by decide)) (fun _ hk => hk.2) (.slice Ao46 t293.length co46)) (fun _ hk => hk.2) (.slice Ao50 t296.length co50)) (fun _ hk => hk.2) (.slice Ao51 t299.length co51)) (fun _ hk => hk.2) (.int .i64 t302)) (fun _ h_ => h_.1))) hb) (Kd.R_base ho1)) (Kd.R_base ho2)) (fun _ h_ => h_.1)); have n6_ := Aside0.mk (Kd.S_mono (Kd.S_told (Kd.S_told (Kd.S_told (Kd.S_old (by (with_reducible repeat (first | apply Kd.S_alloc | apply Kd.S_drewN | apply Kd.S_drew)); exact (Kd.S_mono (Kd.S_far (p := ⟨gb303, 3, none⟩) (Kd.S_far (p := ⟨gb303, 2, none⟩) (Kd.S_far (p := ⟨gb303, 1, none⟩) (Kd.S_far (p := ⟨gb303, 0, none⟩) (Kd.S_types HO295.out BK303.out (by decide)) (fun _ hk => hk.2) (.slice Ao46 t293.length co46)) (fun _ hk => hk.2) (.slice Ao50 t296.length co50)) (fun _ hk => hk.2) (.slice Ao51 t299.length co51)) (fun _ hk => hk.2) (.int .i64 t302)) (fun _ h_ => h_.1))) hb) (Kd.S_base ho0)) (Kd.R_base ho1)) (Kd.R_base ho2)) (fun _ h_ => h_.1)); have n7_ := Aside0.mk (Kd.R_mono (Kd.R_told (Kd.R_told (Kd.R_old (by (with_reducible repeat (first | apply Kd.R_alloc | apply Kd.R_drewN | apply Kd.R_drew)); exact (Kd.R_mono (Kd.R_far (p := ⟨gb303, 3, none⟩) (Kd.R_far (p := ⟨gb303, 2, none⟩) (Kd.R_far (p := ⟨gb303, 1, none⟩) (Kd.R_far (p := ⟨gb303, 0, none⟩) (Kd.R_types HO298.out BK303.out (by decide)) (fun _ hk => hk.2) (.slice Ao46 t293.length co46)) (fun _ hk => hk.2) (.slice Ao50 t296.length co50)) (fun _ hk => hk.2) (.slice Ao51 t299.length co51)) (fun _ hk => hk.2) (.int .i64 t302)) (fun _ h_ => h_.1))) hb) (Kd.R_base ho1)) (Kd.R_base ho2)) (fun _ h_ => h_.1)); have n8_ := Aside0.mk (Kd.R_mono (Kd.R_told (Kd.R_told (Kd.R_old (by (with_reducible repeat (first | apply Kd.R_alloc | apply Kd.R_drewN | apply Kd.R_drew)); exact (Kd.R_mono (Kd.R_far (p := ⟨gb303, 3, none⟩) (Kd.R_far (p := ⟨gb303, 2, none⟩) (Kd.R_far (p := ⟨gb303, 1, none⟩) (Kd.R_far (p := ⟨gb303, 0, none⟩) (Kd.R_types HO301.out BK303.out (by decide)) (fun _ hk => hk.2) (.slice Ao46 t293.length co46)) (fun _ hk => hk.2) (.slice Ao50 t296.length co50)) (fun _ hk => hk.2) (.slice Ao51 t299.length co51)) (fun _ hk => hk.2) (.int .i64 t302)) (fun _ h_ => h_.1))) hb) (Kd.R_base ho1)) (Kd.R_base ho2)) (fun _ h_ => h_.1)); have n9_ := Aside0.mk (Kd.S_lower (Kd.S_new' (Kd.S_new' (Kd.S_new' (Kd.S_new' (Kd.S_new' (Kd.S_new' (Kd.S_new' (Kd.S_new' (Kd.S_new' ho0 (Kd.S_lt (by (with_reducible repeat (first | apply Kd.S_alloc | apply Kd.S_drewN | apply Kd.S_drew)); exact (Kd.S_mono (Kd.S_far (p := ⟨gb303, 3, none⟩) (Kd.S_far (p := ⟨gb303, 2, none⟩) (Kd.S_far (p := ⟨gb303, 1, none⟩) (Kd.S_far (p := ⟨gb303, 0, none⟩) (Kd.S_types HO273.out BK303.out (by decide)) (fun _ hk => hk.2) (.slice Ao46 t293.length co46)) (fun _ hk => hk.2) (.slice Ao50 t296.length co50)) (fun _ hk => hk.2) (.slice Ao51 t299.length co51)) (fun _ hk => hk.2) (.int .i64 t302)) (fun _ h_ => h_.1))))) (Kd.R_lt (by (with_reducible repeat (first | apply Kd.R_alloc | apply Kd.R_drewN | apply Kd.R_drew)); exact (Kd.R_mono (Kd.R_far (p := ⟨gb303, 3, none⟩) (Kd.R_far (p := ⟨gb303, 2, none⟩) (Kd.R_far (p := ⟨gb303, 1, none⟩) (Kd.R_far (p := ⟨gb303, 0, none⟩) (Kd.R_types HO276.out BK303.out (by decide)) (fun _ hk => hk.2) (.slice Ao46 t293.length co46)) (fun _ hk => hk.2) (.slice Ao50 t296.length co50)) (fun _ hk => hk.2) (.slice Ao51 t299.length co51)) (fun _ hk => hk.2) (.int .i64 t302)) (fun _ h_ => h_.1))))) (Kd.R_lt (by (with_reducible repeat (first | apply Kd.R_alloc | apply Kd.R_drewN | apply Kd.R_drew)); exact (Kd.R_mono (Kd.R_far (p := ⟨gb303, 3, none⟩) (Kd.R_far (p := ⟨gb303, 2, none⟩) (Kd.R_far (p := ⟨gb303, 1, none⟩) (Kd.R_far (p := ⟨gb303, 0, none⟩) (Kd.R_types HO279.out BK303.out (by decide)) (fun _ hk => hk.2) (.slice Ao46 t293.length co46)) (fun _ hk => hk.2) (.slice Ao50 t296.length co50)) (fun _ hk => hk.2) (.slice Ao51 t299.length co51)) (fun _ hk => hk.2) (.int .i64 t302)) (fun _ h_ => h_.1))))) (Kd.S_lt (by (with_reducible repeat (first | apply Kd.S_alloc | apply Kd.S_drewN | apply Kd.S_drew)); exact (Kd.S_mono (Kd.S_far (p := ⟨gb303, 3, none⟩) (Kd.S_far (p := ⟨gb303, 2, none⟩) (Kd.S_far (p := ⟨gb303, 1, none⟩) (Kd.S_far (p := ⟨gb303, 0, none⟩) (Kd.S_types HO283.out BK303.out (by decide)) (fun _ hk => hk.2) (.slice Ao46 t293.length co46)) (fun _ hk => hk.2) (.slice Ao50 t296.length co50)) (fun _ hk => hk.2) (.slice Ao51 t299.length co51)) (fun _ hk => hk.2) (.int .i64 t302)) (fun _ h_ => h_.1))))) (Kd.R_lt (by (with_reducible repeat (first | apply Kd.R_alloc | apply Kd.R_drewN | apply Kd.R_drew)); exact (Kd.R_mono (Kd.R_far (p := ⟨gb303, 3, none⟩) (Kd.R_far (p := ⟨gb303, 2, none⟩) (Kd.R_far (p := ⟨gb303, 1, none⟩) (Kd.R_far (p := ⟨gb303, 0, none⟩) (Kd.R_types HO286.out BK303.out (by decide)) (fun _ hk => hk.2) (.slice Ao46 t293.length co46)) (fun _ hk => hk.2) (.slice Ao50 t296.length co50)) (fun _ hk => hk.2) (.slice Ao51 t299.length co51)) (fun _ hk => hk.2) (.int .i64 t302)) (fun _ h_ => h_.1))))) (Kd.R_lt (by (with_reducible repeat (first | apply Kd.R_alloc | apply Kd.R_drewN | apply Kd.R_drew)); exact (Kd.R_mono (Kd.R_far (p := ⟨gb303, 3, none⟩) (Kd.R_far (p := ⟨gb303, 2, none⟩) (Kd.R_far (p := ⟨gb303, 1, none⟩) (Kd.R_far (p := ⟨gb303, 0, none⟩) (Kd.R_types HO289.out BK303.out (by decide)) (fun _ hk => hk.2) (.slice Ao46 t293.length co46)) (fun _ hk => hk.2) (.slice Ao50 t296.length co50)) (fun _ hk => hk.2) (.slice Ao51 t299.length co51)) (fun _ hk => hk.2) (.int .i64 t302)) (fun _ h_ => h_.1))))) (Kd.S_lt (by (with_reducible repeat (first | apply Kd.S_alloc | apply Kd.S_drewN | apply Kd.S_drew)); exact (Kd.S_mono (Kd.S_far (p := ⟨gb303, 3, none⟩) (Kd.S_far (p := ⟨gb303, 2, none⟩) (Kd.S_far (p := ⟨gb303, 1, none⟩) (Kd.S_far (p := ⟨gb303, 0, none⟩) (Kd.S_types HO295.out BK303.out (by decide)) (fun _ hk => hk.2) (.slice Ao46 t293.length co46)) (fun _ hk => hk.2) (.slice Ao50 t296.length co50)) (fun _ hk => hk.2) (.slice Ao51 t299.length co51)) (fun _ hk => hk.2) (.int .i64 t302)) (fun _ h_ => h_.1))))) (Kd.R_lt (by (with_reducible repeat (first | apply Kd.R_alloc | apply Kd.R_drewN | apply Kd.R_drew)); exact (Kd.R_mono (Kd.R_far (p := ⟨gb303, 3, none⟩) (Kd.R_far (p := ⟨gb303, 2, none⟩) (Kd.R_far (p := ⟨gb303, 1, none⟩) (Kd.R_far (p := ⟨gb303, 0, none⟩) (Kd.R_types HO298.out BK303.out (by decide)) (fun _ hk => hk.2) (.slice Ao46 t293.length co46)) (fun _ hk => hk.2) (.slice Ao50 t296.length co50)) (fun _ hk => hk.2) (.slice Ao51 t299.length co51)) (fun _ hk => hk.2) (.int .i64 t302)) (fun _ h_ => h_.1))))) (Kd.R_lt (by (with_reducible repeat (first | apply Kd.R_alloc | apply Kd.R_drewN | apply Kd.R_drew)); exact (Kd.R_mono (Kd.R_far (p := ⟨gb303, 3, none⟩) (Kd.R_far (p := ⟨gb303, 2, none⟩) (Kd.R_far (p := ⟨gb303, 1, none⟩) (Kd.R_far (p := ⟨gb303, 0, none⟩) (Kd.R_types HO301.out BK303.out (by decide)) (fun _ hk => hk.2) (.slice Ao46 t293.length co46)) (fun _ hk => hk.2) (.slice Ao50 t296.length co50)) (fun _ hk => hk.2) (.slice Ao51 t299.length co51)) (fun _ hk => hk.2) (.int .i64 t302)) (fun _ h_ => h_.1))))) (below_size lB)); have n10_ := Aside0.mk (Kd.R_lower (Kd.R_new' (Kd.R_new' (Kd.R_new' (Kd.R_new' (Kd.R_new' (Kd.R_new' ho1 (Kd.R_lt (by (with_reducible repeat (first | apply Kd.R_alloc | apply Kd.R_drewN | apply Kd.R_drew)); exact (Kd.R_mono (Kd.R_far (p := ⟨gb303, 3, none⟩) (Kd.R_far (p := ⟨gb303, 2, none⟩) (Kd.R_far (p := ⟨gb303, 1, none⟩) (Kd.R_far (p := ⟨gb303, 0, none⟩) (Kd.R_types HO276.out BK303.out (by decide)) (fun _ hk => hk.2) (.slice Ao46 t293.length co46)) (fun _ hk => hk.2) (.slice Ao50 t296.length co50)) (fun _ hk => hk.2) (.slice Ao51 t299.length co51)) (fun _ hk => hk.2) (.int .i64 t302)) (fun _ h_ => h_.1))))) (Kd.R_lt (by (with_reducible repeat (first | apply Kd.R_alloc | apply Kd.R_drewN | apply Kd.R_drew)); exact (Kd.R_mono (Kd.R_far (p := ⟨gb303, 3, none⟩) (Kd.R_far (p := ⟨gb303, 2, none⟩) (Kd.R_far (p := ⟨gb303, 1, none⟩) (Kd.R_far (p := ⟨gb303, 0, none⟩) (Kd.R_types HO279.out BK303.out (by decide)) (fun _ hk => hk.2) (.slice Ao46 t293.length co46)) (fun _ hk => hk.2) (.slice Ao50 t296.length co50)) (fun _ hk => hk.2) (.slice Ao51 t299.length co51)) (fun _ hk => hk.2) (.int .i64 t302)) (fun _ h_ => h_.1))))) (Kd.R_lt (by (with_reducible repeat (first | apply Kd.R_alloc | apply Kd.R_drewN | apply Kd.R_drew)); exact (Kd.R_mono (Kd.R_far (p := ⟨gb303, 3, none⟩) (Kd.R_far (p := ⟨gb303, 2, none⟩) (Kd.R_far (p := ⟨gb303, 1, none⟩) (Kd.R_far (p := ⟨gb303, 0, none⟩) (Kd.R_types HO286.out BK303.out (by decide)) (fun _ hk => hk.2) (.slice Ao46 t293.length co46)) (fun _ hk => hk.2) (.slice Ao50 t296.length co50)) (fun _ hk => hk.2) (.slice Ao51 t299.length co51)) (fun _ hk => hk.2) (.int .i64 t302)) (fun _ h_ => h_.1))))) (Kd.R_lt (by (with_reducible repeat (first | apply Kd.R_alloc | apply Kd.R_drewN | apply Kd.R_drew)); exact (Kd.R_mono (Kd.R_far (p := ⟨gb303, 3, none⟩) (Kd.R_far (p := ⟨gb303, 2, none⟩) (Kd.R_far (p := ⟨gb303, 1, none⟩) (Kd.R_far (p := ⟨gb303, 0, none⟩) (Kd.R_types HO289.out BK303.out (by decide)) (fun _ hk => hk.2) (.slice Ao46 t293.length co46)) (fun _ hk => hk.2) (.slice Ao50 t296.length co50)) (fun _ hk => hk.2) (.slice Ao51 t299.length co51)) (fun _ hk => hk.2) (.int .i64 t302)) (fun _ h_ => h_.1))))) (Kd.R_lt (by (with_reducible repeat (first | apply Kd.R_alloc | apply Kd.R_drewN | apply Kd.R_drew)); exact (Kd.R_mono (Kd.R_far (p := ⟨gb303, 3, none⟩) (Kd.R_far (p := ⟨gb303, 2, none⟩) (Kd.R_far (p := ⟨gb303, 1, none⟩) (Kd.R_far (p := ⟨gb303, 0, none⟩) (Kd.R_types HO298.out BK303.out (by decide)) (fun _ hk => hk.2) (.slice Ao46 t293.length co46)) (fun _ hk => hk.2) (.slice Ao50 t296.length co50)) (fun _ hk => hk.2) (.slice Ao51 t299.length co51)) (fun _ hk => hk.2) (.int .i64 t302)) (fun _ h_ => h_.1))))) (Kd.R_lt (by (with_reducible repeat (first | apply Kd.R_alloc | apply Kd.R_drewN | apply Kd.R_drew)); exact (Kd.R_mono (Kd.R_far (p := ⟨gb303, 3, none⟩) (Kd.R_far (p := ⟨gb303, 2, none⟩) (Kd.R_far (p := ⟨gb303, 1, none⟩) (Kd.R_far (p := ⟨gb303, 0, none⟩) (Kd.R_types HO301.out BK303.out (by decide)) (fun _ hk => hk.2) (.slice Ao46 t293.length co46)) (fun _ hk => hk.2) (.slice Ao50 t296.length co50)) (fun _ hk => hk.2) (.slice Ao51 t299.length co51)) (fun _ hk => hk.2) (.int .i64 t302)) (fun _ h_ => h_.1))))) (below_size lB)); have n11_ := Aside0.mk (Kd.R_lower (Kd.R_new' (Kd.R_new' (Kd.R_new' (Kd.R_new' (Kd.R_new' (Kd.R_new' ho2 (Kd.R_lt (by (with_reducible repeat (first | apply Kd.R_alloc | apply Kd.R_drewN | apply Kd.R_drew)); exact (Kd.R_mono (Kd.R_far (p := ⟨gb303, 3, none⟩) (Kd.R_far (p := ⟨gb303, 2, none⟩) (Kd.R_far (p := ⟨gb303, 1, none⟩) (Kd.R_far (p := ⟨gb303, 0, none⟩) (Kd.R_types HO276.out BK303.out (by decide)) (fun _ hk => hk.2) (.slice Ao46 t293.length co46)) (fun _ hk => hk.2) (.slice Ao50 t296.length co50)) (fun _ hk => hk.2) (.slice Ao51 t299.length co51)) (fun _ hk => hk.2) (.int .i64 t302)) (fun _ h_ => h_.1))))) (Kd.R_lt (by (with_reducible repeat (first | apply Kd.R_alloc | apply Kd.R_drewN | apply Kd.R_drew)); exact (Kd.R_mono (Kd.R_far (p := ⟨gb303, 3, none⟩) (Kd.R_far (p := ⟨gb303, 2, none⟩) (Kd.R_far (p := ⟨gb303, 1, none⟩) (Kd.R_far (p := ⟨gb303, 0, none⟩) (Kd.R_types HO279.out BK303.out (by decide)) (fun _ hk => hk.2) (.slice Ao46 t293.length co46)) (fun _ hk => hk.2) (.slice Ao50 t296.length co50)) (fun _ hk => hk.2) (.slice Ao51 t299.length co51)) (fun _ hk => hk.2) (.int .i64 t302)) (fun _ h_ => h_.1))))) (Kd.R_lt (by (with_reducible repeat (first | apply Kd.R_alloc | apply Kd.R_drewN | apply Kd.R_drew)); exact (Kd.R_mono (Kd.R_far (p := ⟨gb303, 3, none⟩) (Kd.R_far (p := ⟨gb303, 2, none⟩) (Kd.R_far (p := ⟨gb303, 1, none⟩) (Kd.R_far (p := ⟨gb303, 0, none⟩) (Kd.R_types HO286.out BK303.out (by decide)) (fun _ hk => hk.2) (.slice Ao46 t293.length co46)) (fun _ hk => hk.2) (.slice Ao50 t296.length co50)) (fun _ hk => hk.2) (.slice Ao51 t299.length co51)) (fun _ hk => hk.2) (.int .i64 t302)) (fun _ h_ => h_.1))))) (Kd.R_lt (by (with_reducible repeat (first | apply Kd.R_alloc | apply Kd.R_drewN | apply Kd.R_drew)); exact (Kd.R_mono (Kd.R_far (p := ⟨gb303, 3, none⟩) (Kd.R_far (p := ⟨gb303, 2, none⟩) (Kd.R_far (p := ⟨gb303, 1, none⟩) (Kd.R_far (p := ⟨gb303, 0, none⟩) (Kd.R_types HO289.out BK303.out (by decide)) (fun _ hk => hk.2) (.slice Ao46 t293.length co46)) (fun _ hk => hk.2) (.slice Ao50 t296.length co50)) (fun _ hk => hk.2) (.slice Ao51 t299.length co51)) (fun _ hk => hk.2) (.int .i64 t302)) (fun _ h_ => h_.1))))) (Kd.R_lt (by (with_reducible repeat (first | apply Kd.R_alloc | apply Kd.R_drewN | apply Kd.R_drew)); exact (Kd.R_mono (Kd.R_far (p := ⟨gb303, 3, none⟩) (Kd.R_far (p := ⟨gb303, 2, none⟩) (Kd.R_far (p := ⟨gb303, 1, none⟩) (Kd.R_far (p := ⟨gb303, 0, none⟩) (Kd.R_types HO298.out BK303.out (by decide)) (fun _ hk => hk.2) (.slice Ao46 t293.length co46)) (fun _ hk => hk.2) (.slice Ao50 t296.length co50)) (fun _ hk => hk.2) (.slice Ao51 t299.length co51)) (fun _ hk => hk.2) (.int .i64 t302)) (fun _ h_ => h_.1))))) (Kd.R_lt (by (with_reducible repeat (first | apply Kd.R_alloc | apply Kd.R_drewN | apply Kd.R_drew)); exact (Kd.R_mono (Kd.R_far (p := ⟨gb303, 3, none⟩) (Kd.R_far (p := ⟨gb303, 2, none⟩) (Kd.R_far (p := ⟨gb303, 1, none⟩) (Kd.R_far (p := ⟨gb303, 0, none⟩) (Kd.R_types HO301.out BK303.out (by decide)) (fun _ hk => hk.2) (.slice Ao46 t293.length co46)) (fun _ hk => hk.2) (.slice Ao50 t296.length co50)) (fun _ hk => hk.2) (.slice Ao51 t299.length co51)) (fun _ hk => hk.2) (.int .i64 t302)) (fun _ h_ => h_.1))))) (below_size lB)); have n12_ := Aside0.mk (blk_below (lJ BK267.out) hb); have n13_ := Aside0.mk (blk_below (lJ BK268.out) hb); have n14_ := Aside0.mk (blk_below (g := gb303) (o := .cells #[.slice Ao46 t293.length co46, .slice Ao50 t296.length co50, .slice Ao51 t299.length co51, .int .i64 t302] 25 (0, 0)) (by (with_reducible repeat first | apply bN | apply bD | apply bA); refine blk_put (cs := #[.slice Ao46 t293.length co46, .slice Ao50 t296.length co50, .slice Ao51 t299.length co51, .int .i64 0]) ?_ 3 _ rfl; (with_reducible repeat first | apply bN | apply bD | apply bA); refine blk_put (cs := #[.slice Ao46 t293.length co46, .slice Ao50 t296.length co50, .slice none 0 0, .int .i64 0]) ?_ 2 _ rfl; (with_reducible repeat first | apply bN | apply bD | apply bA); refine blk_put (cs := #[.slice Ao46 t293.length co46, .slice none 0 0, .slice none 0 0, .int .i64 0]) ?_ 1 _ rfl; (with_reducible repeat first | apply bN | apply bD | apply bA); refine blk_put (cs := #[.slice none 0 0, .slice none 0 0, .slice none 0 0, .int .i64 0]) ?_ 0 _ rfl; (with_reducible repeat first | apply bN | apply bD | apply bA); exact BK303.out) hb); have n15_ := Aside0.mk (below_step lB hb); clear HO273; clear HO276; clear HO279; clear HO283; clear HO286; clear HO289; clear HO295; clear HO298; clear HO301; clear BK267; clear BK268; clear BK303; clear HB; have HO273 := n0_; have HO276 := n1_; have HO279 := n2_; have HO283 := n3_; have HO286 := n4_; have HO289 := n5_; have HO295 := n6_; have HO298 := n7_; have HO301 := n8_; have HO306 := n9_; have HO309 := n10_; have HO312 := n11_; have BK267 := n12_; have BK268 := n13_; have BK303 := n14_; have HB := n15_; clear n0_ n1_ n2_ n3_ n4_ n5_ n6_ n7_ n8_ n9_ n10_ n11_ n12_ n13_ n14_ n15_; (try clear hb); (try clear hb2); (try clear hk); (try clear hi); (try clear ho0); (try clear ho1); (try clear ho2)) | ((with_reducible refine gate_dst (N := 9) rfl ?_); refine bxe 9 #[.slice none 0 0, .slice none 0 0, .slice none 0 0, .int .i64 0] 25 ?_; intro gb314 hg w54 hbox hb; have n0_ := Aside0.mk (Kd.S_below (lS HO273.out) hb); have n1_ := Aside0.mk (Kd.R_below (lR HO276.out) hb); have n2_ := Aside0.mk (Kd.R_below (lR HO279.out) hb); have n3_ := Aside0.mk (Kd.S_below (lS HO283.out) hb); have n4_ := Aside0.mk (Kd.R_below (lR HO286.out) hb); have n5_ := Aside0.mk (Kd.R_below (lR HO289.out) hb); have n6_ := Aside0.mk (Kd.S_below (lS HO295.out) hb); have n7_ := Aside0.mk (Kd.R_below (lR HO298.out) hb); have n8_ := Aside0.mk (Kd.R_below (lR HO301.out) hb); have n9_ := Aside0.mk (Kd.S_below (lS HO306.out) hb); have n10_ := Aside0.mk (Kd.R_below (lR HO309.out) hb); have n11_ := Aside0.mk (Kd.R_below (lR HO312.out) hb); have n12_ := Aside0.mk (blk_below (lK BK267.out) hb); have n13_ := Aside0.mk (blk_below (lK BK268.out) hb); have n14_ := Aside0.mk (blk_below (lK BK303.out) hb); have n15_ := Aside0.mk (below_step lB hb); have n16_ := Aside0.mk (hbox); have n17_ := lG w hg; have n18_ := lG w hg; have n19_ := Aside0.mk ((by rw [hg]; exact Nat.ne_of_lt (blk_lt (lK BK267.out)) : gb267 ≠ gb314)); have n20_ := Aside0.mk ((by rw [hg]; exact Nat.ne_of_gt (blk_lt (lK BK267.out)) : gb314 ≠ gb267)); have n21_ := Aside0.mk ((by rw [hg]; exact Nat.ne_of_lt (blk_lt (lK BK268.out)) : gb268 ≠ gb314)); have n22_ := Aside0.mk ((by rw [hg]; exact Nat.ne_of_gt (blk_lt (lK BK268.out)) : gb314 ≠ gb268)); have n23_ := Aside0.mk ((by rw [hg]; exact Nat.ne_of_lt (blk_lt (lK BK303.out)) : gb303 ≠ gb314)); have n24_ := Aside0.mk ((by rw [hg]; exact Nat.ne_of_gt (blk_lt (lK BK303.out)) : gb314 ≠ gb303)); clear HO273; clear HO276; clear HO279; clear HO283; clear HO286; clear HO289; clear HO295; clear HO298; clear HO301; clear HO306; clear HO309; clear HO312; clear BK267; clear BK268; clear BK303; clear HB; have HO273 := n0_; have HO276 := n1_; have HO279 := n2_; have HO283 := n3_; have HO286 := n4_; have HO289 := n5_; have HO295 := n6_; have HO298 := n7_; have HO301 := n8_; have HO306 := n9_; have HO309 := n10_; have HO312 := n11_; have BK267 := n12_; have BK268 := n13_; have BK303 := n14_; have HB := n15_; have BK314 := n16_; have GW314 := n17_; have GE314 := n18_; have NB267_314 := n19_; have NB314_267 := n20_; have NB268_314 := n21_; have NB314_268 := n22_; have NB303_314 := n23_; have NB314_303 := n24_; clear n0_ n1_ n2_ n3_ n4_ n5_ n6_ n7_ n8_ n9_ n10_ n11_ n12_ n13_ n14_ n15_ n16_ n17_ n18_ n19_ n20_ n21_ n22_ n23_ n24_; clear hb hbox hg; obtain ⟨Ao55, co55, eo55⟩ := Kd.S_slice HO306.out; subst eo55; have hnb56 := NB314_267.out; have hnc56 := NB267_314.out; have hnb57 := NB314_268.out; have hnc57 := NB268_314.out; have hnb58 := NB314_303.out; have hnc58 := NB303_314.out; obtain ⟨hcz59_0, hfz59_0, hcz59_1, hfz59_1, hcz59_2, hfz59_2, hcz59_3, hfz59_3⟩ := bk4 BK314.out; obtain ⟨Ao60, co60, eo60⟩ := Kd.R_slice HO309.out; subst eo60; obtain ⟨Ao61, co61, eo61⟩ := Kd.R_slice HO312.out; subst eo61; obtain ⟨hcz62_0, hfz62_0, hcz62_1, hfz62_1, hcz62_2, hfz62_2, hcz62_3, hfz62_3⟩ := bk4 BK303.out) | ((with_reducible refine gate_callee (f := 24) rfl ?_); refine gl_ (some 37) (Try.func24) #[.agg #[.slice Ao46 t293.length co46, .slice Ao50 t296.length co50, .slice Ao51 t299.length co51, .int .i64 t302], .agg #[.slice Ao55 t304.length co55, .slice Ao60 t307.length co60, .slice Ao61 t310.length co61, .int .i64 t313]] ?_; (with_reducible refine (impl_SameShape.calls k _ _ t293 _ _ t296 _ _ t299 t302 _ _ t304 _ _ t307 _ _ t310 t313 t315 t316 _ ?side1 ?side2 ?side3 ?side4 ?side5 ?side6 ?side7 ?side8 ?side9 ?side10 ?side11 ?side12 A24.out).mono ?_); (case side1 => refine (Kd.S_reads' (e := 45) (base := w.heap.size) (ok := fun k_ => ((((((((((some k_ ≠ (.slice Ao50 t296.length co50 : Value).ownBlock ∧ some k_ ≠ (.slice Ao51 t299.length co51 : Value).ownBlock) ∧ some k_ ≠ (.slice Ao36 t271.length co36 : Value).ownBlock) ∧ some k_ ≠ (.slice Ao37 t274.length co37 : Value).ownBlock) ∧ some k_ ≠ (.slice Ao38 t277.length co38 : Value).ownBlock) ∧ some k_ ≠ (.slice Ao39 t281.length co39 : Value).ownBlock) ∧ some k_ ≠ (.slice Ao40 t284.length co40 : Value).ownBlock) ∧ some k_ ≠ (.slice Ao41 t287.length co41 : Value).ownBlock) ∧ some k_ ≠ (.slice Ao55 t304.length co55 : Value).ownBlock) ∧ some k_ ≠ (.slice Ao60 t307.length co60 : Value).ownBlock) ∧ some k_ ≠ (.slice Ao61 t310.length co61 : Value).ownBlock)) (n := t293.length) (c := co46) ?_).2.2; exact (by (with_reducible repeat (first | apply Kd.S_alloc | apply Kd.S_drewN | apply Kd.S_drew)); exact (Kd.S_mono (Kd.S_far (p := ⟨gb314, 3, none⟩) (Kd.S_far (p := ⟨gb314, 2, none⟩) (Kd.S_far (p := ⟨gb314, 1, none⟩) (Kd.S_far (p := ⟨gb314, 0, none⟩) (Kd.S_types HO295.out BK314.out (by decide)) (fun _ hk => hk.2) (.slice Ao55 t304.length co55)) (fun _ hk => hk.2) (.slice Ao60 t307.length co60)) (fun _ hk => hk.2) (.slice Ao61 t310.length co61)) (fun _ hk => hk.2) (.int .i64 t313)) (fun _ h_ => h_.1)))); (case side2 => exact (Kd.S_reads' HO295.out).2.1); (case side3 => refine (Kd.R_reads' (e := 3) (base := w.heap.size) (ok := fun k_ => ((((((some k_ ≠ (.slice Ao51 t299.length co51 : Value).ownBlock ∧ some k_ ≠ (.slice Ao37 t274.length co37 : Value).ownBlock) ∧ some k_ ≠ (.slice Ao38 t277.length co38 : Value).ownBlock) ∧ some k_ ≠ (.slice Ao40 t284.length co40 : Value).ownBlock) ∧ some k_ ≠ (.slice Ao41 t287.length co41 : Value).ownBlock) ∧ some k_ ≠ (.slice Ao60 t307.length co60 : Value).ownBlock) ∧ some k_ ≠ (.slice Ao61 t310.length co61 : Value).ownBlock)) (n := t296.length) (c := co50) ?_).2.2; exact (by (with_reducible repeat (first | apply Kd.R_alloc | apply Kd.R_drewN | apply Kd.R_drew)); exact (Kd.R_mono (Kd.R_far (p := ⟨gb314, 3, none⟩) (Kd.R_far (p := ⟨gb314, 2, none⟩) (Kd.R_far (p := ⟨gb314, 1, none⟩) (Kd.R_far (p := ⟨gb314, 0, none⟩) (Kd.R_types HO298.out BK314.out (by decide)) (fun _ hk => hk.2) (.slice Ao55 t304.length co55)) (fun _ hk => hk.2) (.slice Ao60 t307.length co60)) (fun _ hk => hk.2) (.slice Ao61 t310.length co61)) (fun _ hk => hk.2) (.int .i64 t313)) (fun _ h_ => h_.1)))); (case side4 => exact (Kd.R_reads' HO298.out).2.1); (case side5 => refine (Kd.R_reads' (e := 3) (base := w.heap.size) (ok := fun k_ => ((((((some k_ ≠ (.slice Ao50 t296.length co50 : Value).ownBlock ∧ some k_ ≠ (.slice Ao37 t274.length co37 : Value).ownBlock) ∧ some k_ ≠ (.slice Ao38 t277.length co38 : Value).ownBlock) ∧ some k_ ≠ (.slice Ao40 t284.length co40 : Value).ownBlock) ∧ some k_ ≠ (.slice Ao41 t287.length co41 : Value).ownBlock) ∧ some k_ ≠ (.slice Ao60 t307.length co60 : Value).ownBlock) ∧ some k_ ≠ (.slice Ao61 t310.length co61 : Value).ownBlock)) (n := t299.length) (c := co51) ?_).2.2; exact (by (with_reducible repeat (first | apply Kd.R_alloc | apply Kd.R_drewN | apply Kd.R_drew)); exact (Kd.R_mono (Kd.R_far (p := ⟨gb314, 3, none⟩) (Kd.R_far (p := ⟨gb314, 2, none⟩) (Kd.R_far (p := ⟨gb314, 1, none⟩) (Kd.R_far (p := ⟨gb314, 0, none⟩) (Kd.R_types HO301.out BK314.out (by decide)) (fun _ hk => hk.2) (.slice Ao55 t304.length co55)) (fun _ hk => hk.2) (.slice Ao60 t307.length co60)) (fun _ hk => hk.2) (.slice Ao61 t310.length co61)) (fun _ hk => hk.2) (.int .i64 t313)) (fun _ h_ => h_.1)))); (case side6 => exact (Kd.R_reads' HO301.out).2.1); (case side7 => refine (Kd.S_reads' (e := 45) (base := w.heap.size) (ok := fun k_ => ((((((((((some k_ ≠ (.slice Ao60 t307.length co60 : Value).ownBlock ∧ some k_ ≠ (.slice Ao61 t310.length co61 : Value).ownBlock) ∧ some k_ ≠ (.slice Ao36 t271.length co36 : Value).ownBlock) ∧ some k_ ≠ (.slice Ao37 t274.length co37 : Value).ownBlock) ∧ some k_ ≠ (.slice Ao38 t277.length co38 : Value).ownBlock) ∧ some k_ ≠ (.slice Ao39 t281.length co39 : Value).ownBlock) ∧ some k_ ≠ (.slice Ao40 t284.length co40 : Value).ownBlock) ∧ some k_ ≠ (.slice Ao41 t287.length co41 : Value).ownBlock) ∧ some k_ ≠ (.slice Ao46 t293.length co46 : Value).ownBlock) ∧ some k_ ≠ (.slice Ao50 t296.length co50 : Value).ownBlock) ∧ some k_ ≠ (.slice Ao51 t299.length co51 : Value).ownBlock)) (n := t304.length) (c := co55) ?_).2.2; exact (by (with_reducible repeat (first | apply Kd.S_alloc | apply Kd.S_drewN | apply Kd.S_drew)); exact (Kd.S_mono (Kd.S_far (p := ⟨gb314, 3, none⟩) (Kd.S_far (p := ⟨gb314, 2, none⟩) (Kd.S_far (p := ⟨gb314, 1, none⟩) (Kd.S_far (p := ⟨gb314, 0, none⟩) (Kd.S_types HO306.out BK314.out (by decide)) (fun _ hk => hk.2) (.slice Ao55 t304.length co55)) (fun _ hk => hk.2) (.slice Ao60 t307.length co60)) (fun _ hk => hk.2) (.slice Ao61 t310.length co61)) (fun _ hk => hk.2) (.int .i64 t313)) (fun _ h_ => h_.1)))); (case side8 => exact (Kd.S_reads' HO306.out).2.1); (case side9 => refine (Kd.R_reads' (e := 3) (base := w.heap.size) (ok := fun k_ => ((((((some k_ ≠ (.slice Ao61 t310.length co61 : Value).ownBlock ∧ some k_ ≠ (.slice Ao37 t274.length co37 : Value).ownBlock) ∧ some k_ ≠ (.slice Ao38 t277.length co38 : Value).ownBlock) ∧ some k_ ≠ (.slice Ao40 t284.length co40 : Value).ownBlock) ∧ some k_ ≠ (.slice Ao41 t287.length co41 : Value).ownBlock) ∧ some k_ ≠ (.slice Ao50 t296.length co50 : Value).ownBlock) ∧ some k_ ≠ (.slice Ao51 t299.length co51 : Value).ownBlock)) (n := t307.length) (c := co60) ?_).2.2; exact (by (with_reducible repeat (first | apply Kd.R_alloc | apply Kd.R_drewN | apply Kd.R_drew)); exact (Kd.R_mono (Kd.R_far (p := ⟨gb314, 3, none⟩) (Kd.R_far (p := ⟨gb314, 2, none⟩) (Kd.R_far (p := ⟨gb314, 1, none⟩) (Kd.R_far (p := ⟨gb314, 0, none⟩) (Kd.R_types HO309.out BK314.out (by decide)) (fun _ hk => hk.2) (.slice Ao55 t304.length co55)) (fun _ hk => hk.2) (.slice Ao60 t307.length co60)) (fun _ hk => hk.2) (.slice Ao61 t310.length co61)) (fun _ hk => hk.2) (.int .i64 t313)) (fun _ h_ => h_.1)))); (case side10 => exact (Kd.R_reads' HO309.out).2.1); (case side11 => refine (Kd.R_reads' (e := 3) (base := w.heap.size) (ok := fun k_ => ((((((some k_ ≠ (.slice Ao60 t307.length co60 : Value).ownBlock ∧ some k_ ≠ (.slice Ao37 t274.length co37 : Value).ownBlock) ∧ some k_ ≠ (.slice Ao38 t277.length co38 : Value).ownBlock) ∧ some k_ ≠ (.slice Ao40 t284.length co40 : Value).ownBlock) ∧ some k_ ≠ (.slice Ao41 t287.length co41 : Value).ownBlock) ∧ some k_ ≠ (.slice Ao50 t296.length co50 : Value).ownBlock) ∧ some k_ ≠ (.slice Ao51 t299.length co51 : Value).ownBlock)) (n := t310.length) (c := co61) ?_).2.2; exact (by (with_reducible repeat (first | apply Kd.R_alloc | apply Kd.R_drewN | apply Kd.R_drew)); exact (Kd.R_mono (Kd.R_far (p := ⟨gb314, 3, none⟩) (Kd.R_far (p := ⟨gb314, 2, none⟩) (Kd.R_far (p := ⟨gb314, 1, none⟩) (Kd.R_far (p := ⟨gb314, 0, none⟩) (Kd.R_types HO312.out BK314.out (by decide)) (fun _ hk => hk.2) (.slice Ao55 t304.length co55)) (fun _ hk => hk.2) (.slice Ao60 t307.length co60)) (fun _ hk => hk.2) (.slice Ao61 t310.length co61)) (fun _ hk => hk.2) (.int .i64 t313)) (fun _ h_ => h_.1)))); (case side12 => exact (Kd.R_reads' HO312.out).2.1); rintro e w63 ⟨rfl, hb⟩; refine ⟨_, rfl, ?_⟩; have n0_ := Aside0.mk (Kd.S_below (by (with_reducible repeat (first | apply Kd.S_alloc | apply Kd.S_drewN | apply Kd.S_drew)); exact (Kd.S_mono (Kd.S_far (p := ⟨gb314, 3, none⟩) (Kd.S_far (p := ⟨gb314, 2, none⟩) (Kd.S_far (p := ⟨gb314, 1, none⟩) (Kd.S_far (p := ⟨gb314, 0, none⟩) (Kd.S_types HO273.out BK314.out (by decide)) (fun _ hk => hk.2) (.slice Ao55 t304.length co55)) (fun _ hk => hk.2) (.slice Ao60 t307.length co60)) (fun _ hk => hk.2) (.slice Ao61 t310.length co61)) (fun _ hk => hk.2) (.int .i64 t313)) (fun _ h_ => h_.1))) hb); have n1_ := Aside0.mk (Kd.R_below (by (with_reducible repeat (first | apply Kd.R_alloc | apply Kd.R_drewN | apply Kd.R_drew)); exact (Kd.R_mono (Kd.R_far (p := ⟨gb314, 3, none⟩) (Kd.R_far (p := ⟨gb314, 2, none⟩) (Kd.R_far (p := ⟨gb314, 1, none⟩) (Kd.R_far (p := ⟨gb314, 0, none⟩) (Kd.R_types HO276.out BK314.out (by decide)) (fun _ hk => hk.2) (.slice Ao55 t304.length co55)) (fun _ hk => hk.2) (.slice Ao60 t307.length co60)) (fun _ hk => hk.2) (.slice Ao61 t310.length co61)) (fun _ hk => hk.2) (.int .i64 t313)) (fun _ h_ => h_.1))) hb); have n2_ := Aside0.mk (Kd.R_below (by (with_reducible repeat (first | apply Kd.R_alloc | apply Kd.R_drewN | apply Kd.R_drew)); exact (Kd.R_mono (Kd.R_far (p := ⟨gb314, 3, none⟩) (Kd.R_far (p := ⟨gb314, 2, none⟩) (Kd.R_far (p := ⟨gb314, 1, none⟩) (Kd.R_far (p := ⟨gb314, 0, none⟩) (Kd.R_types HO279.out BK314.out (by decide)) (fun _ hk => hk.2) (.slice Ao55 t304.length co55)) (fun _ hk => hk.2) (.slice Ao60 t307.length co60)) (fun _ hk => hk.2) (.slice Ao61 t310.length co61)) (fun _ hk => hk.2) (.int .i64 t313)) (fun _ h_ => h_.1))) hb); have n3_ := Aside0.mk (Kd.S_below (by (with_reducible repeat (first | apply Kd.S_alloc | apply Kd.S_drewN | apply Kd.S_drew)); exact (Kd.S_mono (Kd.S_far (p := ⟨gb314, 3, none⟩) (Kd.S_far (p := ⟨gb314, 2, none⟩) (Kd.S_far (p := ⟨gb314, 1, none⟩) (Kd.S_far (p := ⟨gb314, 0, none⟩) (Kd.S_types HO283.out BK314.out (by decide)) (fun _ hk => hk.2) (.slice Ao55 t304.length co55)) (fun _ hk => hk.2) (.slice Ao60 t307.length co60)) (fun _ hk => hk.2) (.slice Ao61 t310.length co61)) (fun _ hk => hk.2) (.int .i64 t313)) (fun _ h_ => h_.1))) hb); have n4_ := Aside0.mk (Kd.R_below (by (with_reducible repeat (first | apply Kd.R_alloc | apply Kd.R_drewN | apply Kd.R_drew)); exact (Kd.R_mono (Kd.R_far (p := ⟨gb314, 3, none⟩) (Kd.R_far (p := ⟨gb314, 2, none⟩) (Kd.R_far (p := ⟨gb314, 1, none⟩) (Kd.R_far (p := ⟨gb314, 0, none⟩) (Kd.R_types HO286.out BK314.out (by decide)) (fun _ hk => hk.2) (.slice Ao55 t304.length co55)) (fun _ hk => hk.2) (.slice Ao60 t307.length co60)) (fun _ hk => hk.2) (.slice Ao61 t310.length co61)) (fun _ hk => hk.2) (.int .i64 t313)) (fun _ h_ => h_.1))) hb); have n5_ := Aside0.mk (Kd.R_below (by (with_reducible repeat (first | apply Kd.R_alloc | apply Kd.R_drewN | apply Kd.R_drew)); exact (Kd.R_mono (Kd.R_far (p := ⟨gb314, 3, none⟩) (Kd.R_far (p := ⟨gb314, 2, none⟩) (Kd.R_far (p := ⟨gb314, 1, none⟩) (Kd.R_far (p := ⟨gb314, 0, none⟩) (Kd.R_types HO289.out BK314.out (by decide)) (fun _ hk => hk.2) (.slice Ao55 t304.length co55)) (fun _ hk => hk.2) (.slice Ao60 t307.length co60)) (fun _ hk => hk.2) (.slice Ao61 t310.length co61)) (fun _ hk => hk.2) (.int .i64 t313)) (fun _ h_ => h_.1))) hb); have n6_ := Aside0.mk (Kd.S_below (by (with_reducible repeat (first | apply Kd.S_alloc | apply Kd.S_drewN | apply Kd.S_drew)); exact (Kd.S_mono (Kd.S_far (p := ⟨gb314, 3, none⟩) (Kd.S_far (p := ⟨gb314, 2, none⟩) (Kd.S_far (p := ⟨gb314, 1, none⟩) (Kd.S_far (p := ⟨gb314, 0, none⟩) (Kd.S_types HO295.out BK314.out (by decide)) (fun _ hk => hk.2) (.slice Ao55 t304.length co55)) (fun _ hk => hk.2) (.slice Ao60 t307.length co60)) (fun _ hk => hk.2) (.slice Ao61 t310.length co61)) (fun _ hk => hk.2) (.int .i64 t313)) (fun _ h_ => h_.1))) hb); have n7_ := Aside0.mk (Kd.R_below (by (with_reducible repeat (first | apply Kd.R_alloc | apply Kd.R_drewN | apply Kd.R_drew)); exact (Kd.R_mono (Kd.R_far (p := ⟨gb314, 3, none⟩) (Kd.R_far (p := ⟨gb314, 2, none⟩) (Kd.R_far (p := ⟨gb314, 1, none⟩) (Kd.R_far (p := ⟨gb314, 0, none⟩) (Kd.R_types HO298.out BK314.out (by decide)) (fun _ hk => hk.2) (.slice Ao55 t304.length co55)) (fun _ hk => hk.2) (.slice Ao60 t307.length co60)) (fun _ hk => hk.2) (.slice Ao61 t310.length co61)) (fun _ hk => hk.2) (.int .i64 t313)) (fun _ h_ => h_.1))) hb); have n8_ := Aside0.mk (Kd.R_below (by (with_reducible repeat (first | apply Kd.R_alloc | apply Kd.R_drewN | apply Kd.R_drew)); exact (Kd.R_mono (Kd.R_far (p := ⟨gb314, 3, none⟩) (Kd.R_far (p := ⟨gb314, 2, none⟩) (Kd.R_far (p := ⟨gb314, 1, none⟩) (Kd.R_far (p := ⟨gb314, 0, none⟩) (Kd.R_types HO301.out BK314.out (by decide)) (fun _ hk => hk.2) (.slice Ao55 t304.length co55)) (fun _ hk => hk.2) (.slice Ao60 t307.length co60)) (fun _ hk => hk.2) (.slice Ao61 t310.length co61)) (fun _ hk => hk.2) (.int .i64 t313)) (fun _ h_ => h_.1))) hb); have n9_ := Aside0.mk (Kd.S_below (by (with_reducible repeat (first | apply Kd.S_alloc | apply Kd.S_drewN | apply Kd.S_drew)); exact (Kd.S_mono (Kd.S_far (p := ⟨gb314, 3, none⟩) (Kd.S_far (p := ⟨gb314, 2, none⟩) (Kd.S_far (p := ⟨gb314, 1, none⟩) (Kd.S_far (p := ⟨gb314, 0, none⟩) (Kd.S_types HO306.out BK314.out (by decide)) (fun _ hk => hk.2) (.slice Ao55 t304.length co55)) (fun _ hk => hk.2) (.slice Ao60 t307.length co60)) (fun _ hk => hk.2) (.slice Ao61 t310.length co61)) (fun _ hk => hk.2) (.int .i64 t313)) (fun _ h_ => h_.1))) hb); have n10_ := Aside0.mk (Kd.R_below (by (with_reducible repeat (first | apply Kd.R_alloc | apply Kd.R_drewN | apply Kd.R_drew)); exact (Kd.R_mono (Kd.R_far (p := ⟨gb314, 3, none⟩) (Kd.R_far (p := ⟨gb314, 2, none⟩) (Kd.R_far (p := ⟨gb314, 1, none⟩) (Kd.R_far (p := ⟨gb314, 0, none⟩) (Kd.R_types HO309.out BK314.out (by decide)) (fun _ hk => hk.2) (.slice Ao55 t304.length co55)) (fun _ hk => hk.2) (.slice Ao60 t307.length co60)) (fun _ hk => hk.2) (.slice Ao61 t310.length co61)) (fun _ hk => hk.2) (.int .i64 t313)) (fun _ h_ => h_.1))) hb); have n11_ := Aside0.mk (Kd.R_below (by (with_reducible repeat (first | apply Kd.R_alloc | apply Kd.R_drewN | apply Kd.R_drew)); exact (Kd.R_mono (Kd.R_far (p := ⟨gb314, 3, none⟩) (Kd.R_far (p := ⟨gb314, 2, none⟩) (Kd.R_far (p := ⟨gb314, 1, none⟩) (Kd.R_far (p := ⟨gb314, 0, none⟩) (Kd.R_types HO312.out BK314.out (by decide)) (fun _ hk => hk.2) (.slice Ao55 t304.length co55)) (fun _ hk => hk.2) (.slice Ao60 t307.length co60)) (fun _ hk => hk.2) (.slice Ao61 t310.length co61)) (fun _ hk => hk.2) (.int .i64 t313)) (fun _ h_ => h_.1))) hb); have n12_ := Aside0.mk (blk_below (lJ BK267.out) hb); have n13_ := Aside0.mk (blk_below (lJ BK268.out) hb); have n14_ := Aside0.mk (blk_below (lJ BK303.out) hb); have n15_ := Aside0.mk (blk_below (g := gb314) (o := .cells #[.slice Ao55 t304.length co55, .slice Ao60 t307.length co60, .slice Ao61 t310.length co61, .int .i64 t313] 25 (0, 0)) (by (with_reducible repeat first | apply bN | apply bD | apply bA); refine blk_put (cs := #[.slice Ao55 t304.length co55, .slice Ao60 t307.length co60, .slice Ao61 t310.length co61, .int .i64 0]) ?_ 3 _ rfl; (with_reducible repeat first | apply bN | apply bD | apply bA); refine blk_put (cs := #[.slice Ao55 t304.length co55, .slice Ao60 t307.length co60, .slice none 0 0, .int .i64 0]) ?_ 2 _ rfl; (with_reducible repeat first | apply bN | apply bD | apply bA); refine blk_put (cs := #[.slice Ao55 t304.length co55, .slice none 0 0, .slice none 0 0, .int .i64 0]) ?_ 1 _ rfl; (with_reducible repeat first | apply bN | apply bD | apply bA); refine blk_put (cs := #[.slice none 0 0, .slice none 0 0, .slice none 0 0, .int .i64 0]) ?_ 0 _ rfl; (with_reducible repeat first | apply bN | apply bD | apply bA); exact BK314.out) hb); have n16_ := Aside0.mk (below_step lB hb); clear HO273; clear HO276; clear HO279; clear HO283; clear HO286; clear HO289; clear HO295; clear HO298; clear HO301; clear HO306; clear HO309; clear HO312; clear BK267; clear BK268; clear BK303; clear BK314; clear HB; have HO273 := n0_; have HO276 := n1_; have HO279 := n2_; have HO283 := n3_; have HO286 := n4_; have HO289 := n5_; have HO295 := n6_; have HO298 := n7_; have HO301 := n8_; have HO306 := n9_; have HO309 := n10_; have HO312 := n11_; have BK267 := n12_; have BK268 := n13_; have BK303 := n14_; have BK314 := n15_; have HB := n16_; clear n0_ n1_ n2_ n3_ n4_ n5_ n6_ n7_ n8_ n9_ n10_ n11_ n12_ n13_ n14_ n15_ n16_; (try clear hb); (try clear hb2); (try clear hk); (try clear hi)))
   (try simp only [Act.put, List.setIfInBounds_toArray, List.set_cons_zero, List.set_cons_succ])
   go_cut [47] (fun v47 wc => ∃ (kq : Nat) (x47_24 : Bool), v47 = .bool x47_24 ∧ Aside0 (laws_FnExactSameShape.j0 kq x47_24 l0_0 l0_1 l0_2 a0_3 l1_0 l1_1 l1_2 a1_3 t293 t296 t299 t302 t304 t307 t310 t313 = some r) ∧ Aside0 (kq ≤ k) ∧ Aside0 (Kd.S k45 45 wc w.heap.size (fun k_ => some k_ ≠ ((.slice Ao50 t296.length co50) : Value).ownBlock ∧ some k_ ≠ ((.slice Ao51 t299.length co51) : Value).ownBlock ∧ some k_ ≠ ((.slice Ao55 t304.length co55) : Value).ownBlock ∧ some k_ ≠ ((.slice Ao60 t307.length co60) : Value).ownBlock ∧ some k_ ≠ ((.slice Ao61 t310.length co61) : Value).ownBlock) (.slice Ao46 t293.length co46) t293) ∧ Aside0 (Kd.R (Kd.int .i64) 3 wc w.heap.size (fun k_ => some k_ ≠ ((.slice Ao51 t299.length co51) : Value).ownBlock ∧ some k_ ≠ ((.slice Ao60 t307.length co60) : Value).ownBlock ∧ some k_ ≠ ((.slice Ao61 t310.length co61) : Value).ownBlock) (.slice Ao50 t296.length co50) t296) ∧ Aside0 (Kd.R (Kd.int .i64) 3 wc w.heap.size (fun k_ => some k_ ≠ ((.slice Ao50 t296.length co50) : Value).ownBlock ∧ some k_ ≠ ((.slice Ao60 t307.length co60) : Value).ownBlock ∧ some k_ ≠ ((.slice Ao61 t310.length co61) : Value).ownBlock) (.slice Ao51 t299.length co51) t299) ∧ Aside0 (Kd.S k45 45 wc w.heap.size (fun k_ => some k_ ≠ ((.slice Ao46 t293.length co46) : Value).ownBlock ∧ some k_ ≠ ((.slice Ao50 t296.length co50) : Value).ownBlock ∧ some k_ ≠ ((.slice Ao51 t299.length co51) : Value).ownBlock ∧ some k_ ≠ ((.slice Ao60 t307.length co60) : Value).ownBlock ∧ some k_ ≠ ((.slice Ao61 t310.length co61) : Value).ownBlock) (.slice Ao55 t304.length co55) t304) ∧ Aside0 (Kd.R (Kd.int .i64) 3 wc w.heap.size (fun k_ => some k_ ≠ ((.slice Ao50 t296.length co50) : Value).ownBlock ∧ some k_ ≠ ((.slice Ao51 t299.length co51) : Value).ownBlock ∧ some k_ ≠ ((.slice Ao61 t310.length co61) : Value).ownBlock) (.slice Ao60 t307.length co60) t307) ∧ Aside0 (Kd.R (Kd.int .i64) 3 wc w.heap.size (fun k_ => some k_ ≠ ((.slice Ao50 t296.length co50) : Value).ownBlock ∧ some k_ ≠ ((.slice Ao51 t299.length co51) : Value).ownBlock ∧ some k_ ≠ ((.slice Ao60 t307.length co60) : Value).ownBlock) (.slice Ao61 t310.length co61) t310) ∧ Aside0 (wc.heap[gb267]? = some (.cells #[(.slice A0_0 l0_0.length c0_0), (.slice A0_1 l0_1.length c0_1), (.slice A0_2 l0_2.length c0_2), .int .i64 a0_3] 32 (0, 0))) ∧ Aside0 (wc.heap[gb268]? = some (.cells #[(.slice A1_0 l1_0.length c1_0), (.slice A1_1 l1_1.length c1_1), (.slice A1_2 l1_2.length c1_2), .int .i64 a1_3] 32 (0, 0))) ∧ Aside0 (wc.heap[gb303]? = some (.cells #[(.slice Ao46 t293.length co46), (.slice Ao50 t296.length co50), (.slice Ao51 t299.length co51), .int .i64 t302] 25 (0, 0))) ∧ Aside0 (wc.heap[gb314]? = some (.cells #[(.slice Ao55 t304.length co55), (.slice Ao60 t307.length co60), (.slice Ao61 t310.length co61), .int .i64 t313] 25 (0, 0))) ∧ Aside0 (Below w.heap.size w wc))
   case first =>
    have H := HC25.out
    clear HC25
    by_cases c64 : (t315 != t291) = true
    ·rw [if_pos c64] at H
     have c64b0 : (t315 != t291) = true := c64
     (try (have c64b1 : decide (t315 = t291) = false := by simpa using c64))
     (try (have c64b2 : (t315 == t291) = false := by simpa using c64))
     (try (have c64b3 : ¬ (t315 = t291) := by simpa using c64))
     clear c64
     (first | rw [c64b0] | (simp only [i64_w, i32_w]; rw [c64b0]) | skip)
     have H' := Aside0.mk H
     clear H
     go_wp2
     go_meet
     case rel => exact ⟨_, (true), lF, H', ⟨lN⟩, ⟨by (with_reducible repeat (first | apply Kd.S_alloc | apply Kd.S_drewN | apply Kd.S_drew)); exact Kd.S_mono HO295.out (fun _ hk => ⟨hk.1.1.1.1.1.1.1.1.1.1, ⟨hk.1.1.1.1.1.1.1.1.1.2, ⟨hk.1.1.2, ⟨hk.1.2, hk.2⟩⟩⟩⟩)⟩, ⟨by (with_reducible repeat (first | apply Kd.R_alloc | apply Kd.R_drewN | apply Kd.R_drew)); exact Kd.R_mono HO298.out (fun _ hk => ⟨hk.1.1.1.1.1.1, ⟨hk.1.2, hk.2⟩⟩)⟩, ⟨by (with_reducible repeat (first | apply Kd.R_alloc | apply Kd.R_drewN | apply Kd.R_drew)); exact Kd.R_mono HO301.out (fun _ hk => ⟨hk.1.1.1.1.1.1, ⟨hk.1.2, hk.2⟩⟩)⟩, ⟨by (with_reducible repeat (first | apply Kd.S_alloc | apply Kd.S_drewN | apply Kd.S_drew)); exact Kd.S_mono HO306.out (fun _ hk => ⟨hk.1.1.2, ⟨hk.1.2, ⟨hk.2, ⟨hk.1.1.1.1.1.1.1.1.1.1, hk.1.1.1.1.1.1.1.1.1.2⟩⟩⟩⟩)⟩, ⟨by (with_reducible repeat (first | apply Kd.R_alloc | apply Kd.R_drewN | apply Kd.R_drew)); exact Kd.R_mono HO309.out (fun _ hk => ⟨hk.1.2, ⟨hk.2, hk.1.1.1.1.1.1⟩⟩)⟩, ⟨by (with_reducible repeat (first | apply Kd.R_alloc | apply Kd.R_drewN | apply Kd.R_drew)); exact Kd.R_mono HO312.out (fun _ hk => ⟨hk.1.2, ⟨hk.2, hk.1.1.1.1.1.1⟩⟩)⟩, ⟨lK BK267.out⟩, ⟨lK BK268.out⟩, ⟨lK BK303.out⟩, ⟨lK BK314.out⟩, ⟨lB⟩⟩
    ·rw [if_neg c64] at H
     have c64b0 : (t315 != t291) = false := by simpa using c64
     (try (have c64b1 : decide (t315 = t291) = true := by simpa using c64))
     (try (have c64b2 : (t315 == t291) = true := by simpa using c64))
     clear c64
     (first | rw [c64b0] | (simp only [i64_w, i32_w]; rw [c64b0]) | skip)
     have H' := Aside0.mk H
     clear H
     go_wp2
     go_meet
     case rel => exact ⟨_, ((t316 != t292)), lF, H', ⟨lN⟩, ⟨by (with_reducible repeat (first | apply Kd.S_alloc | apply Kd.S_drewN | apply Kd.S_drew)); exact Kd.S_mono HO295.out (fun _ hk => ⟨hk.1.1.1.1.1.1.1.1.1.1, ⟨hk.1.1.1.1.1.1.1.1.1.2, ⟨hk.1.1.2, ⟨hk.1.2, hk.2⟩⟩⟩⟩)⟩, ⟨by (with_reducible repeat (first | apply Kd.R_alloc | apply Kd.R_drewN | apply Kd.R_drew)); exact Kd.R_mono HO298.out (fun _ hk => ⟨hk.1.1.1.1.1.1, ⟨hk.1.2, hk.2⟩⟩)⟩, ⟨by (with_reducible repeat (first | apply Kd.R_alloc | apply Kd.R_drewN | apply Kd.R_drew)); exact Kd.R_mono HO301.out (fun _ hk => ⟨hk.1.1.1.1.1.1, ⟨hk.1.2, hk.2⟩⟩)⟩, ⟨by (with_reducible repeat (first | apply Kd.S_alloc | apply Kd.S_drewN | apply Kd.S_drew)); exact Kd.S_mono HO306.out (fun _ hk => ⟨hk.1.1.2, ⟨hk.1.2, ⟨hk.2, ⟨hk.1.1.1.1.1.1.1.1.1.1, hk.1.1.1.1.1.1.1.1.1.2⟩⟩⟩⟩)⟩, ⟨by (with_reducible repeat (first | apply Kd.R_alloc | apply Kd.R_drewN | apply Kd.R_drew)); exact Kd.R_mono HO309.out (fun _ hk => ⟨hk.1.2, ⟨hk.2, hk.1.1.1.1.1.1⟩⟩)⟩, ⟨by (with_reducible repeat (first | apply Kd.R_alloc | apply Kd.R_drewN | apply Kd.R_drew)); exact Kd.R_mono HO312.out (fun _ hk => ⟨hk.1.2, ⟨hk.2, hk.1.1.1.1.1.1⟩⟩)⟩, ⟨lK BK267.out⟩, ⟨lK BK268.out⟩, ⟨lK BK303.out⟩, ⟨lK BK314.out⟩, ⟨lB⟩⟩
   case rest =>
    clear HC25
    try clear c1
    try clear c2
    try clear p2
    try clear c4
    try clear c4b0
    try clear c5
    try clear c6
    try clear c7
    try clear c11
    try clear c11b0
    try clear c14
    try clear c16
    try clear c23
    try clear c24
    try clear c28
    try clear c47
    try clear c48
    try clear c56
    try clear c57
    try clear c58
    try clear c64
    try clear c64b0
    try clear c64b1
    try clear c64b2
    try clear hcz15_0 hcz15_1 hcz15_2 hcz15_3
    try clear hcz17_0 hcz17_1 hcz17_2 hcz17_3
    try clear hcz29_0 hcz29_1 hcz29_2 hcz29_3
    try clear hcz31_0 hcz31_1 hcz31_2 hcz31_3
    try clear hcz43_0 hcz43_1 hcz43_2 hcz43_3
    try clear hcz49_0 hcz49_1 hcz49_2 hcz49_3
    try clear hcz52_0 hcz52_1 hcz52_2 hcz52_3
    try clear hcz59_0 hcz59_1 hcz59_2 hcz59_3
    try clear hcz62_0 hcz62_1 hcz62_2 hcz62_3
    try clear hcz8_0 hcz8_1 hcz8_2 hcz8_3
    try clear hfz15_0 hfz15_1 hfz15_2 hfz15_3
    try clear hfz17_0 hfz17_1 hfz17_2 hfz17_3
    try clear hfz29_0 hfz29_1 hfz29_2 hfz29_3
    try clear hfz31_0 hfz31_1 hfz31_2 hfz31_3
    try clear hfz43_0 hfz43_1 hfz43_2 hfz43_3
    try clear hfz49_0 hfz49_1 hfz49_2 hfz49_3
    try clear hfz52_0 hfz52_1 hfz52_2 hfz52_3
    try clear hfz59_0 hfz59_1 hfz59_2 hfz59_3
    try clear hfz62_0 hfz62_1 hfz62_2 hfz62_3
    try clear hfz8_0 hfz8_1 hfz8_2 hfz8_3
    obtain ⟨kq, x47_24, rfl, HA, HJ24, HO_304000, HO_304001, HO_304002, HO_315000, HO_315001, HO_315002, BK267, BK268, BK303, BK314, HB⟩ := hcut
    cases kq with
    | zero => exact absurd HA.out (by simp [laws_FnExactSameShape.j0])
    | succ kj24 =>
     have H := HA.out
     clear HA
     simp only [laws_FnExactSameShape.j0] at H
     by_cases c65 : x47_24 = true
     ·subst c65
      rw [if_pos rfl] at H
      obtain rfl := Option.some.inj H
      first | (go_wp2; go_ret; exact ⟨lE, lB⟩) | (exfalso; simp only [decide_eq_false_iff_not, decide_eq_true_eq] at *; omega)
     ·replace c65 := Bool.eq_false_iff.mpr c65
      subst c65
      rw [if_neg (show ¬ (false = true) by decide)] at H
      replace H := Option.bind_eq_some_iff.mp H
      obtain ⟨⟨t317, t320, t323, t326⟩, A660, H⟩ := H
      replace H : ((laws_eqHeap.f kj24 t293 t296 t299 t302 t317 t320 t323 t326).bind fun t327 => (if t327 = true then ((laws_toHeap.f kj24 l1_0 l1_1 l1_2 a1_3).bind fun bt328 => ((laws_eqHeap.f kj24 t304 t307 t310 t313 bt328.1 bt328.2.1 bt328.2.2.1 bt328.2.2.2).bind fun t338 => (if t338 = true then (some true) else (some false)))) else (some false))) = some r := H
      have A66 := Aside0.mk A660
      clear A660
      replace H := lO H
      obtain ⟨t327, A67, H⟩ := H
      by_cases c68 : t327 = true
      ·subst c68
       rw [if_pos rfl] at H
       replace H := Option.bind_eq_some_iff.mp H
       obtain ⟨⟨t328, t331, t334, t337⟩, A690, H⟩ := H
       replace H : ((laws_eqHeap.f kj24 t304 t307 t310 t313 t328 t331 t334 t337).bind fun t338 => (if t338 = true then (some true) else (some false))) = some r := H
       have A69 := Aside0.mk A690
       clear A690
       replace H := lO H
       obtain ⟨t338, A70, H⟩ := H
       by_cases c71 : t338 = true
       ·subst c71
        rw [if_pos rfl] at H
        obtain rfl := Option.some.inj H
        try go_wp2
        have n0_ := Aside0.mk (Kd.S_drew HO_304000.out)
        have n1_ := Aside0.mk (Kd.R_drew HO_304001.out)
        have n2_ := Aside0.mk (Kd.R_drew HO_304002.out)
        have n3_ := Aside0.mk (Kd.S_drew HO_315000.out)
        have n4_ := Aside0.mk (Kd.R_drew HO_315001.out)
        have n5_ := Aside0.mk (Kd.R_drew HO_315002.out)
        have n6_ := Aside0.mk (blk_drew BK267.out)
        have n7_ := Aside0.mk (blk_drew BK268.out)
        have n8_ := Aside0.mk (blk_drew BK303.out)
        have n9_ := Aside0.mk (blk_drew BK314.out)
        have n10_ := Aside0.mk (below_drew1 HB.out)
        clear HO_304000
        clear HO_304001
        clear HO_304002
        clear HO_315000
        clear HO_315001
        clear HO_315002
        clear BK267
        clear BK268
        clear BK303
        clear BK314
        clear HB
        have HO_304000 := n0_
        have HO_304001 := n1_
        have HO_304002 := n2_
        have HO_315000 := n3_
        have HO_315001 := n4_
        have HO_315002 := n5_
        have BK267 := n6_
        have BK268 := n7_
        have BK303 := n8_
        have BK314 := n9_
        have HB := n10_
        clear n0_ n1_ n2_ n3_ n4_ n5_ n6_ n7_ n8_ n9_ n10_
        refine start_ (n := 5) (S := fun w' => w'.cell? ⟨gb303, 0, none⟩ = some (.slice Ao46 t293.length co46) ∧ w'.cell? ⟨gb303, 1, none⟩ = some (.slice Ao50 t296.length co50) ∧ w'.cell? ⟨gb303, 2, none⟩ = some (.slice Ao51 t299.length co51) ∧ w'.cell? ⟨gb303, 3, none⟩ = some (.int .i64 t302) ∧ w'.cell? ⟨gb267, 0, none⟩ = some (.slice A0_0 l0_0.length c0_0) ∧ w'.cell? ⟨gb267, 1, none⟩ = some (.slice A0_1 l0_1.length c0_1) ∧ w'.cell? ⟨gb267, 2, none⟩ = some (.slice A0_2 l0_2.length c0_2) ∧ w'.cell? ⟨gb267, 3, none⟩ = some (.int .i64 a0_3)) (ds := []) (bs 5 0) kR rfl kR ⟨bZ BK303.out 0, bZ BK303.out 1, bZ BK303.out 2, bZ BK303.out 3, bZ BK267.out 0, bZ BK267.out 1, bZ BK267.out 2, bZ BK267.out 3⟩ (fun hHeld => ?_)
        generalize wc.drew = w72 at HO_304000 HO_304001 HO_304002 HO_315000 HO_315001 HO_315002 BK267 BK268 BK303 BK314 HB hHeld ⊢
        refine tak_ 0 48 (bs 5 1) kR hHeld ?_
        refine tak_ 1 49 (bs 5 3) kR hHeld ?_
        refine one_ (i := 2) (N := some 50) (bs 5 7) rfl rfl (by kernel_rfl) (by decide) (fun K hK => ?_)
        refine goes_ Try.func16 (by kernel_rfl) rfl #[.agg #[.slice A0_0 l0_0.length c0_0, .slice A0_1 l0_1.length c0_1, .slice A0_2 l0_2.length c0_2, .int .i64 a0_3]] (by rfl) rfl rfl (by (try simp only [List.map_toArray, List.map_cons, List.map_nil]); first | done | rfl | (simp only [List.length_drop, List.length_take]; rfl)) ?_
        with_reducible refine (laws_toHeap.calls kj24 _ _ l0_0 _ _ l0_1 _ _ l0_2 a0_3 t317 t320 t323 t326 _ ?side1 ?side2 ?side3 ?side4 ?side5 ?side6 A66.out).mono ?_
        (case side1 => exact lC (Kd.C_below HR0_0.out HB.out))
        (case side2 => exact HC0_0.out)
        (case side3 => exact lC (Kd.C_below HR0_1.out HB.out))
        (case side4 => exact HC0_1.out)
        (case side5 => exact lC (Kd.C_below HR0_2.out HB.out))
        (case side6 => exact HC0_2.out)
        rintro e w73 ⟨v318, v321, v324, rfl, ho0, ho1, ho2, hb⟩
        refine ⟨_, rfl, ?_⟩
        have n0_ := Aside0.mk (Kd.S_mono (Kd.S_told (Kd.S_told (Kd.S_told (Kd.S_old (lS HO_304000.out) hb) (Kd.S_base ho0)) (Kd.R_base ho1)) (Kd.R_base ho2)) (fun _ h_ => h_.1))
        have n1_ := Aside0.mk (Kd.R_mono (Kd.R_told (Kd.R_told (Kd.R_old (lR HO_304001.out) hb) (Kd.R_base ho1)) (Kd.R_base ho2)) (fun _ h_ => h_.1))
        have n2_ := Aside0.mk (Kd.R_mono (Kd.R_told (Kd.R_told (Kd.R_old (lR HO_304002.out) hb) (Kd.R_base ho1)) (Kd.R_base ho2)) (fun _ h_ => h_.1))
        have n3_ := Aside0.mk (Kd.S_mono (Kd.S_told (Kd.S_told (Kd.S_told (Kd.S_old (lS HO_315000.out) hb) (Kd.S_base ho0)) (Kd.R_base ho1)) (Kd.R_base ho2)) (fun _ h_ => h_.1))
        have n4_ := Aside0.mk (Kd.R_mono (Kd.R_told (Kd.R_told (Kd.R_old (lR HO_315001.out) hb) (Kd.R_base ho1)) (Kd.R_base ho2)) (fun _ h_ => h_.1))
        have n5_ := Aside0.mk (Kd.R_mono (Kd.R_told (Kd.R_told (Kd.R_old (lR HO_315002.out) hb) (Kd.R_base ho1)) (Kd.R_base ho2)) (fun _ h_ => h_.1))
        have n6_ := Aside0.mk (Kd.S_lower (Kd.S_new' (Kd.S_new' (Kd.S_new' (Kd.S_new' (Kd.S_new' (Kd.S_new' ho0 (Kd.S_lt (lS HO_304000.out))) (Kd.R_lt (lR HO_304001.out))) (Kd.R_lt (lR HO_304002.out))) (Kd.S_lt (lS HO_315000.out))) (Kd.R_lt (lR HO_315001.out))) (Kd.R_lt (lR HO_315002.out))) (below_size lB))
        have n7_ := Aside0.mk (Kd.R_lower (Kd.R_new' (Kd.R_new' (Kd.R_new' (Kd.R_new' ho1 (Kd.R_lt (lR HO_304001.out))) (Kd.R_lt (lR HO_304002.out))) (Kd.R_lt (lR HO_315001.out))) (Kd.R_lt (lR HO_315002.out))) (below_size lB))
        have n8_ := Aside0.mk (Kd.R_lower (Kd.R_new' (Kd.R_new' (Kd.R_new' (Kd.R_new' ho2 (Kd.R_lt (lR HO_304001.out))) (Kd.R_lt (lR HO_304002.out))) (Kd.R_lt (lR HO_315001.out))) (Kd.R_lt (lR HO_315002.out))) (below_size lB))
        have n9_ := Aside0.mk (blk_below (lK BK267.out) hb)
        have n10_ := Aside0.mk (blk_below (lK BK268.out) hb)
        have n11_ := Aside0.mk (blk_below (lK BK303.out) hb)
        have n12_ := Aside0.mk (blk_below (lK BK314.out) hb)
        have n13_ := Aside0.mk (below_step lB hb)
        clear HO_304000
        clear HO_304001
        clear HO_304002
        clear HO_315000
        clear HO_315001
        clear HO_315002
        clear BK267
        clear BK268
        clear BK303
        clear BK314
        clear HB
        have HO_304000 := n0_
        have HO_304001 := n1_
        have HO_304002 := n2_
        have HO_315000 := n3_
        have HO_315001 := n4_
        have HO_315002 := n5_
        have HO319 := n6_
        have HO322 := n7_
        have HO325 := n8_
        have BK267 := n9_
        have BK268 := n10_
        have BK303 := n11_
        have BK314 := n12_
        have HB := n13_
        clear n0_ n1_ n2_ n3_ n4_ n5_ n6_ n7_ n8_ n9_ n10_ n11_ n12_ n13_
        (try clear hb)
        (try clear hb2)
        (try clear hk)
        (try clear hi)
        (try clear ho0)
        (try clear ho1)
        (try clear ho2)
        obtain ⟨Ao74, co74, eo74⟩ := Kd.S_slice HO319.out
        (first | subst eo74 | (injection eo74 with f1_ f2_ f3_; have f4_ := f1_.symm; have f5_ := f3_.symm; clear f1_ f2_ f3_; subst f4_; subst f5_))
        obtain ⟨Ao75, co75, eo75⟩ := Kd.R_slice HO322.out
        (first | subst eo75 | (injection eo75 with f1_ f2_ f3_; have f4_ := f1_.symm; have f5_ := f3_.symm; clear f1_ f2_ f3_; subst f4_; subst f5_))
        obtain ⟨Ao76, co76, eo76⟩ := Kd.R_slice HO325.out
        (first | subst eo76 | (injection eo76 with f1_ f2_ f3_; have f4_ := f1_.symm; have f5_ := f3_.symm; clear f1_ f2_ f3_; subst f4_; subst f5_))
        refine hK.out _ _ ⟨bZ BK303.out 0, bZ BK303.out 1, bZ BK303.out 2, bZ BK303.out 3, bZ BK267.out 0, bZ BK267.out 1, bZ BK267.out 2, bZ BK267.out 3⟩ (fun hHeld => ?_)
        clear hK K
        refine norm_ (a' := ?_) ?_ ?_
        rotate_left
        ·show Act.put _ (some 50) _ = _
         simp only [Act.put, List.setIfInBounds_toArray, List.set_cons_zero, List.set_cons_succ, i64_w, i32_w]
         rfl
        refine one_ (i := 3) (N := some 51) (bs 5 15) rfl rfl (by kernel_rfl) (by decide) (fun K hK => ?_)
        refine goes_ Try.func11 (by kernel_rfl) rfl #[.agg #[.slice Ao46 t293.length co46, .slice Ao50 t296.length co50, .slice Ao51 t299.length co51, .int .i64 t302], .agg #[.slice Ao74 t317.length co74, .slice Ao75 t320.length co75, .slice Ao76 t323.length co76, .int .i64 t326]] (by rfl) rfl rfl (by (try simp only [List.map_toArray, List.map_cons, List.map_nil]); first | done | rfl | (simp only [List.length_drop, List.length_take]; rfl)) ?_
        with_reducible refine (laws_eqHeap.calls kj24 _ _ t293 _ _ t296 _ _ t299 t302 _ _ t317 _ _ t320 _ _ t323 t326 true _ ?side1 ?side2 ?side3 ?side4 ?side5 ?side6 ?side7 ?side8 ?side9 ?side10 ?side11 ?side12 A67.out).mono ?_
        (case side1 => repeat (first | exact (Kd.S_reads' HO_304000.out).2.2 | (with_reducible refine Kd.C_alloc ?_ _) | (with_reducible refine Kd.C_drewN ?_ _) | (with_reducible refine Kd.C_drew ?_)))
        (case side2 => exact (Kd.S_reads' HO_304000.out).2.1)
        (case side3 => repeat (first | exact (Kd.R_reads' HO_304001.out).2.2 | (with_reducible refine Kd.C_alloc ?_ _) | (with_reducible refine Kd.C_drewN ?_ _) | (with_reducible refine Kd.C_drew ?_)))
        (case side4 => exact (Kd.R_reads' HO_304001.out).2.1)
        (case side5 => repeat (first | exact (Kd.R_reads' HO_304002.out).2.2 | (with_reducible refine Kd.C_alloc ?_ _) | (with_reducible refine Kd.C_drewN ?_ _) | (with_reducible refine Kd.C_drew ?_)))
        (case side6 => exact (Kd.R_reads' HO_304002.out).2.1)
        (case side7 => repeat (first | exact (Kd.S_reads' HO319.out).2.2 | (with_reducible refine Kd.C_alloc ?_ _) | (with_reducible refine Kd.C_drewN ?_ _) | (with_reducible refine Kd.C_drew ?_)))
        (case side8 => exact (Kd.S_reads' HO319.out).2.1)
        (case side9 => repeat (first | exact (Kd.R_reads' HO322.out).2.2 | (with_reducible refine Kd.C_alloc ?_ _) | (with_reducible refine Kd.C_drewN ?_ _) | (with_reducible refine Kd.C_drew ?_)))
        (case side10 => exact (Kd.R_reads' HO322.out).2.1)
        (case side11 => repeat (first | exact (Kd.R_reads' HO325.out).2.2 | (with_reducible refine Kd.C_alloc ?_ _) | (with_reducible refine Kd.C_drewN ?_ _) | (with_reducible refine Kd.C_drew ?_)))
        (case side12 => exact (Kd.R_reads' HO325.out).2.1)
        rintro e w77 ⟨rfl, hb⟩
        refine ⟨_, rfl, ?_⟩
        have n0_ := Aside0.mk (Kd.S_below (lS HO_304000.out) hb)
        have n1_ := Aside0.mk (Kd.R_below (lR HO_304001.out) hb)
        have n2_ := Aside0.mk (Kd.R_below (lR HO_304002.out) hb)
        have n3_ := Aside0.mk (Kd.S_below (lS HO_315000.out) hb)
        have n4_ := Aside0.mk (Kd.R_below (lR HO_315001.out) hb)
        have n5_ := Aside0.mk (Kd.R_below (lR HO_315002.out) hb)
        have n6_ := Aside0.mk (Kd.S_below (lS HO319.out) hb)
        have n7_ := Aside0.mk (Kd.R_below (lR HO322.out) hb)
        have n8_ := Aside0.mk (Kd.R_below (lR HO325.out) hb)
        have n9_ := Aside0.mk (blk_below (lK BK267.out) hb)
        have n10_ := Aside0.mk (blk_below (lK BK268.out) hb)
        have n11_ := Aside0.mk (blk_below (lK BK303.out) hb)
        have n12_ := Aside0.mk (blk_below (lK BK314.out) hb)
        have n13_ := Aside0.mk (below_step lB hb)
        clear HO_304000
        clear HO_304001
        clear HO_304002
        clear HO_315000
        clear HO_315001
        clear HO_315002
        clear HO319
        clear HO322
        clear HO325
        clear BK267
        clear BK268
        clear BK303
        clear BK314
        clear HB
        have HO_304000 := n0_
        have HO_304001 := n1_
        have HO_304002 := n2_
        have HO_315000 := n3_
        have HO_315001 := n4_
        have HO_315002 := n5_
        have HO319 := n6_
        have HO322 := n7_
        have HO325 := n8_
        have BK267 := n9_
        have BK268 := n10_
        have BK303 := n11_
        have BK314 := n12_
        have HB := n13_
        clear n0_ n1_ n2_ n3_ n4_ n5_ n6_ n7_ n8_ n9_ n10_ n11_ n12_ n13_
        (try clear hb)
        (try clear hb2)
        (try clear hk)
        (try clear hi)
        refine hK.out _ _ ⟨bZ BK303.out 0, bZ BK303.out 1, bZ BK303.out 2, bZ BK303.out 3, bZ BK267.out 0, bZ BK267.out 1, bZ BK267.out 2, bZ BK267.out 3⟩ (fun hHeld => ?_)
        clear hK K
        refine norm_ (a' := ?_) ?_ ?_
        rotate_left
        ·show Act.put _ (some 51) _ = _
         simp only [Act.put, List.setIfInBounds_toArray, List.set_cons_zero, List.set_cons_succ, i64_w, i32_w]
         rfl
        refine pur_ 4 52 (bs 5 31) kR ?_
        refine done_ (by kernel_rfl) ?_
        try go_wp2
        have n0_ := Aside0.mk (Kd.S_drew HO_304000.out)
        have n1_ := Aside0.mk (Kd.R_drew HO_304001.out)
        have n2_ := Aside0.mk (Kd.R_drew HO_304002.out)
        have n3_ := Aside0.mk (Kd.S_drew HO_315000.out)
        have n4_ := Aside0.mk (Kd.R_drew HO_315001.out)
        have n5_ := Aside0.mk (Kd.R_drew HO_315002.out)
        have n6_ := Aside0.mk (Kd.S_drew HO319.out)
        have n7_ := Aside0.mk (Kd.R_drew HO322.out)
        have n8_ := Aside0.mk (Kd.R_drew HO325.out)
        have n9_ := Aside0.mk (blk_drew BK267.out)
        have n10_ := Aside0.mk (blk_drew BK268.out)
        have n11_ := Aside0.mk (blk_drew BK303.out)
        have n12_ := Aside0.mk (blk_drew BK314.out)
        have n13_ := Aside0.mk (below_drew1 HB.out)
        clear HO_304000
        clear HO_304001
        clear HO_304002
        clear HO_315000
        clear HO_315001
        clear HO_315002
        clear HO319
        clear HO322
        clear HO325
        clear BK267
        clear BK268
        clear BK303
        clear BK314
        clear HB
        have HO_304000 := n0_
        have HO_304001 := n1_
        have HO_304002 := n2_
        have HO_315000 := n3_
        have HO_315001 := n4_
        have HO_315002 := n5_
        have HO319 := n6_
        have HO322 := n7_
        have HO325 := n8_
        have BK267 := n9_
        have BK268 := n10_
        have BK303 := n11_
        have BK314 := n12_
        have HB := n13_
        clear n0_ n1_ n2_ n3_ n4_ n5_ n6_ n7_ n8_ n9_ n10_ n11_ n12_ n13_
        refine start_ (n := 5) (S := fun w' => w'.cell? ⟨gb314, 0, none⟩ = some (.slice Ao55 t304.length co55) ∧ w'.cell? ⟨gb314, 1, none⟩ = some (.slice Ao60 t307.length co60) ∧ w'.cell? ⟨gb314, 2, none⟩ = some (.slice Ao61 t310.length co61) ∧ w'.cell? ⟨gb314, 3, none⟩ = some (.int .i64 t313) ∧ w'.cell? ⟨gb268, 0, none⟩ = some (.slice A1_0 l1_0.length c1_0) ∧ w'.cell? ⟨gb268, 1, none⟩ = some (.slice A1_1 l1_1.length c1_1) ∧ w'.cell? ⟨gb268, 2, none⟩ = some (.slice A1_2 l1_2.length c1_2) ∧ w'.cell? ⟨gb268, 3, none⟩ = some (.int .i64 a1_3)) (ds := []) (bs 5 0) kR rfl kR ⟨bZ BK314.out 0, bZ BK314.out 1, bZ BK314.out 2, bZ BK314.out 3, bZ BK268.out 0, bZ BK268.out 1, bZ BK268.out 2, bZ BK268.out 3⟩ (fun hHeld => ?_)
        generalize w77.drew = w78 at HO_304000 HO_304001 HO_304002 HO_315000 HO_315001 HO_315002 HO319 HO322 HO325 BK267 BK268 BK303 BK314 HB hHeld ⊢
        refine tak_ 0 53 (bs 5 1) kR hHeld ?_
        refine tak_ 1 54 (bs 5 3) kR hHeld ?_
        refine one_ (i := 2) (N := some 55) (bs 5 7) rfl rfl (by kernel_rfl) (by decide) (fun K hK => ?_)
        refine goes_ Try.func16 (by kernel_rfl) rfl #[.agg #[.slice A1_0 l1_0.length c1_0, .slice A1_1 l1_1.length c1_1, .slice A1_2 l1_2.length c1_2, .int .i64 a1_3]] (by rfl) rfl rfl (by (try simp only [List.map_toArray, List.map_cons, List.map_nil]); first | done | rfl | (simp only [List.length_drop, List.length_take]; rfl)) ?_
        with_reducible refine (laws_toHeap.calls kj24 _ _ l1_0 _ _ l1_1 _ _ l1_2 a1_3 t328 t331 t334 t337 _ ?side1 ?side2 ?side3 ?side4 ?side5 ?side6 A69.out).mono ?_
        (case side1 => exact lC (Kd.C_below HR1_0.out HB.out))
        (case side2 => exact HC1_0.out)
        (case side3 => exact lC (Kd.C_below HR1_1.out HB.out))
        (case side4 => exact HC1_1.out)
        (case side5 => exact lC (Kd.C_below HR1_2.out HB.out))
        (case side6 => exact HC1_2.out)
        rintro e w79 ⟨v329, v332, v335, rfl, ho0, ho1, ho2, hb⟩
        refine ⟨_, rfl, ?_⟩
        have n0_ := Aside0.mk (Kd.S_mono (Kd.S_told (Kd.S_told (Kd.S_told (Kd.S_old (lS HO_304000.out) hb) (Kd.S_base ho0)) (Kd.R_base ho1)) (Kd.R_base ho2)) (fun _ h_ => h_.1))
        have n1_ := Aside0.mk (Kd.R_mono (Kd.R_told (Kd.R_told (Kd.R_old (lR HO_304001.out) hb) (Kd.R_base ho1)) (Kd.R_base ho2)) (fun _ h_ => h_.1))
        have n2_ := Aside0.mk (Kd.R_mono (Kd.R_told (Kd.R_told (Kd.R_old (lR HO_304002.out) hb) (Kd.R_base ho1)) (Kd.R_base ho2)) (fun _ h_ => h_.1))
        have n3_ := Aside0.mk (Kd.S_mono (Kd.S_told (Kd.S_told (Kd.S_told (Kd.S_old (lS HO_315000.out) hb) (Kd.S_base ho0)) (Kd.R_base ho1)) (Kd.R_base ho2)) (fun _ h_ => h_.1))
        have n4_ := Aside0.mk (Kd.R_mono (Kd.R_told (Kd.R_told (Kd.R_old (lR HO_315001.out) hb) (Kd.R_base ho1)) (Kd.R_base ho2)) (fun _ h_ => h_.1))
        have n5_ := Aside0.mk (Kd.R_mono (Kd.R_told (Kd.R_told (Kd.R_old (lR HO_315002.out) hb) (Kd.R_base ho1)) (Kd.R_base ho2)) (fun _ h_ => h_.1))
        have n6_ := Aside0.mk (Kd.S_mono (Kd.S_told (Kd.S_told (Kd.S_told (Kd.S_old (lS HO319.out) hb) (Kd.S_base ho0)) (Kd.R_base ho1)) (Kd.R_base ho2)) (fun _ h_ => h_.1))
        have n7_ := Aside0.mk (Kd.R_mono (Kd.R_told (Kd.R_told (Kd.R_old (lR HO322.out) hb) (Kd.R_base ho1)) (Kd.R_base ho2)) (fun _ h_ => h_.1))
        have n8_ := Aside0.mk (Kd.R_mono (Kd.R_told (Kd.R_told (Kd.R_old (lR HO325.out) hb) (Kd.R_base ho1)) (Kd.R_base ho2)) (fun _ h_ => h_.1))
        have n9_ := Aside0.mk (Kd.S_lower (Kd.S_new' (Kd.S_new' (Kd.S_new' (Kd.S_new' (Kd.S_new' (Kd.S_new' (Kd.S_new' (Kd.S_new' (Kd.S_new' ho0 (Kd.S_lt (lS HO_304000.out))) (Kd.R_lt (lR HO_304001.out))) (Kd.R_lt (lR HO_304002.out))) (Kd.S_lt (lS HO_315000.out))) (Kd.R_lt (lR HO_315001.out))) (Kd.R_lt (lR HO_315002.out))) (Kd.S_lt (lS HO319.out))) (Kd.R_lt (lR HO322.out))) (Kd.R_lt (lR HO325.out))) (below_size lB))
        have n10_ := Aside0.mk (Kd.R_lower (Kd.R_new' (Kd.R_new' (Kd.R_new' (Kd.R_new' (Kd.R_new' (Kd.R_new' ho1 (Kd.R_lt (lR HO_304001.out))) (Kd.R_lt (lR HO_304002.out))) (Kd.R_lt (lR HO_315001.out))) (Kd.R_lt (lR HO_315002.out))) (Kd.R_lt (lR HO322.out))) (Kd.R_lt (lR HO325.out))) (below_size lB))
        have n11_ := Aside0.mk (Kd.R_lower (Kd.R_new' (Kd.R_new' (Kd.R_new' (Kd.R_new' (Kd.R_new' (Kd.R_new' ho2 (Kd.R_lt (lR HO_304001.out))) (Kd.R_lt (lR HO_304002.out))) (Kd.R_lt (lR HO_315001.out))) (Kd.R_lt (lR HO_315002.out))) (Kd.R_lt (lR HO322.out))) (Kd.R_lt (lR HO325.out))) (below_size lB))
        have n12_ := Aside0.mk (blk_below (lK BK267.out) hb)
        have n13_ := Aside0.mk (blk_below (lK BK268.out) hb)
        have n14_ := Aside0.mk (blk_below (lK BK303.out) hb)
        have n15_ := Aside0.mk (blk_below (lK BK314.out) hb)
        have n16_ := Aside0.mk (below_step lB hb)
        clear HO_304000
        clear HO_304001
        clear HO_304002
        clear HO_315000
        clear HO_315001
        clear HO_315002
        clear HO319
        clear HO322
        clear HO325
        clear BK267
        clear BK268
        clear BK303
        clear BK314
        clear HB
        have HO_304000 := n0_
        have HO_304001 := n1_
        have HO_304002 := n2_
        have HO_315000 := n3_
        have HO_315001 := n4_
        have HO_315002 := n5_
        have HO319 := n6_
        have HO322 := n7_
        have HO325 := n8_
        have HO330 := n9_
        have HO333 := n10_
        have HO336 := n11_
        have BK267 := n12_
        have BK268 := n13_
        have BK303 := n14_
        have BK314 := n15_
        have HB := n16_
        clear n0_ n1_ n2_ n3_ n4_ n5_ n6_ n7_ n8_ n9_ n10_ n11_ n12_ n13_ n14_ n15_ n16_
        (try clear hb)
        (try clear hb2)
        (try clear hk)
        (try clear hi)
        (try clear ho0)
        (try clear ho1)
        (try clear ho2)
        obtain ⟨Ao80, co80, eo80⟩ := Kd.S_slice HO330.out
        (first | subst eo80 | (injection eo80 with f1_ f2_ f3_; have f4_ := f1_.symm; have f5_ := f3_.symm; clear f1_ f2_ f3_; subst f4_; subst f5_))
        obtain ⟨Ao81, co81, eo81⟩ := Kd.R_slice HO333.out
        (first | subst eo81 | (injection eo81 with f1_ f2_ f3_; have f4_ := f1_.symm; have f5_ := f3_.symm; clear f1_ f2_ f3_; subst f4_; subst f5_))
        obtain ⟨Ao82, co82, eo82⟩ := Kd.R_slice HO336.out
        (first | subst eo82 | (injection eo82 with f1_ f2_ f3_; have f4_ := f1_.symm; have f5_ := f3_.symm; clear f1_ f2_ f3_; subst f4_; subst f5_))
        refine hK.out _ _ ⟨bZ BK314.out 0, bZ BK314.out 1, bZ BK314.out 2, bZ BK314.out 3, bZ BK268.out 0, bZ BK268.out 1, bZ BK268.out 2, bZ BK268.out 3⟩ (fun hHeld => ?_)
        clear hK K
        refine norm_ (a' := ?_) ?_ ?_
        rotate_left
        ·show Act.put _ (some 55) _ = _
         simp only [Act.put, List.setIfInBounds_toArray, List.set_cons_zero, List.set_cons_succ, i64_w, i32_w]
         rfl
        refine one_ (i := 3) (N := some 56) (bs 5 15) rfl rfl (by kernel_rfl) (by decide) (fun K hK => ?_)
        refine goes_ Try.func11 (by kernel_rfl) rfl #[.agg #[.slice Ao55 t304.length co55, .slice Ao60 t307.length co60, .slice Ao61 t310.length co61, .int .i64 t313], .agg #[.slice Ao80 t328.length co80, .slice Ao81 t331.length co81, .slice Ao82 t334.length co82, .int .i64 t337]] (by rfl) rfl rfl (by (try simp only [List.map_toArray, List.map_cons, List.map_nil]); first | done | rfl | (simp only [List.length_drop, List.length_take]; rfl)) ?_
        with_reducible refine (laws_eqHeap.calls kj24 _ _ t304 _ _ t307 _ _ t310 t313 _ _ t328 _ _ t331 _ _ t334 t337 true _ ?side1 ?side2 ?side3 ?side4 ?side5 ?side6 ?side7 ?side8 ?side9 ?side10 ?side11 ?side12 A70.out).mono ?_
        (case side1 => repeat (first | exact (Kd.S_reads' HO_315000.out).2.2 | (with_reducible refine Kd.C_alloc ?_ _) | (with_reducible refine Kd.C_drewN ?_ _) | (with_reducible refine Kd.C_drew ?_)))
        (case side2 => exact (Kd.S_reads' HO_315000.out).2.1)
        (case side3 => repeat (first | exact (Kd.R_reads' HO_315001.out).2.2 | (with_reducible refine Kd.C_alloc ?_ _) | (with_reducible refine Kd.C_drewN ?_ _) | (with_reducible refine Kd.C_drew ?_)))
        (case side4 => exact (Kd.R_reads' HO_315001.out).2.1)
        (case side5 => repeat (first | exact (Kd.R_reads' HO_315002.out).2.2 | (with_reducible refine Kd.C_alloc ?_ _) | (with_reducible refine Kd.C_drewN ?_ _) | (with_reducible refine Kd.C_drew ?_)))
        (case side6 => exact (Kd.R_reads' HO_315002.out).2.1)
        (case side7 => repeat (first | exact (Kd.S_reads' HO330.out).2.2 | (with_reducible refine Kd.C_alloc ?_ _) | (with_reducible refine Kd.C_drewN ?_ _) | (with_reducible refine Kd.C_drew ?_)))
        (case side8 => exact (Kd.S_reads' HO330.out).2.1)
        (case side9 => repeat (first | exact (Kd.R_reads' HO333.out).2.2 | (with_reducible refine Kd.C_alloc ?_ _) | (with_reducible refine Kd.C_drewN ?_ _) | (with_reducible refine Kd.C_drew ?_)))
        (case side10 => exact (Kd.R_reads' HO333.out).2.1)
        (case side11 => repeat (first | exact (Kd.R_reads' HO336.out).2.2 | (with_reducible refine Kd.C_alloc ?_ _) | (with_reducible refine Kd.C_drewN ?_ _) | (with_reducible refine Kd.C_drew ?_)))
        (case side12 => exact (Kd.R_reads' HO336.out).2.1)
        rintro e w83 ⟨rfl, hb⟩
        refine ⟨_, rfl, ?_⟩
        have n0_ := Aside0.mk (Kd.S_below (lS HO_304000.out) hb)
        have n1_ := Aside0.mk (Kd.R_below (lR HO_304001.out) hb)
        have n2_ := Aside0.mk (Kd.R_below (lR HO_304002.out) hb)
        have n3_ := Aside0.mk (Kd.S_below (lS HO_315000.out) hb)
        have n4_ := Aside0.mk (Kd.R_below (lR HO_315001.out) hb)
        have n5_ := Aside0.mk (Kd.R_below (lR HO_315002.out) hb)
        have n6_ := Aside0.mk (Kd.S_below (lS HO319.out) hb)
        have n7_ := Aside0.mk (Kd.R_below (lR HO322.out) hb)
        have n8_ := Aside0.mk (Kd.R_below (lR HO325.out) hb)
        have n9_ := Aside0.mk (Kd.S_below (lS HO330.out) hb)
        have n10_ := Aside0.mk (Kd.R_below (lR HO333.out) hb)
        have n11_ := Aside0.mk (Kd.R_below (lR HO336.out) hb)
        have n12_ := Aside0.mk (blk_below (lK BK267.out) hb)
        have n13_ := Aside0.mk (blk_below (lK BK268.out) hb)
        have n14_ := Aside0.mk (blk_below (lK BK303.out) hb)
        have n15_ := Aside0.mk (blk_below (lK BK314.out) hb)
        have n16_ := Aside0.mk (below_step lB hb)
        clear HO_304000
        clear HO_304001
        clear HO_304002
        clear HO_315000
        clear HO_315001
        clear HO_315002
        clear HO319
        clear HO322
        clear HO325
        clear HO330
        clear HO333
        clear HO336
        clear BK267
        clear BK268
        clear BK303
        clear BK314
        clear HB
        have HO_304000 := n0_
        have HO_304001 := n1_
        have HO_304002 := n2_
        have HO_315000 := n3_
        have HO_315001 := n4_
        have HO_315002 := n5_
        have HO319 := n6_
        have HO322 := n7_
        have HO325 := n8_
        have HO330 := n9_
        have HO333 := n10_
        have HO336 := n11_
        have BK267 := n12_
        have BK268 := n13_
        have BK303 := n14_
        have BK314 := n15_
        have HB := n16_
        clear n0_ n1_ n2_ n3_ n4_ n5_ n6_ n7_ n8_ n9_ n10_ n11_ n12_ n13_ n14_ n15_ n16_
        (try clear hb)
        (try clear hb2)
        (try clear hk)
        (try clear hi)
        refine hK.out _ _ ⟨bZ BK314.out 0, bZ BK314.out 1, bZ BK314.out 2, bZ BK314.out 3, bZ BK268.out 0, bZ BK268.out 1, bZ BK268.out 2, bZ BK268.out 3⟩ (fun hHeld => ?_)
        clear hK K
        refine norm_ (a' := ?_) ?_ ?_
        rotate_left
        ·show Act.put _ (some 56) _ = _
         simp only [Act.put, List.setIfInBounds_toArray, List.set_cons_zero, List.set_cons_succ, i64_w, i32_w]
         rfl
        refine pur_ 4 57 (bs 5 31) kR ?_
        refine done_ (by kernel_rfl) ?_
        try go_wp2
        go_ret
        exact ⟨lE, lB⟩
       ·replace c71 := Bool.eq_false_iff.mpr c71
        subst c71
        rw [if_neg (show ¬ (false = true) by decide)] at H
        obtain rfl := Option.some.inj H
        try go_wp2
        have n0_ := Aside0.mk (Kd.S_drew HO_304000.out)
        have n1_ := Aside0.mk (Kd.R_drew HO_304001.out)
        have n2_ := Aside0.mk (Kd.R_drew HO_304002.out)
        have n3_ := Aside0.mk (Kd.S_drew HO_315000.out)
        have n4_ := Aside0.mk (Kd.R_drew HO_315001.out)
        have n5_ := Aside0.mk (Kd.R_drew HO_315002.out)
        have n6_ := Aside0.mk (blk_drew BK267.out)
        have n7_ := Aside0.mk (blk_drew BK268.out)
        have n8_ := Aside0.mk (blk_drew BK303.out)
        have n9_ := Aside0.mk (blk_drew BK314.out)
        have n10_ := Aside0.mk (below_drew1 HB.out)
        clear HO_304000
        clear HO_304001
        clear HO_304002
        clear HO_315000
        clear HO_315001
        clear HO_315002
        clear BK267
        clear BK268
        clear BK303
        clear BK314
        clear HB
        have HO_304000 := n0_
        have HO_304001 := n1_
        have HO_304002 := n2_
        have HO_315000 := n3_
        have HO_315001 := n4_
        have HO_315002 := n5_
        have BK267 := n6_
        have BK268 := n7_
        have BK303 := n8_
        have BK314 := n9_
        have HB := n10_
        clear n0_ n1_ n2_ n3_ n4_ n5_ n6_ n7_ n8_ n9_ n10_
        refine start_ (n := 5) (S := fun w' => w'.cell? ⟨gb303, 0, none⟩ = some (.slice Ao46 t293.length co46) ∧ w'.cell? ⟨gb303, 1, none⟩ = some (.slice Ao50 t296.length co50) ∧ w'.cell? ⟨gb303, 2, none⟩ = some (.slice Ao51 t299.length co51) ∧ w'.cell? ⟨gb303, 3, none⟩ = some (.int .i64 t302) ∧ w'.cell? ⟨gb267, 0, none⟩ = some (.slice A0_0 l0_0.length c0_0) ∧ w'.cell? ⟨gb267, 1, none⟩ = some (.slice A0_1 l0_1.length c0_1) ∧ w'.cell? ⟨gb267, 2, none⟩ = some (.slice A0_2 l0_2.length c0_2) ∧ w'.cell? ⟨gb267, 3, none⟩ = some (.int .i64 a0_3)) (ds := []) (bs 5 0) kR rfl kR ⟨bZ BK303.out 0, bZ BK303.out 1, bZ BK303.out 2, bZ BK303.out 3, bZ BK267.out 0, bZ BK267.out 1, bZ BK267.out 2, bZ BK267.out 3⟩ (fun hHeld => ?_)
        generalize wc.drew = w84 at HO_304000 HO_304001 HO_304002 HO_315000 HO_315001 HO_315002 BK267 BK268 BK303 BK314 HB hHeld ⊢
        refine tak_ 0 48 (bs 5 1) kR hHeld ?_
        refine tak_ 1 49 (bs 5 3) kR hHeld ?_
        refine one_ (i := 2) (N := some 50) (bs 5 7) rfl rfl (by kernel_rfl) (by decide) (fun K hK => ?_)
        refine goes_ Try.func16 (by kernel_rfl) rfl #[.agg #[.slice A0_0 l0_0.length c0_0, .slice A0_1 l0_1.length c0_1, .slice A0_2 l0_2.length c0_2, .int .i64 a0_3]] (by rfl) rfl rfl (by (try simp only [List.map_toArray, List.map_cons, List.map_nil]); first | done | rfl | (simp only [List.length_drop, List.length_take]; rfl)) ?_
        with_reducible refine (laws_toHeap.calls kj24 _ _ l0_0 _ _ l0_1 _ _ l0_2 a0_3 t317 t320 t323 t326 _ ?side1 ?side2 ?side3 ?side4 ?side5 ?side6 A66.out).mono ?_
        (case side1 => exact lC (Kd.C_below HR0_0.out HB.out))
        (case side2 => exact HC0_0.out)
        (case side3 => exact lC (Kd.C_below HR0_1.out HB.out))
        (case side4 => exact HC0_1.out)
        (case side5 => exact lC (Kd.C_below HR0_2.out HB.out))
        (case side6 => exact HC0_2.out)
        rintro e w85 ⟨v318, v321, v324, rfl, ho0, ho1, ho2, hb⟩
        refine ⟨_, rfl, ?_⟩
        have n0_ := Aside0.mk (Kd.S_mono (Kd.S_told (Kd.S_told (Kd.S_told (Kd.S_old (lS HO_304000.out) hb) (Kd.S_base ho0)) (Kd.R_base ho1)) (Kd.R_base ho2)) (fun _ h_ => h_.1))
        have n1_ := Aside0.mk (Kd.R_mono (Kd.R_told (Kd.R_told (Kd.R_old (lR HO_304001.out) hb) (Kd.R_base ho1)) (Kd.R_base ho2)) (fun _ h_ => h_.1))
        have n2_ := Aside0.mk (Kd.R_mono (Kd.R_told (Kd.R_told (Kd.R_old (lR HO_304002.out) hb) (Kd.R_base ho1)) (Kd.R_base ho2)) (fun _ h_ => h_.1))
        have n3_ := Aside0.mk (Kd.S_mono (Kd.S_told (Kd.S_told (Kd.S_told (Kd.S_old (lS HO_315000.out) hb) (Kd.S_base ho0)) (Kd.R_base ho1)) (Kd.R_base ho2)) (fun _ h_ => h_.1))
        have n4_ := Aside0.mk (Kd.R_mono (Kd.R_told (Kd.R_told (Kd.R_old (lR HO_315001.out) hb) (Kd.R_base ho1)) (Kd.R_base ho2)) (fun _ h_ => h_.1))
        have n5_ := Aside0.mk (Kd.R_mono (Kd.R_told (Kd.R_told (Kd.R_old (lR HO_315002.out) hb) (Kd.R_base ho1)) (Kd.R_base ho2)) (fun _ h_ => h_.1))
        have n6_ := Aside0.mk (Kd.S_lower (Kd.S_new' (Kd.S_new' (Kd.S_new' (Kd.S_new' (Kd.S_new' (Kd.S_new' ho0 (Kd.S_lt (lS HO_304000.out))) (Kd.R_lt (lR HO_304001.out))) (Kd.R_lt (lR HO_304002.out))) (Kd.S_lt (lS HO_315000.out))) (Kd.R_lt (lR HO_315001.out))) (Kd.R_lt (lR HO_315002.out))) (below_size lB))
        have n7_ := Aside0.mk (Kd.R_lower (Kd.R_new' (Kd.R_new' (Kd.R_new' (Kd.R_new' ho1 (Kd.R_lt (lR HO_304001.out))) (Kd.R_lt (lR HO_304002.out))) (Kd.R_lt (lR HO_315001.out))) (Kd.R_lt (lR HO_315002.out))) (below_size lB))
        have n8_ := Aside0.mk (Kd.R_lower (Kd.R_new' (Kd.R_new' (Kd.R_new' (Kd.R_new' ho2 (Kd.R_lt (lR HO_304001.out))) (Kd.R_lt (lR HO_304002.out))) (Kd.R_lt (lR HO_315001.out))) (Kd.R_lt (lR HO_315002.out))) (below_size lB))
        have n9_ := Aside0.mk (blk_below (lK BK267.out) hb)
        have n10_ := Aside0.mk (blk_below (lK BK268.out) hb)
        have n11_ := Aside0.mk (blk_below (lK BK303.out) hb)
        have n12_ := Aside0.mk (blk_below (lK BK314.out) hb)
        have n13_ := Aside0.mk (below_step lB hb)
        clear HO_304000
        clear HO_304001
        clear HO_304002
        clear HO_315000
        clear HO_315001
        clear HO_315002
        clear BK267
        clear BK268
        clear BK303
        clear BK314
        clear HB
        have HO_304000 := n0_
        have HO_304001 := n1_
        have HO_304002 := n2_
        have HO_315000 := n3_
        have HO_315001 := n4_
        have HO_315002 := n5_
        have HO319 := n6_
        have HO322 := n7_
        have HO325 := n8_
        have BK267 := n9_
        have BK268 := n10_
        have BK303 := n11_
        have BK314 := n12_
        have HB := n13_
        clear n0_ n1_ n2_ n3_ n4_ n5_ n6_ n7_ n8_ n9_ n10_ n11_ n12_ n13_
        (try clear hb)
        (try clear hb2)
        (try clear hk)
        (try clear hi)
        (try clear ho0)
        (try clear ho1)
        (try clear ho2)
        obtain ⟨Ao86, co86, eo86⟩ := Kd.S_slice HO319.out
        (first | subst eo86 | (injection eo86 with f1_ f2_ f3_; have f4_ := f1_.symm; have f5_ := f3_.symm; clear f1_ f2_ f3_; subst f4_; subst f5_))
        obtain ⟨Ao87, co87, eo87⟩ := Kd.R_slice HO322.out
        (first | subst eo87 | (injection eo87 with f1_ f2_ f3_; have f4_ := f1_.symm; have f5_ := f3_.symm; clear f1_ f2_ f3_; subst f4_; subst f5_))
        obtain ⟨Ao88, co88, eo88⟩ := Kd.R_slice HO325.out
        (first | subst eo88 | (injection eo88 with f1_ f2_ f3_; have f4_ := f1_.symm; have f5_ := f3_.symm; clear f1_ f2_ f3_; subst f4_; subst f5_))
        refine hK.out _ _ ⟨bZ BK303.out 0, bZ BK303.out 1, bZ BK303.out 2, bZ BK303.out 3, bZ BK267.out 0, bZ BK267.out 1, bZ BK267.out 2, bZ BK267.out 3⟩ (fun hHeld => ?_)
        clear hK K
        refine norm_ (a' := ?_) ?_ ?_
        rotate_left
        ·show Act.put _ (some 50) _ = _
         simp only [Act.put, List.setIfInBounds_toArray, List.set_cons_zero, List.set_cons_succ, i64_w, i32_w]
         rfl
        refine one_ (i := 3) (N := some 51) (bs 5 15) rfl rfl (by kernel_rfl) (by decide) (fun K hK => ?_)
        refine goes_ Try.func11 (by kernel_rfl) rfl #[.agg #[.slice Ao46 t293.length co46, .slice Ao50 t296.length co50, .slice Ao51 t299.length co51, .int .i64 t302], .agg #[.slice Ao86 t317.length co86, .slice Ao87 t320.length co87, .slice Ao88 t323.length co88, .int .i64 t326]] (by rfl) rfl rfl (by (try simp only [List.map_toArray, List.map_cons, List.map_nil]); first | done | rfl | (simp only [List.length_drop, List.length_take]; rfl)) ?_
        with_reducible refine (laws_eqHeap.calls kj24 _ _ t293 _ _ t296 _ _ t299 t302 _ _ t317 _ _ t320 _ _ t323 t326 true _ ?side1 ?side2 ?side3 ?side4 ?side5 ?side6 ?side7 ?side8 ?side9 ?side10 ?side11 ?side12 A67.out).mono ?_
        (case side1 => repeat (first | exact (Kd.S_reads' HO_304000.out).2.2 | (with_reducible refine Kd.C_alloc ?_ _) | (with_reducible refine Kd.C_drewN ?_ _) | (with_reducible refine Kd.C_drew ?_)))
        (case side2 => exact (Kd.S_reads' HO_304000.out).2.1)
        (case side3 => repeat (first | exact (Kd.R_reads' HO_304001.out).2.2 | (with_reducible refine Kd.C_alloc ?_ _) | (with_reducible refine Kd.C_drewN ?_ _) | (with_reducible refine Kd.C_drew ?_)))
        (case side4 => exact (Kd.R_reads' HO_304001.out).2.1)
        (case side5 => repeat (first | exact (Kd.R_reads' HO_304002.out).2.2 | (with_reducible refine Kd.C_alloc ?_ _) | (with_reducible refine Kd.C_drewN ?_ _) | (with_reducible refine Kd.C_drew ?_)))
        (case side6 => exact (Kd.R_reads' HO_304002.out).2.1)
        (case side7 => repeat (first | exact (Kd.S_reads' HO319.out).2.2 | (with_reducible refine Kd.C_alloc ?_ _) | (with_reducible refine Kd.C_drewN ?_ _) | (with_reducible refine Kd.C_drew ?_)))
        (case side8 => exact (Kd.S_reads' HO319.out).2.1)
        (case side9 => repeat (first | exact (Kd.R_reads' HO322.out).2.2 | (with_reducible refine Kd.C_alloc ?_ _) | (with_reducible refine Kd.C_drewN ?_ _) | (with_reducible refine Kd.C_drew ?_)))
        (case side10 => exact (Kd.R_reads' HO322.out).2.1)
        (case side11 => repeat (first | exact (Kd.R_reads' HO325.out).2.2 | (with_reducible refine Kd.C_alloc ?_ _) | (with_reducible refine Kd.C_drewN ?_ _) | (with_reducible refine Kd.C_drew ?_)))
        (case side12 => exact (Kd.R_reads' HO325.out).2.1)
        rintro e w89 ⟨rfl, hb⟩
        refine ⟨_, rfl, ?_⟩
        have n0_ := Aside0.mk (Kd.S_below (lS HO_304000.out) hb)
        have n1_ := Aside0.mk (Kd.R_below (lR HO_304001.out) hb)
        have n2_ := Aside0.mk (Kd.R_below (lR HO_304002.out) hb)
        have n3_ := Aside0.mk (Kd.S_below (lS HO_315000.out) hb)
        have n4_ := Aside0.mk (Kd.R_below (lR HO_315001.out) hb)
        have n5_ := Aside0.mk (Kd.R_below (lR HO_315002.out) hb)
        have n6_ := Aside0.mk (Kd.S_below (lS HO319.out) hb)
        have n7_ := Aside0.mk (Kd.R_below (lR HO322.out) hb)
        have n8_ := Aside0.mk (Kd.R_below (lR HO325.out) hb)
        have n9_ := Aside0.mk (blk_below (lK BK267.out) hb)
        have n10_ := Aside0.mk (blk_below (lK BK268.out) hb)
        have n11_ := Aside0.mk (blk_below (lK BK303.out) hb)
        have n12_ := Aside0.mk (blk_below (lK BK314.out) hb)
        have n13_ := Aside0.mk (below_step lB hb)
        clear HO_304000
        clear HO_304001
        clear HO_304002
        clear HO_315000
        clear HO_315001
        clear HO_315002
        clear HO319
        clear HO322
        clear HO325
        clear BK267
        clear BK268
        clear BK303
        clear BK314
        clear HB
        have HO_304000 := n0_
        have HO_304001 := n1_
        have HO_304002 := n2_
        have HO_315000 := n3_
        have HO_315001 := n4_
        have HO_315002 := n5_
        have HO319 := n6_
        have HO322 := n7_
        have HO325 := n8_
        have BK267 := n9_
        have BK268 := n10_
        have BK303 := n11_
        have BK314 := n12_
        have HB := n13_
        clear n0_ n1_ n2_ n3_ n4_ n5_ n6_ n7_ n8_ n9_ n10_ n11_ n12_ n13_
        (try clear hb)
        (try clear hb2)
        (try clear hk)
        (try clear hi)
        refine hK.out _ _ ⟨bZ BK303.out 0, bZ BK303.out 1, bZ BK303.out 2, bZ BK303.out 3, bZ BK267.out 0, bZ BK267.out 1, bZ BK267.out 2, bZ BK267.out 3⟩ (fun hHeld => ?_)
        clear hK K
        refine norm_ (a' := ?_) ?_ ?_
        rotate_left
        ·show Act.put _ (some 51) _ = _
         simp only [Act.put, List.setIfInBounds_toArray, List.set_cons_zero, List.set_cons_succ, i64_w, i32_w]
         rfl
        refine pur_ 4 52 (bs 5 31) kR ?_
        refine done_ (by kernel_rfl) ?_
        try go_wp2
        have n0_ := Aside0.mk (Kd.S_drew HO_304000.out)
        have n1_ := Aside0.mk (Kd.R_drew HO_304001.out)
        have n2_ := Aside0.mk (Kd.R_drew HO_304002.out)
        have n3_ := Aside0.mk (Kd.S_drew HO_315000.out)
        have n4_ := Aside0.mk (Kd.R_drew HO_315001.out)
        have n5_ := Aside0.mk (Kd.R_drew HO_315002.out)
        have n6_ := Aside0.mk (Kd.S_drew HO319.out)
        have n7_ := Aside0.mk (Kd.R_drew HO322.out)
        have n8_ := Aside0.mk (Kd.R_drew HO325.out)
        have n9_ := Aside0.mk (blk_drew BK267.out)
        have n10_ := Aside0.mk (blk_drew BK268.out)
        have n11_ := Aside0.mk (blk_drew BK303.out)
        have n12_ := Aside0.mk (blk_drew BK314.out)
        have n13_ := Aside0.mk (below_drew1 HB.out)
        clear HO_304000
        clear HO_304001
        clear HO_304002
        clear HO_315000
        clear HO_315001
        clear HO_315002
        clear HO319
        clear HO322
        clear HO325
        clear BK267
        clear BK268
        clear BK303
        clear BK314
        clear HB
        have HO_304000 := n0_
        have HO_304001 := n1_
        have HO_304002 := n2_
        have HO_315000 := n3_
        have HO_315001 := n4_
        have HO_315002 := n5_
        have HO319 := n6_
        have HO322 := n7_
        have HO325 := n8_
        have BK267 := n9_
        have BK268 := n10_
        have BK303 := n11_
        have BK314 := n12_
        have HB := n13_
        clear n0_ n1_ n2_ n3_ n4_ n5_ n6_ n7_ n8_ n9_ n10_ n11_ n12_ n13_
        refine start_ (n := 5) (S := fun w' => w'.cell? ⟨gb314, 0, none⟩ = some (.slice Ao55 t304.length co55) ∧ w'.cell? ⟨gb314, 1, none⟩ = some (.slice Ao60 t307.length co60) ∧ w'.cell? ⟨gb314, 2, none⟩ = some (.slice Ao61 t310.length co61) ∧ w'.cell? ⟨gb314, 3, none⟩ = some (.int .i64 t313) ∧ w'.cell? ⟨gb268, 0, none⟩ = some (.slice A1_0 l1_0.length c1_0) ∧ w'.cell? ⟨gb268, 1, none⟩ = some (.slice A1_1 l1_1.length c1_1) ∧ w'.cell? ⟨gb268, 2, none⟩ = some (.slice A1_2 l1_2.length c1_2) ∧ w'.cell? ⟨gb268, 3, none⟩ = some (.int .i64 a1_3)) (ds := []) (bs 5 0) kR rfl kR ⟨bZ BK314.out 0, bZ BK314.out 1, bZ BK314.out 2, bZ BK314.out 3, bZ BK268.out 0, bZ BK268.out 1, bZ BK268.out 2, bZ BK268.out 3⟩ (fun hHeld => ?_)
        generalize w89.drew = w90 at HO_304000 HO_304001 HO_304002 HO_315000 HO_315001 HO_315002 HO319 HO322 HO325 BK267 BK268 BK303 BK314 HB hHeld ⊢
        refine tak_ 0 53 (bs 5 1) kR hHeld ?_
        refine tak_ 1 54 (bs 5 3) kR hHeld ?_
        refine one_ (i := 2) (N := some 55) (bs 5 7) rfl rfl (by kernel_rfl) (by decide) (fun K hK => ?_)
        refine goes_ Try.func16 (by kernel_rfl) rfl #[.agg #[.slice A1_0 l1_0.length c1_0, .slice A1_1 l1_1.length c1_1, .slice A1_2 l1_2.length c1_2, .int .i64 a1_3]] (by rfl) rfl rfl (by (try simp only [List.map_toArray, List.map_cons, List.map_nil]); first | done | rfl | (simp only [List.length_drop, List.length_take]; rfl)) ?_
        with_reducible refine (laws_toHeap.calls kj24 _ _ l1_0 _ _ l1_1 _ _ l1_2 a1_3 t328 t331 t334 t337 _ ?side1 ?side2 ?side3 ?side4 ?side5 ?side6 A69.out).mono ?_
        (case side1 => exact lC (Kd.C_below HR1_0.out HB.out))
        (case side2 => exact HC1_0.out)
        (case side3 => exact lC (Kd.C_below HR1_1.out HB.out))
        (case side4 => exact HC1_1.out)
        (case side5 => exact lC (Kd.C_below HR1_2.out HB.out))
        (case side6 => exact HC1_2.out)
        rintro e w91 ⟨v329, v332, v335, rfl, ho0, ho1, ho2, hb⟩
        refine ⟨_, rfl, ?_⟩
        have n0_ := Aside0.mk (Kd.S_mono (Kd.S_told (Kd.S_told (Kd.S_told (Kd.S_old (lS HO_304000.out) hb) (Kd.S_base ho0)) (Kd.R_base ho1)) (Kd.R_base ho2)) (fun _ h_ => h_.1))
        have n1_ := Aside0.mk (Kd.R_mono (Kd.R_told (Kd.R_told (Kd.R_old (lR HO_304001.out) hb) (Kd.R_base ho1)) (Kd.R_base ho2)) (fun _ h_ => h_.1))
        have n2_ := Aside0.mk (Kd.R_mono (Kd.R_told (Kd.R_told (Kd.R_old (lR HO_304002.out) hb) (Kd.R_base ho1)) (Kd.R_base ho2)) (fun _ h_ => h_.1))
        have n3_ := Aside0.mk (Kd.S_mono (Kd.S_told (Kd.S_told (Kd.S_told (Kd.S_old (lS HO_315000.out) hb) (Kd.S_base ho0)) (Kd.R_base ho1)) (Kd.R_base ho2)) (fun _ h_ => h_.1))
        have n4_ := Aside0.mk (Kd.R_mono (Kd.R_told (Kd.R_told (Kd.R_old (lR HO_315001.out) hb) (Kd.R_base ho1)) (Kd.R_base ho2)) (fun _ h_ => h_.1))
        have n5_ := Aside0.mk (Kd.R_mono (Kd.R_told (Kd.R_told (Kd.R_old (lR HO_315002.out) hb) (Kd.R_base ho1)) (Kd.R_base ho2)) (fun _ h_ => h_.1))
        have n6_ := Aside0.mk (Kd.S_mono (Kd.S_told (Kd.S_told (Kd.S_told (Kd.S_old (lS HO319.out) hb) (Kd.S_base ho0)) (Kd.R_base ho1)) (Kd.R_base ho2)) (fun _ h_ => h_.1))
        have n7_ := Aside0.mk (Kd.R_mono (Kd.R_told (Kd.R_told (Kd.R_old (lR HO322.out) hb) (Kd.R_base ho1)) (Kd.R_base ho2)) (fun _ h_ => h_.1))
        have n8_ := Aside0.mk (Kd.R_mono (Kd.R_told (Kd.R_told (Kd.R_old (lR HO325.out) hb) (Kd.R_base ho1)) (Kd.R_base ho2)) (fun _ h_ => h_.1))
        have n9_ := Aside0.mk (Kd.S_lower (Kd.S_new' (Kd.S_new' (Kd.S_new' (Kd.S_new' (Kd.S_new' (Kd.S_new' (Kd.S_new' (Kd.S_new' (Kd.S_new' ho0 (Kd.S_lt (lS HO_304000.out))) (Kd.R_lt (lR HO_304001.out))) (Kd.R_lt (lR HO_304002.out))) (Kd.S_lt (lS HO_315000.out))) (Kd.R_lt (lR HO_315001.out))) (Kd.R_lt (lR HO_315002.out))) (Kd.S_lt (lS HO319.out))) (Kd.R_lt (lR HO322.out))) (Kd.R_lt (lR HO325.out))) (below_size lB))
        have n10_ := Aside0.mk (Kd.R_lower (Kd.R_new' (Kd.R_new' (Kd.R_new' (Kd.R_new' (Kd.R_new' (Kd.R_new' ho1 (Kd.R_lt (lR HO_304001.out))) (Kd.R_lt (lR HO_304002.out))) (Kd.R_lt (lR HO_315001.out))) (Kd.R_lt (lR HO_315002.out))) (Kd.R_lt (lR HO322.out))) (Kd.R_lt (lR HO325.out))) (below_size lB))
        have n11_ := Aside0.mk (Kd.R_lower (Kd.R_new' (Kd.R_new' (Kd.R_new' (Kd.R_new' (Kd.R_new' (Kd.R_new' ho2 (Kd.R_lt (lR HO_304001.out))) (Kd.R_lt (lR HO_304002.out))) (Kd.R_lt (lR HO_315001.out))) (Kd.R_lt (lR HO_315002.out))) (Kd.R_lt (lR HO322.out))) (Kd.R_lt (lR HO325.out))) (below_size lB))
        have n12_ := Aside0.mk (blk_below (lK BK267.out) hb)
        have n13_ := Aside0.mk (blk_below (lK BK268.out) hb)
        have n14_ := Aside0.mk (blk_below (lK BK303.out) hb)
        have n15_ := Aside0.mk (blk_below (lK BK314.out) hb)
        have n16_ := Aside0.mk (below_step lB hb)
        clear HO_304000
        clear HO_304001
        clear HO_304002
        clear HO_315000
        clear HO_315001
        clear HO_315002
        clear HO319
        clear HO322
        clear HO325
        clear BK267
        clear BK268
        clear BK303
        clear BK314
        clear HB
        have HO_304000 := n0_
        have HO_304001 := n1_
        have HO_304002 := n2_
        have HO_315000 := n3_
        have HO_315001 := n4_
        have HO_315002 := n5_
        have HO319 := n6_
        have HO322 := n7_
        have HO325 := n8_
        have HO330 := n9_
        have HO333 := n10_
        have HO336 := n11_
        have BK267 := n12_
        have BK268 := n13_
        have BK303 := n14_
        have BK314 := n15_
        have HB := n16_
        clear n0_ n1_ n2_ n3_ n4_ n5_ n6_ n7_ n8_ n9_ n10_ n11_ n12_ n13_ n14_ n15_ n16_
        (try clear hb)
        (try clear hb2)
        (try clear hk)
        (try clear hi)
        (try clear ho0)
        (try clear ho1)
        (try clear ho2)
        obtain ⟨Ao92, co92, eo92⟩ := Kd.S_slice HO330.out
        (first | subst eo92 | (injection eo92 with f1_ f2_ f3_; have f4_ := f1_.symm; have f5_ := f3_.symm; clear f1_ f2_ f3_; subst f4_; subst f5_))
        obtain ⟨Ao93, co93, eo93⟩ := Kd.R_slice HO333.out
        (first | subst eo93 | (injection eo93 with f1_ f2_ f3_; have f4_ := f1_.symm; have f5_ := f3_.symm; clear f1_ f2_ f3_; subst f4_; subst f5_))
        obtain ⟨Ao94, co94, eo94⟩ := Kd.R_slice HO336.out
        (first | subst eo94 | (injection eo94 with f1_ f2_ f3_; have f4_ := f1_.symm; have f5_ := f3_.symm; clear f1_ f2_ f3_; subst f4_; subst f5_))
        refine hK.out _ _ ⟨bZ BK314.out 0, bZ BK314.out 1, bZ BK314.out 2, bZ BK314.out 3, bZ BK268.out 0, bZ BK268.out 1, bZ BK268.out 2, bZ BK268.out 3⟩ (fun hHeld => ?_)
        clear hK K
        refine norm_ (a' := ?_) ?_ ?_
        rotate_left
        ·show Act.put _ (some 55) _ = _
         simp only [Act.put, List.setIfInBounds_toArray, List.set_cons_zero, List.set_cons_succ, i64_w, i32_w]
         rfl
        refine one_ (i := 3) (N := some 56) (bs 5 15) rfl rfl (by kernel_rfl) (by decide) (fun K hK => ?_)
        refine goes_ Try.func11 (by kernel_rfl) rfl #[.agg #[.slice Ao55 t304.length co55, .slice Ao60 t307.length co60, .slice Ao61 t310.length co61, .int .i64 t313], .agg #[.slice Ao92 t328.length co92, .slice Ao93 t331.length co93, .slice Ao94 t334.length co94, .int .i64 t337]] (by rfl) rfl rfl (by (try simp only [List.map_toArray, List.map_cons, List.map_nil]); first | done | rfl | (simp only [List.length_drop, List.length_take]; rfl)) ?_
        with_reducible refine (laws_eqHeap.calls kj24 _ _ t304 _ _ t307 _ _ t310 t313 _ _ t328 _ _ t331 _ _ t334 t337 false _ ?side1 ?side2 ?side3 ?side4 ?side5 ?side6 ?side7 ?side8 ?side9 ?side10 ?side11 ?side12 A70.out).mono ?_
        (case side1 => repeat (first | exact (Kd.S_reads' HO_315000.out).2.2 | (with_reducible refine Kd.C_alloc ?_ _) | (with_reducible refine Kd.C_drewN ?_ _) | (with_reducible refine Kd.C_drew ?_)))
        (case side2 => exact (Kd.S_reads' HO_315000.out).2.1)
        (case side3 => repeat (first | exact (Kd.R_reads' HO_315001.out).2.2 | (with_reducible refine Kd.C_alloc ?_ _) | (with_reducible refine Kd.C_drewN ?_ _) | (with_reducible refine Kd.C_drew ?_)))
        (case side4 => exact (Kd.R_reads' HO_315001.out).2.1)
        (case side5 => repeat (first | exact (Kd.R_reads' HO_315002.out).2.2 | (with_reducible refine Kd.C_alloc ?_ _) | (with_reducible refine Kd.C_drewN ?_ _) | (with_reducible refine Kd.C_drew ?_)))
        (case side6 => exact (Kd.R_reads' HO_315002.out).2.1)
        (case side7 => repeat (first | exact (Kd.S_reads' HO330.out).2.2 | (with_reducible refine Kd.C_alloc ?_ _) | (with_reducible refine Kd.C_drewN ?_ _) | (with_reducible refine Kd.C_drew ?_)))
        (case side8 => exact (Kd.S_reads' HO330.out).2.1)
        (case side9 => repeat (first | exact (Kd.R_reads' HO333.out).2.2 | (with_reducible refine Kd.C_alloc ?_ _) | (with_reducible refine Kd.C_drewN ?_ _) | (with_reducible refine Kd.C_drew ?_)))
        (case side10 => exact (Kd.R_reads' HO333.out).2.1)
        (case side11 => repeat (first | exact (Kd.R_reads' HO336.out).2.2 | (with_reducible refine Kd.C_alloc ?_ _) | (with_reducible refine Kd.C_drewN ?_ _) | (with_reducible refine Kd.C_drew ?_)))
        (case side12 => exact (Kd.R_reads' HO336.out).2.1)
        rintro e w95 ⟨rfl, hb⟩
        refine ⟨_, rfl, ?_⟩
        have n0_ := Aside0.mk (Kd.S_below (lS HO_304000.out) hb)
        have n1_ := Aside0.mk (Kd.R_below (lR HO_304001.out) hb)
        have n2_ := Aside0.mk (Kd.R_below (lR HO_304002.out) hb)
        have n3_ := Aside0.mk (Kd.S_below (lS HO_315000.out) hb)
        have n4_ := Aside0.mk (Kd.R_below (lR HO_315001.out) hb)
        have n5_ := Aside0.mk (Kd.R_below (lR HO_315002.out) hb)
        have n6_ := Aside0.mk (Kd.S_below (lS HO319.out) hb)
        have n7_ := Aside0.mk (Kd.R_below (lR HO322.out) hb)
        have n8_ := Aside0.mk (Kd.R_below (lR HO325.out) hb)
        have n9_ := Aside0.mk (Kd.S_below (lS HO330.out) hb)
        have n10_ := Aside0.mk (Kd.R_below (lR HO333.out) hb)
        have n11_ := Aside0.mk (Kd.R_below (lR HO336.out) hb)
        have n12_ := Aside0.mk (blk_below (lK BK267.out) hb)
        have n13_ := Aside0.mk (blk_below (lK BK268.out) hb)
        have n14_ := Aside0.mk (blk_below (lK BK303.out) hb)
        have n15_ := Aside0.mk (blk_below (lK BK314.out) hb)
        have n16_ := Aside0.mk (below_step lB hb)
        clear HO_304000
        clear HO_304001
        clear HO_304002
        clear HO_315000
        clear HO_315001
        clear HO_315002
        clear HO319
        clear HO322
        clear HO325
        clear HO330
        clear HO333
        clear HO336
        clear BK267
        clear BK268
        clear BK303
        clear BK314
        clear HB
        have HO_304000 := n0_
        have HO_304001 := n1_
        have HO_304002 := n2_
        have HO_315000 := n3_
        have HO_315001 := n4_
        have HO_315002 := n5_
        have HO319 := n6_
        have HO322 := n7_
        have HO325 := n8_
        have HO330 := n9_
        have HO333 := n10_
        have HO336 := n11_
        have BK267 := n12_
        have BK268 := n13_
        have BK303 := n14_
        have BK314 := n15_
        have HB := n16_
        clear n0_ n1_ n2_ n3_ n4_ n5_ n6_ n7_ n8_ n9_ n10_ n11_ n12_ n13_ n14_ n15_ n16_
        (try clear hb)
        (try clear hb2)
        (try clear hk)
        (try clear hi)
        refine hK.out _ _ ⟨bZ BK314.out 0, bZ BK314.out 1, bZ BK314.out 2, bZ BK314.out 3, bZ BK268.out 0, bZ BK268.out 1, bZ BK268.out 2, bZ BK268.out 3⟩ (fun hHeld => ?_)
        clear hK K
        refine norm_ (a' := ?_) ?_ ?_
        rotate_left
        ·show Act.put _ (some 56) _ = _
         simp only [Act.put, List.setIfInBounds_toArray, List.set_cons_zero, List.set_cons_succ, i64_w, i32_w]
         rfl
        refine pur_ 4 57 (bs 5 31) kR ?_
        refine done_ (by kernel_rfl) ?_
        try go_wp2
        go_ret
        exact ⟨lE, lB⟩
      ·replace c68 := Bool.eq_false_iff.mpr c68
       subst c68
       rw [if_neg (show ¬ (false = true) by decide)] at H
       obtain rfl := Option.some.inj H
       try go_wp2
       have n0_ := Aside0.mk (Kd.S_drew HO_304000.out)
       have n1_ := Aside0.mk (Kd.R_drew HO_304001.out)
       have n2_ := Aside0.mk (Kd.R_drew HO_304002.out)
       have n3_ := Aside0.mk (Kd.S_drew HO_315000.out)
       have n4_ := Aside0.mk (Kd.R_drew HO_315001.out)
       have n5_ := Aside0.mk (Kd.R_drew HO_315002.out)
       have n6_ := Aside0.mk (blk_drew BK267.out)
       have n7_ := Aside0.mk (blk_drew BK268.out)
       have n8_ := Aside0.mk (blk_drew BK303.out)
       have n9_ := Aside0.mk (blk_drew BK314.out)
       have n10_ := Aside0.mk (below_drew1 HB.out)
       clear HO_304000
       clear HO_304001
       clear HO_304002
       clear HO_315000
       clear HO_315001
       clear HO_315002
       clear BK267
       clear BK268
       clear BK303
       clear BK314
       clear HB
       have HO_304000 := n0_
       have HO_304001 := n1_
       have HO_304002 := n2_
       have HO_315000 := n3_
       have HO_315001 := n4_
       have HO_315002 := n5_
       have BK267 := n6_
       have BK268 := n7_
       have BK303 := n8_
       have BK314 := n9_
       have HB := n10_
       clear n0_ n1_ n2_ n3_ n4_ n5_ n6_ n7_ n8_ n9_ n10_
       refine start_ (n := 5) (S := fun w' => w'.cell? ⟨gb303, 0, none⟩ = some (.slice Ao46 t293.length co46) ∧ w'.cell? ⟨gb303, 1, none⟩ = some (.slice Ao50 t296.length co50) ∧ w'.cell? ⟨gb303, 2, none⟩ = some (.slice Ao51 t299.length co51) ∧ w'.cell? ⟨gb303, 3, none⟩ = some (.int .i64 t302) ∧ w'.cell? ⟨gb267, 0, none⟩ = some (.slice A0_0 l0_0.length c0_0) ∧ w'.cell? ⟨gb267, 1, none⟩ = some (.slice A0_1 l0_1.length c0_1) ∧ w'.cell? ⟨gb267, 2, none⟩ = some (.slice A0_2 l0_2.length c0_2) ∧ w'.cell? ⟨gb267, 3, none⟩ = some (.int .i64 a0_3)) (ds := []) (bs 5 0) kR rfl kR ⟨bZ BK303.out 0, bZ BK303.out 1, bZ BK303.out 2, bZ BK303.out 3, bZ BK267.out 0, bZ BK267.out 1, bZ BK267.out 2, bZ BK267.out 3⟩ (fun hHeld => ?_)
       generalize wc.drew = w96 at HO_304000 HO_304001 HO_304002 HO_315000 HO_315001 HO_315002 BK267 BK268 BK303 BK314 HB hHeld ⊢
       refine tak_ 0 48 (bs 5 1) kR hHeld ?_
       refine tak_ 1 49 (bs 5 3) kR hHeld ?_
       refine one_ (i := 2) (N := some 50) (bs 5 7) rfl rfl (by kernel_rfl) (by decide) (fun K hK => ?_)
       refine goes_ Try.func16 (by kernel_rfl) rfl #[.agg #[.slice A0_0 l0_0.length c0_0, .slice A0_1 l0_1.length c0_1, .slice A0_2 l0_2.length c0_2, .int .i64 a0_3]] (by rfl) rfl rfl (by (try simp only [List.map_toArray, List.map_cons, List.map_nil]); first | done | rfl | (simp only [List.length_drop, List.length_take]; rfl)) ?_
       with_reducible refine (laws_toHeap.calls kj24 _ _ l0_0 _ _ l0_1 _ _ l0_2 a0_3 t317 t320 t323 t326 _ ?side1 ?side2 ?side3 ?side4 ?side5 ?side6 A66.out).mono ?_
       (case side1 => exact lC (Kd.C_below HR0_0.out HB.out))
       (case side2 => exact HC0_0.out)
       (case side3 => exact lC (Kd.C_below HR0_1.out HB.out))
       (case side4 => exact HC0_1.out)
       (case side5 => exact lC (Kd.C_below HR0_2.out HB.out))
       (case side6 => exact HC0_2.out)
       rintro e w97 ⟨v318, v321, v324, rfl, ho0, ho1, ho2, hb⟩
       refine ⟨_, rfl, ?_⟩
       have n0_ := Aside0.mk (Kd.S_mono (Kd.S_told (Kd.S_told (Kd.S_told (Kd.S_old (lS HO_304000.out) hb) (Kd.S_base ho0)) (Kd.R_base ho1)) (Kd.R_base ho2)) (fun _ h_ => h_.1))
       have n1_ := Aside0.mk (Kd.R_mono (Kd.R_told (Kd.R_told (Kd.R_old (lR HO_304001.out) hb) (Kd.R_base ho1)) (Kd.R_base ho2)) (fun _ h_ => h_.1))
       have n2_ := Aside0.mk (Kd.R_mono (Kd.R_told (Kd.R_told (Kd.R_old (lR HO_304002.out) hb) (Kd.R_base ho1)) (Kd.R_base ho2)) (fun _ h_ => h_.1))
       have n3_ := Aside0.mk (Kd.S_mono (Kd.S_told (Kd.S_told (Kd.S_told (Kd.S_old (lS HO_315000.out) hb) (Kd.S_base ho0)) (Kd.R_base ho1)) (Kd.R_base ho2)) (fun _ h_ => h_.1))
       have n4_ := Aside0.mk (Kd.R_mono (Kd.R_told (Kd.R_told (Kd.R_old (lR HO_315001.out) hb) (Kd.R_base ho1)) (Kd.R_base ho2)) (fun _ h_ => h_.1))
       have n5_ := Aside0.mk (Kd.R_mono (Kd.R_told (Kd.R_told (Kd.R_old (lR HO_315002.out) hb) (Kd.R_base ho1)) (Kd.R_base ho2)) (fun _ h_ => h_.1))
       have n6_ := Aside0.mk (Kd.S_lower (Kd.S_new' (Kd.S_new' (Kd.S_new' (Kd.S_new' (Kd.S_new' (Kd.S_new' ho0 (Kd.S_lt (lS HO_304000.out))) (Kd.R_lt (lR HO_304001.out))) (Kd.R_lt (lR HO_304002.out))) (Kd.S_lt (lS HO_315000.out))) (Kd.R_lt (lR HO_315001.out))) (Kd.R_lt (lR HO_315002.out))) (below_size lB))
       have n7_ := Aside0.mk (Kd.R_lower (Kd.R_new' (Kd.R_new' (Kd.R_new' (Kd.R_new' ho1 (Kd.R_lt (lR HO_304001.out))) (Kd.R_lt (lR HO_304002.out))) (Kd.R_lt (lR HO_315001.out))) (Kd.R_lt (lR HO_315002.out))) (below_size lB))
       have n8_ := Aside0.mk (Kd.R_lower (Kd.R_new' (Kd.R_new' (Kd.R_new' (Kd.R_new' ho2 (Kd.R_lt (lR HO_304001.out))) (Kd.R_lt (lR HO_304002.out))) (Kd.R_lt (lR HO_315001.out))) (Kd.R_lt (lR HO_315002.out))) (below_size lB))
       have n9_ := Aside0.mk (blk_below (lK BK267.out) hb)
       have n10_ := Aside0.mk (blk_below (lK BK268.out) hb)
       have n11_ := Aside0.mk (blk_below (lK BK303.out) hb)
       have n12_ := Aside0.mk (blk_below (lK BK314.out) hb)
       have n13_ := Aside0.mk (below_step lB hb)
       clear HO_304000
       clear HO_304001
       clear HO_304002
       clear HO_315000
       clear HO_315001
       clear HO_315002
       clear BK267
       clear BK268
       clear BK303
       clear BK314
       clear HB
       have HO_304000 := n0_
       have HO_304001 := n1_
       have HO_304002 := n2_
       have HO_315000 := n3_
       have HO_315001 := n4_
       have HO_315002 := n5_
       have HO319 := n6_
       have HO322 := n7_
       have HO325 := n8_
       have BK267 := n9_
       have BK268 := n10_
       have BK303 := n11_
       have BK314 := n12_
       have HB := n13_
       clear n0_ n1_ n2_ n3_ n4_ n5_ n6_ n7_ n8_ n9_ n10_ n11_ n12_ n13_
       (try clear hb)
       (try clear hb2)
       (try clear hk)
       (try clear hi)
       (try clear ho0)
       (try clear ho1)
       (try clear ho2)
       obtain ⟨Ao98, co98, eo98⟩ := Kd.S_slice HO319.out
       (first | subst eo98 | (injection eo98 with f1_ f2_ f3_; have f4_ := f1_.symm; have f5_ := f3_.symm; clear f1_ f2_ f3_; subst f4_; subst f5_))
       obtain ⟨Ao99, co99, eo99⟩ := Kd.R_slice HO322.out
       (first | subst eo99 | (injection eo99 with f1_ f2_ f3_; have f4_ := f1_.symm; have f5_ := f3_.symm; clear f1_ f2_ f3_; subst f4_; subst f5_))
       obtain ⟨Ao100, co100, eo100⟩ := Kd.R_slice HO325.out
       (first | subst eo100 | (injection eo100 with f1_ f2_ f3_; have f4_ := f1_.symm; have f5_ := f3_.symm; clear f1_ f2_ f3_; subst f4_; subst f5_))
       refine hK.out _ _ ⟨bZ BK303.out 0, bZ BK303.out 1, bZ BK303.out 2, bZ BK303.out 3, bZ BK267.out 0, bZ BK267.out 1, bZ BK267.out 2, bZ BK267.out 3⟩ (fun hHeld => ?_)
       clear hK K
       refine norm_ (a' := ?_) ?_ ?_
       rotate_left
       ·show Act.put _ (some 50) _ = _
        simp only [Act.put, List.setIfInBounds_toArray, List.set_cons_zero, List.set_cons_succ, i64_w, i32_w]
        rfl
       refine one_ (i := 3) (N := some 51) (bs 5 15) rfl rfl (by kernel_rfl) (by decide) (fun K hK => ?_)
       refine goes_ Try.func11 (by kernel_rfl) rfl #[.agg #[.slice Ao46 t293.length co46, .slice Ao50 t296.length co50, .slice Ao51 t299.length co51, .int .i64 t302], .agg #[.slice Ao98 t317.length co98, .slice Ao99 t320.length co99, .slice Ao100 t323.length co100, .int .i64 t326]] (by rfl) rfl rfl (by (try simp only [List.map_toArray, List.map_cons, List.map_nil]); first | done | rfl | (simp only [List.length_drop, List.length_take]; rfl)) ?_
       with_reducible refine (laws_eqHeap.calls kj24 _ _ t293 _ _ t296 _ _ t299 t302 _ _ t317 _ _ t320 _ _ t323 t326 false _ ?side1 ?side2 ?side3 ?side4 ?side5 ?side6 ?side7 ?side8 ?side9 ?side10 ?side11 ?side12 A67.out).mono ?_
       (case side1 => repeat (first | exact (Kd.S_reads' HO_304000.out).2.2 | (with_reducible refine Kd.C_alloc ?_ _) | (with_reducible refine Kd.C_drewN ?_ _) | (with_reducible refine Kd.C_drew ?_)))
       (case side2 => exact (Kd.S_reads' HO_304000.out).2.1)
       (case side3 => repeat (first | exact (Kd.R_reads' HO_304001.out).2.2 | (with_reducible refine Kd.C_alloc ?_ _) | (with_reducible refine Kd.C_drewN ?_ _) | (with_reducible refine Kd.C_drew ?_)))
       (case side4 => exact (Kd.R_reads' HO_304001.out).2.1)
       (case side5 => repeat (first | exact (Kd.R_reads' HO_304002.out).2.2 | (with_reducible refine Kd.C_alloc ?_ _) | (with_reducible refine Kd.C_drewN ?_ _) | (with_reducible refine Kd.C_drew ?_)))
       (case side6 => exact (Kd.R_reads' HO_304002.out).2.1)
       (case side7 => repeat (first | exact (Kd.S_reads' HO319.out).2.2 | (with_reducible refine Kd.C_alloc ?_ _) | (with_reducible refine Kd.C_drewN ?_ _) | (with_reducible refine Kd.C_drew ?_)))
       (case side8 => exact (Kd.S_reads' HO319.out).2.1)
       (case side9 => repeat (first | exact (Kd.R_reads' HO322.out).2.2 | (with_reducible refine Kd.C_alloc ?_ _) | (with_reducible refine Kd.C_drewN ?_ _) | (with_reducible refine Kd.C_drew ?_)))
       (case side10 => exact (Kd.R_reads' HO322.out).2.1)
       (case side11 => repeat (first | exact (Kd.R_reads' HO325.out).2.2 | (with_reducible refine Kd.C_alloc ?_ _) | (with_reducible refine Kd.C_drewN ?_ _) | (with_reducible refine Kd.C_drew ?_)))
       (case side12 => exact (Kd.R_reads' HO325.out).2.1)
       rintro e w101 ⟨rfl, hb⟩
       refine ⟨_, rfl, ?_⟩
       have n0_ := Aside0.mk (Kd.S_below (lS HO_304000.out) hb)
       have n1_ := Aside0.mk (Kd.R_below (lR HO_304001.out) hb)
       have n2_ := Aside0.mk (Kd.R_below (lR HO_304002.out) hb)
       have n3_ := Aside0.mk (Kd.S_below (lS HO_315000.out) hb)
       have n4_ := Aside0.mk (Kd.R_below (lR HO_315001.out) hb)
       have n5_ := Aside0.mk (Kd.R_below (lR HO_315002.out) hb)
       have n6_ := Aside0.mk (Kd.S_below (lS HO319.out) hb)
       have n7_ := Aside0.mk (Kd.R_below (lR HO322.out) hb)
       have n8_ := Aside0.mk (Kd.R_below (lR HO325.out) hb)
       have n9_ := Aside0.mk (blk_below (lK BK267.out) hb)
       have n10_ := Aside0.mk (blk_below (lK BK268.out) hb)
       have n11_ := Aside0.mk (blk_below (lK BK303.out) hb)
       have n12_ := Aside0.mk (blk_below (lK BK314.out) hb)
       have n13_ := Aside0.mk (below_step lB hb)
       clear HO_304000
       clear HO_304001
       clear HO_304002
       clear HO_315000
       clear HO_315001
       clear HO_315002
       clear HO319
       clear HO322
       clear HO325
       clear BK267
       clear BK268
       clear BK303
       clear BK314
       clear HB
       have HO_304000 := n0_
       have HO_304001 := n1_
       have HO_304002 := n2_
       have HO_315000 := n3_
       have HO_315001 := n4_
       have HO_315002 := n5_
       have HO319 := n6_
       have HO322 := n7_
       have HO325 := n8_
       have BK267 := n9_
       have BK268 := n10_
       have BK303 := n11_
       have BK314 := n12_
       have HB := n13_
       clear n0_ n1_ n2_ n3_ n4_ n5_ n6_ n7_ n8_ n9_ n10_ n11_ n12_ n13_
       (try clear hb)
       (try clear hb2)
       (try clear hk)
       (try clear hi)
       refine hK.out _ _ ⟨bZ BK303.out 0, bZ BK303.out 1, bZ BK303.out 2, bZ BK303.out 3, bZ BK267.out 0, bZ BK267.out 1, bZ BK267.out 2, bZ BK267.out 3⟩ (fun hHeld => ?_)
       clear hK K
       refine norm_ (a' := ?_) ?_ ?_
       rotate_left
       ·show Act.put _ (some 51) _ = _
        simp only [Act.put, List.setIfInBounds_toArray, List.set_cons_zero, List.set_cons_succ, i64_w, i32_w]
        rfl
       refine pur_ 4 52 (bs 5 31) kR ?_
       refine done_ (by kernel_rfl) ?_
       try go_wp2
       go_ret
       exact ⟨lE, lB⟩

end Go.Proofs.Ytnocadhibajaoaa.Q
