-- Written by the program wip/tools/pr.py of this claim's session, over the kit's print.py.
import Derived.Test.YtgjojppbichaiaaQx0
import Derived.Test.YtgjojppbichaiaaQx1
namespace Go.Proofs.Ytgjojppbichaiaa.Q
open Go.RowKit Go.Proofs.YtgjojppbichaiaaW.PrintWords Go.Proofs.YtgjojppbichaiaaW.PrintLast Go.Proofs.YtgjojppbichaiaaW.PrintMore
attribute [local go_sem] max2_int min2_int max_two min_two max_three min_three max_four min_four   -- for this text's walks alone
set_option linter.unusedVariables false
set_option linter.unusedSimpArgs false

/-! ### impl_isLined: function 54 -/
mutual
def impl_isLined.j0 : Nat → Bool → List (S86) → List (S63) → Int → Option (Bool)
 | 0, _, _, _, _ => none
 | k + 1, x19, x125000, x125001, x126000 => if x19 = true then (some false) else (impl_isLined.l0 k x125000 (x125000.length : Int) 0 x125000 x125001 x126000)
def impl_isLined.l0 : Nat → List (S86) → Int → Int → List (S86) → List (S63) → Int → Option (Bool)
 | 0, _, _, _, _, _, _ => none
 | k + 1, x21, x22, x23, x125000, x125001, x126000 => if x23 < x22 then (if 0 ≤ x23 then (if x23 < (x21.length : Int) then (if ((rd_T86 x21 x23).f0) = 1 then (impl_isLined.j3 k 0 99 0 x21 x22 x23 x125000 x125001 x126000 ((rd_T86 x21 x23).f0) ((rd_T86 x21 x23).f1) ((rd_T86 x21 x23).f2)) else (if ((rd_T86 x21 x23).f0) = 2 then (impl_isLined.j3 k 1 9 0 x21 x22 x23 x125000 x125001 x126000 ((rd_T86 x21 x23).f0) ((rd_T86 x21 x23).f1) ((rd_T86 x21 x23).f2)) else (if ((rd_T86 x21 x23).f0) = 3 then (impl_isLined.j2 k 0 39 0 x21 x22 x23 ((rd_T86 x21 x23).f0) (((rd_T86 x21 x23).f0) == 3) x125000 x125001 x126000 ((rd_T86 x21 x23).f0) ((rd_T86 x21 x23).f1) ((rd_T86 x21 x23).f2)) else (impl_isLined.j2 k 0 39 0 x21 x22 x23 ((rd_T86 x21 x23).f0) (((rd_T86 x21 x23).f0) == 5) x125000 x125001 x126000 ((rd_T86 x21 x23).f0) ((rd_T86 x21 x23).f1) ((rd_T86 x21 x23).f2))))) else (none)) else (none)) else ((impl_Guard_80_81.f x125001 x126000).bind fun t126 => (some (!t126)))
def impl_isLined.j3 : Nat → Int → Int → Int → List (S86) → Int → Int → List (S86) → List (S63) → Int → Int → Int → Int → Option (Bool)
 | 0, _, _, _, _, _, _, _, _, _, _, _, _ => none
 | k + 1, x6, x7, x8, x21, x22, x23, x125000, x125001, x126000, x129000, x129001, x129002 => (impl_in.f x129001 x6 x7).bind fun t129 => (if t129 = true then ((impl_in.f x129002 0 x8).bind fun t130 => (if t130 = true then (impl_isLined.l0 k x21 x22 (wrap64 (x23 + 1)) x125000 x125001 x126000) else (some false))) else (some false))
def impl_isLined.j2 : Nat → Int → Int → Int → List (S86) → Int → Int → Int → Bool → List (S86) → List (S63) → Int → Int → Int → Int → Option (Bool)
 | 0, _, _, _, _, _, _, _, _, _, _, _, _, _, _ => none
 | k + 1, x6, x7, x8, x21, x22, x23, x28, x33, x125000, x125001, x126000, x129000, x129001, x129002 => if x33 = true then (impl_isLined.j3 k x6 x7 x8 x21 x22 x23 x125000 x125001 x126000 x129000 x129001 x129002) else (if x28 = 4 then (impl_isLined.j3 k x6 0 x126000 x21 x22 x23 x125000 x125001 x126000 x129000 x129001 x129002) else (if x28 = 6 then (impl_isLined.j3 k x6 x7 9 x21 x22 x23 x125000 x125001 x126000 x129000 x129001 x129002) else (some false)))
end
def impl_isLined.f (k : Nat) (l0_0 : List (S86)) (l0_1 : List (S63)) : Option (Bool) := if (l0_0.length : Int) > 120 then (impl_isLined.j0 k true l0_0 l0_1 (l0_0.length : Int)) else (impl_isLined.j0 k (decide ((l0_1.length : Int) > 20)) l0_0 l0_1 (l0_0.length : Int))
theorem impl_isLined.mono_l : ∀ k, (∀ y0 y1 y2 y3, LeO (impl_isLined.j0 k y0 y1 y2 y3) (impl_isLined.j0 (k + 1) y0 y1 y2 y3)) ∧ (∀ y0 y1 y2 y3 y4 y5, LeO (impl_isLined.l0 k y0 y1 y2 y3 y4 y5) (impl_isLined.l0 (k + 1) y0 y1 y2 y3 y4 y5)) ∧ (∀ y0 y1 y2 y3 y4 y5 y6 y7 y8 y9 y10 y11, LeO (impl_isLined.j3 k y0 y1 y2 y3 y4 y5 y6 y7 y8 y9 y10 y11) (impl_isLined.j3 (k + 1) y0 y1 y2 y3 y4 y5 y6 y7 y8 y9 y10 y11)) ∧ (∀ y0 y1 y2 y3 y4 y5 y6 y7 y8 y9 y10 y11 y12 y13, LeO (impl_isLined.j2 k y0 y1 y2 y3 y4 y5 y6 y7 y8 y9 y10 y11 y12 y13) (impl_isLined.j2 (k + 1) y0 y1 y2 y3 y4 y5 y6 y7 y8 y9 y10 y11 y12 y13))
 | 0 => ⟨fun _ _ _ _ r h => by simp [impl_isLined.j0] at h, fun _ _ _ _ _ _ r h => by simp [impl_isLined.l0] at h, fun _ _ _ _ _ _ _ _ _ _ _ _ r h => by simp [impl_isLined.j3] at h, fun _ _ _ _ _ _ _ _ _ _ _ _ _ _ r h => by simp [impl_isLined.j2] at h⟩
 | k + 1 => by
  obtain ⟨ih0, ih1, ih2, ih3⟩ := impl_isLined.mono_l k
  refine ⟨?_, ?_, ?_, ?_⟩
  ·intro y0 y1 y2 y3
   unfold impl_isLined.j0
   repeat' first
   | with_reducible apply ih0
   | with_reducible apply ih1
   | with_reducible apply ih2
   | with_reducible apply ih3
   | (with_reducible exact LeO.refl _)
   | (with_reducible exact LeO.none _)
   | (with_reducible refine LeO.ite ?_ ?_)
   | (with_reducible refine LeO.bind ?_ (fun _ => ?_))
   | apply ih0
   | apply ih1
   | apply ih2
   | apply ih3
   | exact LeO.none _
   | refine LeO.ite ?_ ?_
   | refine LeO.bind ?_ (fun _ => ?_)
  ·intro y0 y1 y2 y3 y4 y5
   unfold impl_isLined.l0
   repeat' first
   | with_reducible apply ih0
   | with_reducible apply ih1
   | with_reducible apply ih2
   | with_reducible apply ih3
   | (with_reducible exact LeO.refl _)
   | (with_reducible exact LeO.none _)
   | (with_reducible refine LeO.ite ?_ ?_)
   | (with_reducible refine LeO.bind ?_ (fun _ => ?_))
   | apply ih0
   | apply ih1
   | apply ih2
   | apply ih3
   | exact LeO.none _
   | refine LeO.ite ?_ ?_
   | refine LeO.bind ?_ (fun _ => ?_)
  ·intro y0 y1 y2 y3 y4 y5 y6 y7 y8 y9 y10 y11
   unfold impl_isLined.j3
   repeat' first
   | with_reducible apply ih0
   | with_reducible apply ih1
   | with_reducible apply ih2
   | with_reducible apply ih3
   | (with_reducible exact LeO.refl _)
   | (with_reducible exact LeO.none _)
   | (with_reducible refine LeO.ite ?_ ?_)
   | (with_reducible refine LeO.bind ?_ (fun _ => ?_))
   | apply ih0
   | apply ih1
   | apply ih2
   | apply ih3
   | exact LeO.none _
   | refine LeO.ite ?_ ?_
   | refine LeO.bind ?_ (fun _ => ?_)
  ·intro y0 y1 y2 y3 y4 y5 y6 y7 y8 y9 y10 y11 y12 y13
   unfold impl_isLined.j2
   repeat' first
   | with_reducible apply ih0
   | with_reducible apply ih1
   | with_reducible apply ih2
   | with_reducible apply ih3
   | (with_reducible exact LeO.refl _)
   | (with_reducible exact LeO.none _)
   | (with_reducible refine LeO.ite ?_ ?_)
   | (with_reducible refine LeO.bind ?_ (fun _ => ?_))
   | apply ih0
   | apply ih1
   | apply ih2
   | apply ih3
   | exact LeO.none _
   | refine LeO.ite ?_ ?_
   | refine LeO.bind ?_ (fun _ => ?_)
theorem impl_isLined.mono : ∀ a0 a1 k, LeO (impl_isLined.f k a0 a1) (impl_isLined.f (k + 1) a0 a1) := by
 intro a0 a1 k
 obtain ⟨ih0, ih1, ih2, ih3⟩ := impl_isLined.mono_l k
 unfold impl_isLined.f
 repeat' first
   | with_reducible apply ih0
   | with_reducible apply ih1
   | with_reducible apply ih2
   | with_reducible apply ih3
   | (with_reducible exact LeO.refl _)
   | (with_reducible exact LeO.none _)
   | (with_reducible refine LeO.ite ?_ ?_)
   | (with_reducible refine LeO.bind ?_ (fun _ => ?_))
   | apply ih0
   | apply ih1
   | apply ih2
   | apply ih3
   | exact LeO.none _
   | refine LeO.ite ?_ ?_
   | refine LeO.bind ?_ (fun _ => ?_)
set_option maxHeartbeats 8000000 in
set_option maxRecDepth 100000 in
theorem impl_isLined.calls (k : Nat) (A0_0 : Option Addr) (c0_0 : Nat) (l0_0 : List (S86)) (A0_1 : Option Addr) (c0_1 : Nat) (l0_1 : List (S63)) (r : Bool) (w : World) (hr0_0 : Kd.C k86 w A0_0 l0_0.length l0_0) (hc0_0 : l0_0.length ≤ c0_0) (hr0_1 : Kd.C k63 w A0_1 l0_1.length l0_1) (hc0_1 : l0_1.length ≤ c0_1) (h : impl_isLined.f k l0_0 l0_1 = some r) :
  Calls Try.prog 54 #[.agg #[.slice A0_0 l0_0.length c0_0, .slice A0_1 l0_1.length c0_1]] w fun e w' => e = .returned (.bool r) ∧ Below w.heap.size w w' := by
 have hu38 := Try.underlying38
 have hu86 := Try.underlying86
 have HR0_0 := Aside0.mk hr0_0
 have HC0_0 := Aside0.mk hc0_0
 clear hr0_0 hc0_0
 have HR0_1 := Aside0.mk hr0_1
 have HC0_1 := Aside0.mk hc0_1
 clear hr0_1 hc0_1
 have HB := Aside0.mk (Below.refl w.heap.size w)
 have H : (if (l0_0.length : Int) > 120 then (impl_isLined.j0 k true l0_0 l0_1 (l0_0.length : Int)) else (impl_isLined.j0 k (decide ((l0_1.length : Int) > 20)) l0_0 l0_1 (l0_0.length : Int))) = some r := h
 clear h
 have HC2 := Aside0.mk H
 clear H
 go_enter Try.func54, Try.ntmps54
 go_upto_region 2 with (first | ((with_reducible refine gate_dst (N := 1) rfl ?_); (try (refine gate_guard (by rfl) ?_; dsimp only)); refine bxe 1 #[.slice A0_0 l0_0.length c0_0, .slice A0_1 l0_1.length c0_1] 38 ?_; intro gb124 hg w3 hbox hb; have n0_ := Aside0.mk (below_step lB hb); have n1_ := Aside0.mk (hbox); have n2_ := lG w hg; have n3_ := lG w hg; clear HB; have HB := n0_; have BK124 := n1_; have GW124 := n2_; have GE124 := n3_; clear n0_ n1_ n2_ n3_; clear hb hbox hg; obtain ⟨hcz4_0, hfz4_0, hcz4_1, hfz4_1⟩ := bk2 BK124.out) | ((with_reducible refine gate_dst (N := 3) rfl ?_); (try (refine gate_guard (by rfl) ?_; dsimp only)); refine bxe 3 #[.int .i64 0] 3 ?_; intro gb125 hg w5 hbox hb; have n0_ := Aside0.mk (blk_below (lK BK124.out) hb); have n1_ := Aside0.mk (below_step lB hb); have n2_ := Aside0.mk (hbox); have n3_ := lG w hg; have n4_ := lG w hg; have n5_ := Aside0.mk ((by rw [hg]; exact Nat.ne_of_lt (blk_lt (lK BK124.out)) : gb124 ≠ gb125)); have n6_ := Aside0.mk ((by rw [hg]; exact Nat.ne_of_gt (blk_lt (lK BK124.out)) : gb125 ≠ gb124)); clear BK124; clear HB; have BK124 := n0_; have HB := n1_; have BK125 := n2_; have GW125 := n3_; have GE125 := n4_; have NB124_125 := n5_; have NB125_124 := n6_; clear n0_ n1_ n2_ n3_ n4_ n5_ n6_; clear hb hbox hg; have hnb6 := NB125_124.out; have hnc6 := NB124_125.out; obtain ⟨hcz7_0, hfz7_0⟩ := bk1 BK125.out))
 (try simp only [Act.put, List.setIfInBounds_toArray, List.set_cons_zero, List.set_cons_succ])
 go_cut [19] (fun v19 wc => ∃ (kq : Nat) (x19_1 : Bool), v19 = .bool x19_1 ∧ Aside0 (impl_isLined.j0 kq x19_1 l0_0 l0_1 (l0_0.length : Int) = some r) ∧ Aside0 (kq ≤ k) ∧ Aside0 (wc.heap[gb124]? = some (.cells #[(.slice A0_0 l0_0.length c0_0), (.slice A0_1 l0_1.length c0_1)] 38 (0, 0))) ∧ Aside0 (wc.heap[gb125]? = some (.cells #[.int .i64 (l0_0.length : Int)] 3 (0, 0))) ∧ Aside0 (Below w.heap.size w wc))
 case first =>
  have H := HC2.out
  clear HC2
  by_cases c8 : (l0_0.length : Int) > 120
  ·rw [if_pos c8] at H
   have c8b0 : decide (120 < (l0_0.length : Int)) = true := decide_eq_true c8
   have c8b1 : decide (120 < l0_0.length) = true := decide_eq_true (by omega)
   clear c8
   (first | rw [c8b0] | (simp only [i64_w, i32_w]; rw [c8b0]) | skip)
   have H' := Aside0.mk H
   clear H
   have hnb9 := NB125_124.out
   have hnc9 := NB124_125.out
   obtain ⟨hcz10_0, hfz10_0⟩ := bk1 BK125.out
   go_wp2
   go_meet
   case rel => exact ⟨_, (true), lF, H', ⟨lN⟩, ⟨lJ BK124.out⟩, ⟨by (with_reducible repeat first | apply bN | apply bD | apply bA); refine blk_put (cs := #[.int .i64 0]) ?_ 0 _ rfl; (with_reducible repeat first | apply bN | apply bD | apply bA); exact BK125.out⟩, ⟨lB⟩⟩
  ·rw [if_neg c8] at H
   have c8b0 : decide (120 < (l0_0.length : Int)) = false := decide_eq_false c8
   have c8b1 : decide (120 < l0_0.length) = false := decide_eq_false (by omega)
   clear c8
   (first | rw [c8b0] | (simp only [i64_w, i32_w]; rw [c8b0]) | skip)
   have H' := Aside0.mk H
   clear H
   have hnb11 := NB125_124.out
   have hnc11 := NB124_125.out
   obtain ⟨hcz12_0, hfz12_0⟩ := bk1 BK125.out
   obtain ⟨hcz13_0, hfz13_0, hcz13_1, hfz13_1⟩ := bk2 BK124.out
   go_wp2
   go_meet
   case rel => exact ⟨_, (decide ((l0_1.length : Int) > 20)), lF, H', ⟨lN⟩, ⟨lJ BK124.out⟩, ⟨by (with_reducible repeat first | apply bN | apply bD | apply bA); refine blk_put (cs := #[.int .i64 0]) ?_ 0 _ rfl; (with_reducible repeat first | apply bN | apply bD | apply bA); exact BK125.out⟩, ⟨lB⟩⟩
 case rest =>
  clear HC2
  try clear c1
  try clear p2
  try clear c5
  try clear c6
  try clear c8
  try clear c8b0
  try clear c8b1
  try clear c9
  try clear c11
  try clear hcz10_0
  try clear hcz12_0
  try clear hcz13_0 hcz13_1
  try clear hcz4_0 hcz4_1
  try clear hcz7_0
  try clear hfz10_0
  try clear hfz12_0
  try clear hfz13_0 hfz13_1
  try clear hfz4_0 hfz4_1
  try clear hfz7_0
  obtain ⟨kq, x19_1, rfl, HA, HJ1, BK124, BK125, HB⟩ := hcut
  cases kq with
  | zero => exact absurd HA.out (by simp [impl_isLined.j0])
  | succ kj1 =>
   have H := HA.out
   clear HA
   simp only [impl_isLined.j0] at H
   by_cases c14 : x19_1 = true
   ·subst c14
    rw [if_pos rfl] at H
    obtain rfl := Option.some.inj H
    first | (go_wp2; go_ret; exact ⟨lE, lB⟩) | (exfalso; simp only [decide_eq_false_iff_not, decide_eq_true_eq] at *; omega)
   ·replace c14 := Bool.eq_false_iff.mpr c14
    subst c14
    rw [if_neg (show ¬ (false = true) by decide)] at H
    have H' := Aside0.mk H
    clear H
    have hnb15 := NB124_125.out
    have hnc15 := NB125_124.out
    obtain ⟨hcz16_0, hfz16_0, hcz16_1, hfz16_1⟩ := bk2 BK124.out
    go_wp2
    go_loopg [23] kj1 (fun kq v23 w' => ∃ (x23_2 : Int), v23 = .int .i64 x23_2 ∧ Aside0 (impl_isLined.l0 kq l0_0 (l0_0.length : Int) x23_2 l0_0 l0_1 (l0_0.length : Int) = some r) ∧ Aside0 (kq ≤ kj1) ∧ Aside0 (w'.heap[gb124]? = some (.cells #[(.slice A0_0 l0_0.length c0_0), (.slice A0_1 l0_1.length c0_1)] 38 (0, 0))) ∧ Aside0 (w'.heap[gb125]? = some (.cells #[.int .i64 (l0_0.length : Int)] 3 (0, 0))) ∧ Aside0 (Below w.heap.size w w'))
    case atStart => exact ⟨(0), lF, H', ⟨Nat.le_refl _⟩, ⟨lK BK124.out⟩, ⟨lK BK125.out⟩, ⟨lB⟩⟩
    case round =>
     clear H'
     try clear c1
     try clear p2
     try clear c5
     try clear c6
     try clear c8
     try clear c8b0
     try clear c8b1
     try clear c9
     try clear c11
     try clear c14
     try clear c15
     try clear hcz10_0
     try clear hcz12_0
     try clear hcz13_0 hcz13_1
     try clear hcz16_0 hcz16_1
     try clear hcz4_0 hcz4_1
     try clear hcz7_0
     try clear hfz10_0
     try clear hfz12_0
     try clear hfz13_0 hfz13_1
     try clear hfz16_0 hfz16_1
     try clear hfz4_0 hfz4_1
     try clear hfz7_0
     try clear p2
     obtain ⟨x23_2, rfl, HA, HK2, BK124, BK125, HB⟩ := hrel
     cases gk with
     | zero => exact absurd HA.out (by simp [impl_isLined.l0])
     | succ k2 =>
      have H := HA.out
      clear HA
      simp only [impl_isLined.l0] at H
      by_cases c17 : x23_2 < (l0_0.length : Int)
      ·rw [if_pos c17] at H
       have c17b0 : decide (x23_2 < (l0_0.length : Int)) = true := decide_eq_true c17
       clear c17
       by_cases c18 : 0 ≤ x23_2
       ·rw [if_pos c18] at H
        have c18b0 : decide (0 ≤ x23_2) = true := decide_eq_true c18
        clear c18
        by_cases c19 : x23_2 < (l0_0.length : Int)
        ·rw [if_pos c19] at H
         have c19b0 : decide (x23_2 < (l0_0.length : Int)) = true := decide_eq_true c19
         clear c19
         have HC20 := Aside0.mk H
         clear H
         have p127 : 0 ≤ (x23_2 : Int) := lD
         have q127 : x23_2 < (l0_0.length : Int) := lD
         obtain ⟨ad127, e127, hx127_0, hx127_1, hx127_2⟩ := at_T86 HR0_0.out x23_2 p127 q127
         cases e127
         replace hx127_0 := pw_cell_below HB.out hx127_0
         replace hx127_1 := pw_cell_below HB.out hx127_1
         replace hx127_2 := pw_cell_below HB.out hx127_2
         replace p127 := eq_true p127
         replace q127 := eq_true q127
         go_upto_block 2 with (first | ((with_reducible refine gate_dst (N := 5) rfl ?_); (try (refine gate_guard (by rfl) ?_; dsimp only)); refine bxe 5 #[.int .i64 0, .int .i64 0, .int .i64 0] 86 ?_; intro gb128 hg w21 hbox hb; have n0_ := Aside0.mk (blk_below (lK BK124.out) hb); have n1_ := Aside0.mk (blk_below (lK BK125.out) hb); have n2_ := Aside0.mk (below_step lB hb); have n3_ := Aside0.mk (hbox); have n4_ := lG w hg; have n5_ := lG w hg; have n6_ := Aside0.mk ((by rw [hg]; exact Nat.ne_of_lt (blk_lt (lK BK124.out)) : gb124 ≠ gb128)); have n7_ := Aside0.mk ((by rw [hg]; exact Nat.ne_of_gt (blk_lt (lK BK124.out)) : gb128 ≠ gb124)); have n8_ := Aside0.mk ((by rw [hg]; exact Nat.ne_of_lt (blk_lt (lK BK125.out)) : gb125 ≠ gb128)); have n9_ := Aside0.mk ((by rw [hg]; exact Nat.ne_of_gt (blk_lt (lK BK125.out)) : gb128 ≠ gb125)); clear BK124; clear BK125; clear HB; have BK124 := n0_; have BK125 := n1_; have HB := n2_; have BK128 := n3_; have GW128 := n4_; have GE128 := n5_; have NB124_128 := n6_; have NB128_124 := n7_; have NB125_128 := n8_; have NB128_125 := n9_; clear n0_ n1_ n2_ n3_ n4_ n5_ n6_ n7_ n8_ n9_; clear hb hbox hg; have hnb22 := NB128_124.out; have hnc22 := NB124_128.out; have hnb23 := NB128_125.out; have hnc23 := NB125_128.out; obtain ⟨hcz24_0, hfz24_0, hcz24_1, hfz24_1, hcz24_2, hfz24_2⟩ := bk3 BK128.out))
         (try simp only [Act.put, List.setIfInBounds_toArray, List.set_cons_zero, List.set_cons_succ])
         go_cut [6, 7, 8] (fun v6 v7 v8 wc => ∃ (kq : Nat) (x6_19 : Int) (x7_19 : Int) (x8_19 : Int), v6 = .int .i64 x6_19 ∧ v7 = .int .i64 x7_19 ∧ v8 = .int .i64 x8_19 ∧ Aside0 (impl_isLined.j3 kq x6_19 x7_19 x8_19 l0_0 (l0_0.length : Int) x23_2 l0_0 l0_1 (l0_0.length : Int) ((rd_T86 l0_0 x23_2).f0) ((rd_T86 l0_0 x23_2).f1) ((rd_T86 l0_0 x23_2).f2) = some r) ∧ Aside0 (kq ≤ k2) ∧ Aside0 (wc.heap[gb124]? = some (.cells #[(.slice (some ad127) l0_0.length c0_0), (.slice A0_1 l0_1.length c0_1)] 38 (0, 0))) ∧ Aside0 (wc.heap[gb125]? = some (.cells #[.int .i64 (l0_0.length : Int)] 3 (0, 0))) ∧ Aside0 (wc.heap[gb128]? = some (.cells #[.int .i64 ((rd_T86 l0_0 x23_2).f0), .int .i64 ((rd_T86 l0_0 x23_2).f1), .int .i64 ((rd_T86 l0_0 x23_2).f2)] 86 (0, 0))) ∧ Aside0 (Below w.heap.size w wc))
         case first =>
          have H := HC20.out
          clear HC20
          by_cases c25 : ((rd_T86 l0_0 x23_2).f0) = 1
          ·rw [if_pos c25] at H
           have c25b0 : (((rd_T86 l0_0 x23_2).f0) == 1) = true := beq_iff_eq.mpr c25
           have c25b1 : (((rd_T86 l0_0 x23_2).f0) != 1) = false := bne_eq_false_iff_eq.mpr c25
           clear c25
           (first | rw [c25b0] | (simp only [i64_w, i32_w]; rw [c25b0]) | skip)
           have H' := Aside0.mk H
           clear H
           go_wp2
           go_meet
           case rel => exact ⟨_, (0), (99), (0), lF, lF, lF, H', ⟨by have := HJ1.out; have := HK2.out; first | omega | exact Nat.le_refl _⟩, ⟨lJ BK124.out⟩, ⟨lJ BK125.out⟩, ⟨by (with_reducible repeat first | apply bN | apply bD | apply bA); refine blk_put (cs := #[.int .i64 ((rd_T86 l0_0 x23_2).f0), .int .i64 ((rd_T86 l0_0 x23_2).f1), .int .i64 0]) ?_ 2 _ rfl; (with_reducible repeat first | apply bN | apply bD | apply bA); refine blk_put (cs := #[.int .i64 ((rd_T86 l0_0 x23_2).f0), .int .i64 0, .int .i64 0]) ?_ 1 _ rfl; (with_reducible repeat first | apply bN | apply bD | apply bA); refine blk_put (cs := #[.int .i64 0, .int .i64 0, .int .i64 0]) ?_ 0 _ rfl; (with_reducible repeat first | apply bN | apply bD | apply bA); exact BK128.out⟩, ⟨lB⟩⟩
          ·rw [if_neg c25] at H
           have c25b0 : (((rd_T86 l0_0 x23_2).f0) == 1) = false := beq_eq_false_iff_ne.mpr c25
           have c25b1 : (((rd_T86 l0_0 x23_2).f0) != 1) = true := bne_iff_ne.mpr c25
           (first | rw [c25b0] | (simp only [i64_w, i32_w]; rw [c25b0]) | skip)
           by_cases c26 : ((rd_T86 l0_0 x23_2).f0) = 2
           ·rw [if_pos c26] at H
            have c26b0 : (((rd_T86 l0_0 x23_2).f0) == 2) = true := beq_iff_eq.mpr c26
            have c26b1 : (((rd_T86 l0_0 x23_2).f0) != 2) = false := bne_eq_false_iff_eq.mpr c26
            clear c26
            have H' := Aside0.mk H
            clear H
            go_wp2
            go_meet
            case rel => exact ⟨_, (1), (9), (0), lF, lF, lF, H', ⟨by have := HJ1.out; have := HK2.out; first | omega | exact Nat.le_refl _⟩, ⟨lJ BK124.out⟩, ⟨lJ BK125.out⟩, ⟨by (with_reducible repeat first | apply bN | apply bD | apply bA); refine blk_put (cs := #[.int .i64 ((rd_T86 l0_0 x23_2).f0), .int .i64 ((rd_T86 l0_0 x23_2).f1), .int .i64 0]) ?_ 2 _ rfl; (with_reducible repeat first | apply bN | apply bD | apply bA); refine blk_put (cs := #[.int .i64 ((rd_T86 l0_0 x23_2).f0), .int .i64 0, .int .i64 0]) ?_ 1 _ rfl; (with_reducible repeat first | apply bN | apply bD | apply bA); refine blk_put (cs := #[.int .i64 0, .int .i64 0, .int .i64 0]) ?_ 0 _ rfl; (with_reducible repeat first | apply bN | apply bD | apply bA); exact BK128.out⟩, ⟨lB⟩⟩
           ·rw [if_neg c26] at H
            have c26b0 : (((rd_T86 l0_0 x23_2).f0) == 2) = false := beq_eq_false_iff_ne.mpr c26
            have c26b1 : (((rd_T86 l0_0 x23_2).f0) != 2) = true := bne_iff_ne.mpr c26
            have HC27 := Aside0.mk H
            clear H
            go_upto_if 33 with (fail)
            go_cut [33] (fun v33 wc => ∃ (kq : Nat) (x33_26 : Bool), v33 = .bool x33_26 ∧ Aside0 (impl_isLined.j2 kq 0 39 0 l0_0 (l0_0.length : Int) x23_2 ((rd_T86 l0_0 x23_2).f0) x33_26 l0_0 l0_1 (l0_0.length : Int) ((rd_T86 l0_0 x23_2).f0) ((rd_T86 l0_0 x23_2).f1) ((rd_T86 l0_0 x23_2).f2) = some r) ∧ Aside0 (kq ≤ k2) ∧ Aside0 (wc.heap[gb124]? = some (.cells #[(.slice (some ad127) l0_0.length c0_0), (.slice A0_1 l0_1.length c0_1)] 38 (0, 0))) ∧ Aside0 (wc.heap[gb125]? = some (.cells #[.int .i64 (l0_0.length : Int)] 3 (0, 0))) ∧ Aside0 (wc.heap[gb128]? = some (.cells #[.int .i64 ((rd_T86 l0_0 x23_2).f0), .int .i64 ((rd_T86 l0_0 x23_2).f1), .int .i64 ((rd_T86 l0_0 x23_2).f2)] 86 (0, 0))) ∧ Aside0 (Below w.heap.size w wc))
            case first =>
             have H := HC27.out
             clear HC27
             by_cases c28 : ((rd_T86 l0_0 x23_2).f0) = 3
             ·rw [if_pos c28] at H
              have c28b0 : (((rd_T86 l0_0 x23_2).f0) == 3) = true := beq_iff_eq.mpr c28
              have c28b1 : (((rd_T86 l0_0 x23_2).f0) != 3) = false := bne_eq_false_iff_eq.mpr c28
              clear c28
              (first | rw [c28b0] | (simp only [i64_w, i32_w]; rw [c28b0]) | skip)
              have H' := Aside0.mk H
              clear H
              go_wp2
              go_meet
              case rel => exact ⟨_, ((((rd_T86 l0_0 x23_2).f0) == 3)), lF, H', ⟨by have := HJ1.out; have := HK2.out; first | omega | exact Nat.le_refl _⟩, ⟨lJ BK124.out⟩, ⟨lJ BK125.out⟩, ⟨by (with_reducible repeat first | apply bN | apply bD | apply bA); refine blk_put (cs := #[.int .i64 ((rd_T86 l0_0 x23_2).f0), .int .i64 ((rd_T86 l0_0 x23_2).f1), .int .i64 0]) ?_ 2 _ rfl; (with_reducible repeat first | apply bN | apply bD | apply bA); refine blk_put (cs := #[.int .i64 ((rd_T86 l0_0 x23_2).f0), .int .i64 0, .int .i64 0]) ?_ 1 _ rfl; (with_reducible repeat first | apply bN | apply bD | apply bA); refine blk_put (cs := #[.int .i64 0, .int .i64 0, .int .i64 0]) ?_ 0 _ rfl; (with_reducible repeat first | apply bN | apply bD | apply bA); exact BK128.out⟩, ⟨lB⟩⟩
             ·rw [if_neg c28] at H
              have c28b0 : (((rd_T86 l0_0 x23_2).f0) == 3) = false := beq_eq_false_iff_ne.mpr c28
              have c28b1 : (((rd_T86 l0_0 x23_2).f0) != 3) = true := bne_iff_ne.mpr c28
              (first | rw [c28b0] | (simp only [i64_w, i32_w]; rw [c28b0]) | skip)
              have H' := Aside0.mk H
              clear H
              go_wp2
              go_meet
              case rel => exact ⟨_, ((((rd_T86 l0_0 x23_2).f0) == 5)), lF, H', ⟨by have := HJ1.out; have := HK2.out; first | omega | exact Nat.le_refl _⟩, ⟨lJ BK124.out⟩, ⟨lJ BK125.out⟩, ⟨by (with_reducible repeat first | apply bN | apply bD | apply bA); refine blk_put (cs := #[.int .i64 ((rd_T86 l0_0 x23_2).f0), .int .i64 ((rd_T86 l0_0 x23_2).f1), .int .i64 0]) ?_ 2 _ rfl; (with_reducible repeat first | apply bN | apply bD | apply bA); refine blk_put (cs := #[.int .i64 ((rd_T86 l0_0 x23_2).f0), .int .i64 0, .int .i64 0]) ?_ 1 _ rfl; (with_reducible repeat first | apply bN | apply bD | apply bA); refine blk_put (cs := #[.int .i64 0, .int .i64 0, .int .i64 0]) ?_ 0 _ rfl; (with_reducible repeat first | apply bN | apply bD | apply bA); exact BK128.out⟩, ⟨lB⟩⟩
            case rest =>
             clear HC27
             try clear c1
             try clear p1
             try clear q1
             try clear hx1
             try clear c2
             try clear p2
             try clear c5
             try clear c6
             try clear c8
             try clear c8b0
             try clear c8b1
             try clear c9
             try clear c11
             try clear p12
             try clear q12
             try clear hx12
             try clear c14
             try clear c15
             try clear c17
             try clear c17b0
             try clear c18
             try clear c18b0
             try clear c19
             try clear c19b0
             try clear c22
             try clear c23
             try clear c25
             try clear c25b0
             try clear c25b1
             try clear c26
             try clear c26b0
             try clear c26b1
             try clear c28
             try clear c28b0
             try clear c28b1
             try clear hcz10_0
             try clear hcz12_0
             try clear hcz13_0 hcz13_1
             try clear hcz16_0 hcz16_1
             try clear hcz24_0 hcz24_1 hcz24_2
             try clear hcz4_0 hcz4_1
             try clear hcz7_0
             try clear hfz10_0
             try clear hfz12_0
             try clear hfz13_0 hfz13_1
             try clear hfz16_0 hfz16_1
             try clear hfz24_0 hfz24_1 hfz24_2
             try clear hfz4_0 hfz4_1
             try clear hfz7_0
             try clear hx127_0
             try clear hx127_1
             try clear hx127_2
             try clear p127
             try clear p2
             try clear q127
             obtain ⟨kq, x33_26, rfl, HA, HJ26, BK124, BK125, BK128, HB⟩ := hcut
             cases kq with
             | zero => exact absurd HA.out (by simp [impl_isLined.j2])
             | succ kj26 =>
              have H := HA.out
              clear HA
              simp only [impl_isLined.j2] at H
              by_cases c29 : x33_26 = true
              ·subst c29
               rw [if_pos rfl] at H
               have H' := Aside0.mk H
               clear H
               go_wp2
               go_meet
               case rel => exact ⟨_, (0), (39), (0), lF, lF, lF, H', ⟨by have := HJ1.out; have := HK2.out; have := HJ26.out; first | omega | exact Nat.le_refl _⟩, ⟨lK BK124.out⟩, ⟨lK BK125.out⟩, ⟨lK BK128.out⟩, ⟨lB⟩⟩
              ·replace c29 := Bool.eq_false_iff.mpr c29
               subst c29
               rw [if_neg (show ¬ (false = true) by decide)] at H
               by_cases c30 : ((rd_T86 l0_0 x23_2).f0) = 4
               ·rw [if_pos c30] at H
                have c30b0 : (((rd_T86 l0_0 x23_2).f0) == 4) = true := beq_iff_eq.mpr c30
                have c30b1 : (((rd_T86 l0_0 x23_2).f0) != 4) = false := bne_eq_false_iff_eq.mpr c30
                clear c30
                have H' := Aside0.mk H
                clear H
                have hnb31 := NB125_124.out
                have hnc31 := NB124_125.out
                have hnb32 := NB125_128.out
                have hnc32 := NB128_125.out
                obtain ⟨hcz33_0, hfz33_0⟩ := bk1 BK125.out
                go_wp2
                go_meet
                case rel => exact ⟨_, (0), (0), ((l0_0.length : Int)), lF, lF, lF, H', ⟨by have := HJ1.out; have := HK2.out; have := HJ26.out; first | omega | exact Nat.le_refl _⟩, ⟨lK BK124.out⟩, ⟨lK BK125.out⟩, ⟨lK BK128.out⟩, ⟨lB⟩⟩
               ·rw [if_neg c30] at H
                have c30b0 : (((rd_T86 l0_0 x23_2).f0) == 4) = false := beq_eq_false_iff_ne.mpr c30
                have c30b1 : (((rd_T86 l0_0 x23_2).f0) != 4) = true := bne_iff_ne.mpr c30
                by_cases c34 : ((rd_T86 l0_0 x23_2).f0) = 6
                ·rw [if_pos c34] at H
                 have c34b0 : (((rd_T86 l0_0 x23_2).f0) == 6) = true := beq_iff_eq.mpr c34
                 have c34b1 : (((rd_T86 l0_0 x23_2).f0) != 6) = false := bne_eq_false_iff_eq.mpr c34
                 clear c34
                 have H' := Aside0.mk H
                 clear H
                 go_wp2
                 go_meet
                 case rel => exact ⟨_, (0), (39), (9), lF, lF, lF, H', ⟨by have := HJ1.out; have := HK2.out; have := HJ26.out; first | omega | exact Nat.le_refl _⟩, ⟨lK BK124.out⟩, ⟨lK BK125.out⟩, ⟨lK BK128.out⟩, ⟨lB⟩⟩
                ·rw [if_neg c34] at H
                 have c34b0 : (((rd_T86 l0_0 x23_2).f0) == 6) = false := beq_eq_false_iff_ne.mpr c34
                 have c34b1 : (((rd_T86 l0_0 x23_2).f0) != 6) = true := bne_iff_ne.mpr c34
                 obtain rfl := Option.some.inj H
                 first | (go_wp2; go_ret; exact ⟨lE, lB⟩) | (exfalso; simp only [decide_eq_false_iff_not, decide_eq_true_eq] at *; omega)
         case rest =>
          clear HC20
          try clear c1
          try clear p1
          try clear q1
          try clear hx1
          try clear c2
          try clear p2
          try clear c3
          try clear c5
          try clear c6
          try clear c8
          try clear c8b0
          try clear c8b1
          try clear c9
          try clear c11
          try clear p12
          try clear q12
          try clear hx12
          try clear c14
          try clear c15
          try clear c17
          try clear c17b0
          try clear c18
          try clear c18b0
          try clear c19
          try clear c19b0
          try clear c22
          try clear c23
          try clear c25
          try clear c25b0
          try clear c25b1
          try clear c26
          try clear c26b0
          try clear c26b1
          try clear c28
          try clear c28b0
          try clear c28b1
          try clear c29
          try clear c30
          try clear c30b0
          try clear c30b1
          try clear c31
          try clear c32
          try clear c34
          try clear c34b0
          try clear c34b1
          try clear hcz10_0
          try clear hcz12_0
          try clear hcz13_0 hcz13_1
          try clear hcz16_0 hcz16_1
          try clear hcz24_0 hcz24_1 hcz24_2
          try clear hcz33_0
          try clear hcz4_0 hcz4_1
          try clear hcz7_0
          try clear hfz10_0
          try clear hfz12_0
          try clear hfz13_0 hfz13_1
          try clear hfz16_0 hfz16_1
          try clear hfz24_0 hfz24_1 hfz24_2
          try clear hfz33_0
          try clear hfz4_0 hfz4_1
          try clear hfz7_0
          try clear hx127_0
          try clear hx127_1
          try clear hx127_2
          try clear p1
          try clear p12
          try clear p127
          try clear p2
          try clear q1
          try clear q12
          try clear q127
          obtain ⟨kq, x6_19, x7_19, x8_19, rfl, rfl, rfl, HA, HJ19, BK124, BK125, BK128, HB⟩ := hcut
          cases kq with
          | zero => exact absurd HA.out (by simp [impl_isLined.j3])
          | succ kj19 =>
           have H := HA.out
           clear HA
           simp only [impl_isLined.j3] at H
           replace H := lO H
           obtain ⟨t129, A35, H⟩ := H
           by_cases c36 : t129 = true
           ·subst c36
            rw [if_pos rfl] at H
            replace H := lO H
            obtain ⟨t130, A37, H⟩ := H
            by_cases c38 : t130 = true
            ·subst c38
             rw [if_pos rfl] at H
             have H' := Aside0.mk H
             clear H
             have hnb39 := NB128_124.out
             have hnc39 := NB124_128.out
             have hnb40 := NB128_125.out
             have hnc40 := NB125_128.out
             obtain ⟨hcz41_0, hfz41_0, hcz41_1, hfz41_1, hcz41_2, hfz41_2⟩ := bk3 BK128.out
             go_wp2_with (first | ((with_reducible refine gate_callee (f := 58) rfl ?_); refine gl_ (some 45) (Try.func58) #[.int .i64 ((rd_T86 l0_0 x23_2).f1), .int .i64 x6_19, .int .i64 x7_19] ?_; (with_reducible refine (impl_in.calls ((rd_T86 l0_0 x23_2).f1) x6_19 x7_19 true _ A35.out).mono ?_); rintro e w' ⟨rfl, ⟨nd, rfl⟩⟩; refine ⟨_, rfl, ?_⟩) | (go_at_call 58; (with_reducible refine (impl_in.calls ((rd_T86 l0_0 x23_2).f2) 0 x8_19 true _ A37.out).mono ?_); rintro e w' ⟨rfl, ⟨nd, rfl⟩⟩))
             go_roundg kj19
             case measure => have := HJ1.out; have := HK2.out; have := HJ19.out; omega
             case rel => exact ⟨(wrap64 (x23_2 + 1)), lF, H', ⟨by have := HJ1.out; have := HK2.out; have := HJ19.out; omega⟩, ⟨lK BK124.out⟩, ⟨lK BK125.out⟩, ⟨lB⟩⟩
            ·replace c38 := Bool.eq_false_iff.mpr c38
             subst c38
             rw [if_neg (show ¬ (false = true) by decide)] at H
             obtain rfl := Option.some.inj H
             have hnb42 := NB128_124.out
             have hnc42 := NB124_128.out
             have hnb43 := NB128_125.out
             have hnc43 := NB125_128.out
             obtain ⟨hcz44_0, hfz44_0, hcz44_1, hfz44_1, hcz44_2, hfz44_2⟩ := bk3 BK128.out
             go_wp2_with (first | ((with_reducible refine gate_callee (f := 58) rfl ?_); refine gl_ (some 45) (Try.func58) #[.int .i64 ((rd_T86 l0_0 x23_2).f1), .int .i64 x6_19, .int .i64 x7_19] ?_; (with_reducible refine (impl_in.calls ((rd_T86 l0_0 x23_2).f1) x6_19 x7_19 true _ A35.out).mono ?_); rintro e w' ⟨rfl, ⟨nd, rfl⟩⟩; refine ⟨_, rfl, ?_⟩) | (go_at_call 58; (with_reducible refine (impl_in.calls ((rd_T86 l0_0 x23_2).f2) 0 x8_19 false _ A37.out).mono ?_); rintro e w' ⟨rfl, ⟨nd, rfl⟩⟩))
             go_ret
             exact ⟨lE, lB⟩
           ·replace c36 := Bool.eq_false_iff.mpr c36
            subst c36
            rw [if_neg (show ¬ (false = true) by decide)] at H
            obtain rfl := Option.some.inj H
            have hnb45 := NB128_124.out
            have hnc45 := NB124_128.out
            have hnb46 := NB128_125.out
            have hnc46 := NB125_128.out
            obtain ⟨hcz47_0, hfz47_0, hcz47_1, hfz47_1, hcz47_2, hfz47_2⟩ := bk3 BK128.out
            go_wp2_with (first | ((with_reducible refine gate_callee (f := 58) rfl ?_); refine gl_ (some 45) (Try.func58) #[.int .i64 ((rd_T86 l0_0 x23_2).f1), .int .i64 x6_19, .int .i64 x7_19] ?_; (with_reducible refine (impl_in.calls ((rd_T86 l0_0 x23_2).f1) x6_19 x7_19 false _ A35.out).mono ?_); rintro e w' ⟨rfl, ⟨nd, rfl⟩⟩; refine ⟨_, rfl, ?_⟩))
            go_ret
            exact ⟨lE, lB⟩
        ·rw [if_neg c19] at H
         exact absurd H (by simp)
       ·rw [if_neg c18] at H
        exact absurd H (by simp)
      ·rw [if_neg c17] at H
       have c17b0 : decide (x23_2 < (l0_0.length : Int)) = false := decide_eq_false c17
       clear c17
       replace H := lO H
       obtain ⟨t126, A48, H⟩ := H
       obtain rfl := Option.some.inj H
       have hnb49 := NB124_125.out
       have hnc49 := NB125_124.out
       obtain ⟨hcz50_0, hfz50_0, hcz50_1, hfz50_1⟩ := bk2 BK124.out
       go_wp2_with (first | ((with_reducible refine gate_callee (f := 80) rfl ?_); refine gl_ (some 58) (Try.func80) #[.slice A0_1 l0_1.length c0_1, .func (.func 81) #[] #[.pointer (some ⟨gb125, 0, none⟩)]] ?_; (with_reducible refine (impl_Guard_80_81.calls _ _ l0_1 gb125 (l0_0.length : Int) t126 _ ?side1 ?side2 ?side3 A48.out).mono ?_); (case side1 => exact lC (Kd.C_below HR0_1.out HB.out)); (case side2 => exact HC0_1.out); (case side3 => exact (lK BK125.out)); rintro e w51 ⟨rfl, hb⟩; refine ⟨_, rfl, ?_⟩; have n0_ := Aside0.mk (blk_below (lK BK124.out) hb); have n1_ := Aside0.mk (blk_below (lK BK125.out) hb); have n2_ := Aside0.mk (below_step lB hb); clear BK124; clear BK125; clear HB; have BK124 := n0_; have BK125 := n1_; have HB := n2_; clear n0_ n1_ n2_; (try clear hb); (try clear hb2); (try clear hk); (try clear hi)))
       go_ret
       exact ⟨lE, lB⟩

/-! ### impl_GoodLined: function 20 -/
def impl_GoodLined.f (k : Nat) (l0_0 : List (S86)) (l0_1 : List (S63)) : Option (Bool) := (impl_isLined.f k l0_0 l0_1).bind fun t132 => (some t132)
theorem impl_GoodLined.mono : ∀ a0 a1 k, LeO (impl_GoodLined.f k a0 a1) (impl_GoodLined.f (k + 1) a0 a1) := by
 intro a0 a1 k
 unfold impl_GoodLined.f
 repeat' first
   | with_reducible apply impl_isLined.mono
   | (with_reducible exact LeO.refl _)
   | (with_reducible exact LeO.none _)
   | (with_reducible refine LeO.ite ?_ ?_)
   | (with_reducible refine LeO.bind ?_ (fun _ => ?_))
   | apply impl_isLined.mono
   | exact LeO.none _
   | refine LeO.ite ?_ ?_
   | refine LeO.bind ?_ (fun _ => ?_)
set_option maxHeartbeats 8000000 in
set_option maxRecDepth 100000 in
theorem impl_GoodLined.calls (k : Nat) (A0_0 : Option Addr) (c0_0 : Nat) (l0_0 : List (S86)) (A0_1 : Option Addr) (c0_1 : Nat) (l0_1 : List (S63)) (r : Bool) (w : World) (hr0_0 : Kd.C k86 w A0_0 l0_0.length l0_0) (hc0_0 : l0_0.length ≤ c0_0) (hr0_1 : Kd.C k63 w A0_1 l0_1.length l0_1) (hc0_1 : l0_1.length ≤ c0_1) (h : impl_GoodLined.f k l0_0 l0_1 = some r) :
  Calls Try.prog 20 #[.agg #[.slice A0_0 l0_0.length c0_0, .slice A0_1 l0_1.length c0_1]] w fun e w' => e = .returned (.bool r) ∧ Below w.heap.size w w' := by
 have hu38 := Try.underlying38
 have HR0_0 := Aside0.mk hr0_0
 have HC0_0 := Aside0.mk hc0_0
 clear hr0_0 hc0_0
 have HR0_1 := Aside0.mk hr0_1
 have HC0_1 := Aside0.mk hc0_1
 clear hr0_1 hc0_1
 have HB := Aside0.mk (Below.refl w.heap.size w)
 have H : ((impl_isLined.f k l0_0 l0_1).bind fun t132 => (some t132)) = some r := h
 clear h
 replace H := lO H
 obtain ⟨t132, A2, H⟩ := H
 obtain rfl := Option.some.inj H
 go_enter Try.func20, Try.ntmps20
 go_wp2_with (first | ((with_reducible refine gate_dst (N := 1) rfl ?_); refine bxe 1 #[.slice A0_0 l0_0.length c0_0, .slice A0_1 l0_1.length c0_1] 38 ?_; intro gb131 hg w3 hbox hb; have n0_ := Aside0.mk (below_step lB hb); have n1_ := Aside0.mk (hbox); have n2_ := lG w hg; have n3_ := lG w hg; clear HB; have HB := n0_; have BK131 := n1_; have GW131 := n2_; have GE131 := n3_; clear n0_ n1_ n2_ n3_; clear hb hbox hg; obtain ⟨hcz4_0, hfz4_0, hcz4_1, hfz4_1⟩ := bk2 BK131.out) | ((with_reducible refine gate_callee (f := 54) rfl ?_); refine gl_ (some 4) (Try.func54) #[.agg #[.slice A0_0 l0_0.length c0_0, .slice A0_1 l0_1.length c0_1]] ?_; (with_reducible refine (impl_isLined.calls k _ _ l0_0 _ _ l0_1 t132 _ ?side1 ?side2 ?side3 ?side4 A2.out).mono ?_); (case side1 => exact lC (Kd.C_below HR0_0.out HB.out)); (case side2 => exact HC0_0.out); (case side3 => exact lC (Kd.C_below HR0_1.out HB.out)); (case side4 => exact HC0_1.out); rintro e w5 ⟨rfl, hb⟩; refine ⟨_, rfl, ?_⟩; have n0_ := Aside0.mk (blk_below (lK BK131.out) hb); have n1_ := Aside0.mk (below_step lB hb); clear BK131; clear HB; have BK131 := n0_; have HB := n1_; clear n0_ n1_; (try clear hb); (try clear hb2); (try clear hk); (try clear hi)))
 go_ret
 exact ⟨lE, lB⟩

/-! ### spec_l16Guard: function 57 -/
def spec_l16Guard.l0 : Nat → Int → Int → List (S63) → Int → Int → Option (Int)
 | 0, _, _, _, _, _ => none
 | k + 1, x1, x2, x10, x11, x12 => if x12 < x11 then (if 0 ≤ x12 then (if x12 < (x10.length : Int) then (if x1 ≥ ((rd_T63 x10 x12).f0) then (if x1 < ((rd_T63 x10 x12).f1) then (if ((rd_T63 x10 x12).f2) = 0 then (some x12) else (if ((rd_T63 x10 x12).f2) = x2 then (some x12) else (spec_l16Guard.l0 k x1 x2 x10 x11 (wrap64 (x12 + 1))))) else (spec_l16Guard.l0 k x1 x2 x10 x11 (wrap64 (x12 + 1)))) else (spec_l16Guard.l0 k x1 x2 x10 x11 (wrap64 (x12 + 1)))) else (none)) else (none)) else (some (-1))
def spec_l16Guard.f (k : Nat) (l0_0 : List (S86)) (l0_1 : List (S63)) (a1 : Int) (a2 : Int) : Option (Int) := spec_l16Guard.l0 k a1 a2 l0_1 (l0_1.length : Int) 0
theorem spec_l16Guard.mono_l : ∀ k, (∀ y0 y1 y2 y3 y4, LeO (spec_l16Guard.l0 k y0 y1 y2 y3 y4) (spec_l16Guard.l0 (k + 1) y0 y1 y2 y3 y4))
 | 0 => fun _ _ _ _ _ r h => by simp [spec_l16Guard.l0] at h
 | k + 1 => by
  have ih0 := spec_l16Guard.mono_l k
  ·intro y0 y1 y2 y3 y4
   unfold spec_l16Guard.l0
   repeat' first
   | with_reducible apply ih0
   | (with_reducible exact LeO.refl _)
   | (with_reducible exact LeO.none _)
   | (with_reducible refine LeO.ite ?_ ?_)
   | (with_reducible refine LeO.bind ?_ (fun _ => ?_))
   | apply ih0
   | exact LeO.none _
   | refine LeO.ite ?_ ?_
   | refine LeO.bind ?_ (fun _ => ?_)
theorem spec_l16Guard.mono : ∀ a0 a1 a2 a3 k, LeO (spec_l16Guard.f k a0 a1 a2 a3) (spec_l16Guard.f (k + 1) a0 a1 a2 a3) := by
 intro a0 a1 a2 a3 k
 have ih0 := spec_l16Guard.mono_l k
 unfold spec_l16Guard.f
 repeat' first
   | with_reducible apply ih0
   | (with_reducible exact LeO.refl _)
   | (with_reducible exact LeO.none _)
   | (with_reducible refine LeO.ite ?_ ?_)
   | (with_reducible refine LeO.bind ?_ (fun _ => ?_))
   | apply ih0
   | exact LeO.none _
   | refine LeO.ite ?_ ?_
   | refine LeO.bind ?_ (fun _ => ?_)
set_option maxHeartbeats 8000000 in
set_option maxRecDepth 100000 in
theorem spec_l16Guard.calls (k : Nat) (A0_0 : Option Addr) (c0_0 : Nat) (l0_0 : List (S86)) (A0_1 : Option Addr) (c0_1 : Nat) (l0_1 : List (S63)) (a1 : Int) (a2 : Int) (r : Int) (w : World) (hr0_0 : Kd.C k86 w A0_0 l0_0.length l0_0) (hc0_0 : l0_0.length ≤ c0_0) (hr0_1 : Kd.C k63 w A0_1 l0_1.length l0_1) (hc0_1 : l0_1.length ≤ c0_1) (h : spec_l16Guard.f k l0_0 l0_1 a1 a2 = some r) :
  Calls Try.prog 57 #[.agg #[.slice A0_0 l0_0.length c0_0, .slice A0_1 l0_1.length c0_1], .int .i64 a1, .int .i64 a2] w fun e w' => e = .returned (.int .i64 r) ∧ Below w.heap.size w w' := by
 have hu38 := Try.underlying38
 have hu63 := Try.underlying63
 have HR0_0 := Aside0.mk hr0_0
 have HC0_0 := Aside0.mk hc0_0
 clear hr0_0 hc0_0
 have HR0_1 := Aside0.mk hr0_1
 have HC0_1 := Aside0.mk hc0_1
 clear hr0_1 hc0_1
 have HB := Aside0.mk (Below.refl w.heap.size w)
 have H : (spec_l16Guard.l0 k a1 a2 l0_1 (l0_1.length : Int) 0) = some r := h
 clear h
 have H' := Aside0.mk H
 clear H
 go_enter Try.func57, Try.ntmps57
 go_wp2_with (first | ((with_reducible refine gate_dst (N := 3) rfl ?_); refine bxe 3 #[.slice A0_0 l0_0.length c0_0, .slice A0_1 l0_1.length c0_1] 38 ?_; intro gb133 hg w4 hbox hb; have n0_ := Aside0.mk (below_step lB hb); have n1_ := Aside0.mk (hbox); have n2_ := lG w hg; have n3_ := lG w hg; clear HB; have HB := n0_; have BK133 := n1_; have GW133 := n2_; have GE133 := n3_; clear n0_ n1_ n2_ n3_; clear hb hbox hg; obtain ⟨hcz5_0, hfz5_0, hcz5_1, hfz5_1⟩ := bk2 BK133.out))
 go_loopg [12] k (fun kq v12 w' => ∃ (x12_1 : Int), v12 = .int .i64 x12_1 ∧ Aside0 (spec_l16Guard.l0 kq a1 a2 l0_1 (l0_1.length : Int) x12_1 = some r) ∧ Aside0 (kq ≤ k) ∧ Aside0 (w'.heap[gb133]? = some (.cells #[(.slice A0_0 l0_0.length c0_0), (.slice A0_1 l0_1.length c0_1)] 38 (0, 0))) ∧ Aside0 (Below w.heap.size w w'))
 case atStart => exact ⟨(0), lF, H', ⟨Nat.le_refl _⟩, ⟨lK BK133.out⟩, ⟨lB⟩⟩
 case round =>
  clear H'
  try clear p2
  try clear c5
  try clear hcz5_0 hcz5_1 hfz5_0 hfz5_1
  obtain ⟨x12_1, rfl, HA, HK1, BK133, HB⟩ := hrel
  cases gk with
  | zero => exact absurd HA.out (by simp [spec_l16Guard.l0])
  | succ k1 =>
   have H := HA.out
   clear HA
   simp only [spec_l16Guard.l0] at H
   by_cases c6 : x12_1 < (l0_1.length : Int)
   ·rw [if_pos c6] at H
    have c6b0 : decide (x12_1 < (l0_1.length : Int)) = true := decide_eq_true c6
    clear c6
    by_cases c7 : 0 ≤ x12_1
    ·rw [if_pos c7] at H
     have c7b0 : decide (0 ≤ x12_1) = true := decide_eq_true c7
     clear c7
     by_cases c8 : x12_1 < (l0_1.length : Int)
     ·rw [if_pos c8] at H
      have c8b0 : decide (x12_1 < (l0_1.length : Int)) = true := decide_eq_true c8
      clear c8
      by_cases c9 : a1 ≥ ((rd_T63 l0_1 x12_1).f0)
      ·rw [if_pos c9] at H
       have c9b0 : decide (((rd_T63 l0_1 x12_1).f0) ≤ a1) = true := decide_eq_true c9
       clear c9
       by_cases c10 : a1 < ((rd_T63 l0_1 x12_1).f1)
       ·rw [if_pos c10] at H
        have c10b0 : decide (a1 < ((rd_T63 l0_1 x12_1).f1)) = true := decide_eq_true c10
        clear c10
        by_cases c11 : ((rd_T63 l0_1 x12_1).f2) = 0
        ·rw [if_pos c11] at H
         have c11b0 : (((rd_T63 l0_1 x12_1).f2) == 0) = true := beq_iff_eq.mpr c11
         have c11b1 : (((rd_T63 l0_1 x12_1).f2) != 0) = false := bne_eq_false_iff_eq.mpr c11
         clear c11
         obtain rfl := Option.some.inj H
         have p134 : 0 ≤ (x12_1 : Int) := lD
         have q134 : x12_1 < (l0_1.length : Int) := lD
         obtain ⟨ad134, e134, hx134_0, hx134_1, hx134_2, hx134_3⟩ := at_T63 HR0_1.out x12_1 p134 q134
         cases e134
         replace hx134_0 := pw_cell_below HB.out hx134_0
         replace hx134_1 := pw_cell_below HB.out hx134_1
         replace hx134_2 := pw_cell_below HB.out hx134_2
         replace hx134_3 := pw_cell_below HB.out hx134_3
         replace p134 := eq_true p134
         replace q134 := eq_true q134
         go_wp2_with (first | ((with_reducible refine gate_dst (N := 8) rfl ?_); refine bxe 8 #[.int .i64 0, .int .i64 0, .int .i64 0, .int .i64 0] 63 ?_; intro gb135 hg w12 hbox hb; have n0_ := Aside0.mk (blk_below (lK BK133.out) hb); have n1_ := Aside0.mk (below_step lB hb); have n2_ := Aside0.mk (hbox); have n3_ := lG w hg; have n4_ := lG w hg; have n5_ := Aside0.mk ((by rw [hg]; exact Nat.ne_of_lt (blk_lt (lK BK133.out)) : gb133 ≠ gb135)); have n6_ := Aside0.mk ((by rw [hg]; exact Nat.ne_of_gt (blk_lt (lK BK133.out)) : gb135 ≠ gb133)); clear BK133; clear HB; have BK133 := n0_; have HB := n1_; have BK135 := n2_; have GW135 := n3_; have GE135 := n4_; have NB133_135 := n5_; have NB135_133 := n6_; clear n0_ n1_ n2_ n3_ n4_ n5_ n6_; clear hb hbox hg; have hnb13 := NB135_133.out; have hnc13 := NB133_135.out; obtain ⟨hcz14_0, hfz14_0, hcz14_1, hfz14_1, hcz14_2, hfz14_2, hcz14_3, hfz14_3⟩ := bk4 BK135.out))
         go_ret
         exact ⟨lE, lB⟩
        ·rw [if_neg c11] at H
         have c11b0 : (((rd_T63 l0_1 x12_1).f2) == 0) = false := beq_eq_false_iff_ne.mpr c11
         have c11b1 : (((rd_T63 l0_1 x12_1).f2) != 0) = true := bne_iff_ne.mpr c11
         by_cases c15 : ((rd_T63 l0_1 x12_1).f2) = a2
         ·rw [if_pos c15] at H
          have c15b0 : (((rd_T63 l0_1 x12_1).f2) == a2) = true := beq_iff_eq.mpr c15
          have c15b1 : (((rd_T63 l0_1 x12_1).f2) != a2) = false := bne_eq_false_iff_eq.mpr c15
          clear c15
          obtain rfl := Option.some.inj H
          have p134 : 0 ≤ (x12_1 : Int) := lD
          have q134 : x12_1 < (l0_1.length : Int) := lD
          obtain ⟨ad134, e134, hx134_0, hx134_1, hx134_2, hx134_3⟩ := at_T63 HR0_1.out x12_1 p134 q134
          cases e134
          replace hx134_0 := pw_cell_below HB.out hx134_0
          replace hx134_1 := pw_cell_below HB.out hx134_1
          replace hx134_2 := pw_cell_below HB.out hx134_2
          replace hx134_3 := pw_cell_below HB.out hx134_3
          replace p134 := eq_true p134
          replace q134 := eq_true q134
          go_wp2_with (first | ((with_reducible refine gate_dst (N := 8) rfl ?_); refine bxe 8 #[.int .i64 0, .int .i64 0, .int .i64 0, .int .i64 0] 63 ?_; intro gb135 hg w16 hbox hb; have n0_ := Aside0.mk (blk_below (lK BK133.out) hb); have n1_ := Aside0.mk (below_step lB hb); have n2_ := Aside0.mk (hbox); have n3_ := lG w hg; have n4_ := lG w hg; have n5_ := Aside0.mk ((by rw [hg]; exact Nat.ne_of_lt (blk_lt (lK BK133.out)) : gb133 ≠ gb135)); have n6_ := Aside0.mk ((by rw [hg]; exact Nat.ne_of_gt (blk_lt (lK BK133.out)) : gb135 ≠ gb133)); clear BK133; clear HB; have BK133 := n0_; have HB := n1_; have BK135 := n2_; have GW135 := n3_; have GE135 := n4_; have NB133_135 := n5_; have NB135_133 := n6_; clear n0_ n1_ n2_ n3_ n4_ n5_ n6_; clear hb hbox hg; have hnb17 := NB135_133.out; have hnc17 := NB133_135.out; obtain ⟨hcz18_0, hfz18_0, hcz18_1, hfz18_1, hcz18_2, hfz18_2, hcz18_3, hfz18_3⟩ := bk4 BK135.out))
          go_ret
          exact ⟨lE, lB⟩
         ·rw [if_neg c15] at H
          have c15b0 : (((rd_T63 l0_1 x12_1).f2) == a2) = false := beq_eq_false_iff_ne.mpr c15
          have c15b1 : (((rd_T63 l0_1 x12_1).f2) != a2) = true := bne_iff_ne.mpr c15
          have H' := Aside0.mk H
          clear H
          have p134 : 0 ≤ (x12_1 : Int) := lD
          have q134 : x12_1 < (l0_1.length : Int) := lD
          obtain ⟨ad134, e134, hx134_0, hx134_1, hx134_2, hx134_3⟩ := at_T63 HR0_1.out x12_1 p134 q134
          cases e134
          replace hx134_0 := pw_cell_below HB.out hx134_0
          replace hx134_1 := pw_cell_below HB.out hx134_1
          replace hx134_2 := pw_cell_below HB.out hx134_2
          replace hx134_3 := pw_cell_below HB.out hx134_3
          replace p134 := eq_true p134
          replace q134 := eq_true q134
          go_wp2_with (first | ((with_reducible refine gate_dst (N := 8) rfl ?_); refine bxe 8 #[.int .i64 0, .int .i64 0, .int .i64 0, .int .i64 0] 63 ?_; intro gb135 hg w19 hbox hb; have n0_ := Aside0.mk (blk_below (lK BK133.out) hb); have n1_ := Aside0.mk (below_step lB hb); have n2_ := Aside0.mk (hbox); have n3_ := lG w hg; have n4_ := lG w hg; have n5_ := Aside0.mk ((by rw [hg]; exact Nat.ne_of_lt (blk_lt (lK BK133.out)) : gb133 ≠ gb135)); have n6_ := Aside0.mk ((by rw [hg]; exact Nat.ne_of_gt (blk_lt (lK BK133.out)) : gb135 ≠ gb133)); clear BK133; clear HB; have BK133 := n0_; have HB := n1_; have BK135 := n2_; have GW135 := n3_; have GE135 := n4_; have NB133_135 := n5_; have NB135_133 := n6_; clear n0_ n1_ n2_ n3_ n4_ n5_ n6_; clear hb hbox hg; have hnb20 := NB135_133.out; have hnc20 := NB133_135.out; obtain ⟨hcz21_0, hfz21_0, hcz21_1, hfz21_1, hcz21_2, hfz21_2, hcz21_3, hfz21_3⟩ := bk4 BK135.out))
          go_roundg k1
          case measure => have := HK1.out; omega
          case rel => exact ⟨(wrap64 (x12_1 + 1)), lF, H', ⟨by have := HK1.out; omega⟩, ⟨lJ BK133.out⟩, ⟨lB⟩⟩
       ·rw [if_neg c10] at H
        have c10b0 : decide (a1 < ((rd_T63 l0_1 x12_1).f1)) = false := decide_eq_false c10
        clear c10
        have H' := Aside0.mk H
        clear H
        have p134 : 0 ≤ (x12_1 : Int) := lD
        have q134 : x12_1 < (l0_1.length : Int) := lD
        obtain ⟨ad134, e134, hx134_0, hx134_1, hx134_2, hx134_3⟩ := at_T63 HR0_1.out x12_1 p134 q134
        cases e134
        replace hx134_0 := pw_cell_below HB.out hx134_0
        replace hx134_1 := pw_cell_below HB.out hx134_1
        replace hx134_2 := pw_cell_below HB.out hx134_2
        replace hx134_3 := pw_cell_below HB.out hx134_3
        replace p134 := eq_true p134
        replace q134 := eq_true q134
        go_wp2_with (first | ((with_reducible refine gate_dst (N := 8) rfl ?_); refine bxe 8 #[.int .i64 0, .int .i64 0, .int .i64 0, .int .i64 0] 63 ?_; intro gb135 hg w22 hbox hb; have n0_ := Aside0.mk (blk_below (lK BK133.out) hb); have n1_ := Aside0.mk (below_step lB hb); have n2_ := Aside0.mk (hbox); have n3_ := lG w hg; have n4_ := lG w hg; have n5_ := Aside0.mk ((by rw [hg]; exact Nat.ne_of_lt (blk_lt (lK BK133.out)) : gb133 ≠ gb135)); have n6_ := Aside0.mk ((by rw [hg]; exact Nat.ne_of_gt (blk_lt (lK BK133.out)) : gb135 ≠ gb133)); clear BK133; clear HB; have BK133 := n0_; have HB := n1_; have BK135 := n2_; have GW135 := n3_; have GE135 := n4_; have NB133_135 := n5_; have NB135_133 := n6_; clear n0_ n1_ n2_ n3_ n4_ n5_ n6_; clear hb hbox hg; have hnb23 := NB135_133.out; have hnc23 := NB133_135.out; obtain ⟨hcz24_0, hfz24_0, hcz24_1, hfz24_1, hcz24_2, hfz24_2, hcz24_3, hfz24_3⟩ := bk4 BK135.out))
        go_roundg k1
        case measure => have := HK1.out; omega
        case rel => exact ⟨(wrap64 (x12_1 + 1)), lF, H', ⟨by have := HK1.out; omega⟩, ⟨lJ BK133.out⟩, ⟨lB⟩⟩
      ·rw [if_neg c9] at H
       have c9b0 : decide (((rd_T63 l0_1 x12_1).f0) ≤ a1) = false := decide_eq_false c9
       clear c9
       have H' := Aside0.mk H
       clear H
       have p134 : 0 ≤ (x12_1 : Int) := lD
       have q134 : x12_1 < (l0_1.length : Int) := lD
       obtain ⟨ad134, e134, hx134_0, hx134_1, hx134_2, hx134_3⟩ := at_T63 HR0_1.out x12_1 p134 q134
       cases e134
       replace hx134_0 := pw_cell_below HB.out hx134_0
       replace hx134_1 := pw_cell_below HB.out hx134_1
       replace hx134_2 := pw_cell_below HB.out hx134_2
       replace hx134_3 := pw_cell_below HB.out hx134_3
       replace p134 := eq_true p134
       replace q134 := eq_true q134
       go_wp2_with (first | ((with_reducible refine gate_dst (N := 8) rfl ?_); refine bxe 8 #[.int .i64 0, .int .i64 0, .int .i64 0, .int .i64 0] 63 ?_; intro gb135 hg w25 hbox hb; have n0_ := Aside0.mk (blk_below (lK BK133.out) hb); have n1_ := Aside0.mk (below_step lB hb); have n2_ := Aside0.mk (hbox); have n3_ := lG w hg; have n4_ := lG w hg; have n5_ := Aside0.mk ((by rw [hg]; exact Nat.ne_of_lt (blk_lt (lK BK133.out)) : gb133 ≠ gb135)); have n6_ := Aside0.mk ((by rw [hg]; exact Nat.ne_of_gt (blk_lt (lK BK133.out)) : gb135 ≠ gb133)); clear BK133; clear HB; have BK133 := n0_; have HB := n1_; have BK135 := n2_; have GW135 := n3_; have GE135 := n4_; have NB133_135 := n5_; have NB135_133 := n6_; clear n0_ n1_ n2_ n3_ n4_ n5_ n6_; clear hb hbox hg; have hnb26 := NB135_133.out; have hnc26 := NB133_135.out; obtain ⟨hcz27_0, hfz27_0, hcz27_1, hfz27_1, hcz27_2, hfz27_2, hcz27_3, hfz27_3⟩ := bk4 BK135.out))
       go_roundg k1
       case measure => have := HK1.out; omega
       case rel => exact ⟨(wrap64 (x12_1 + 1)), lF, H', ⟨by have := HK1.out; omega⟩, ⟨lJ BK133.out⟩, ⟨lB⟩⟩
     ·rw [if_neg c8] at H
      exact absurd H (by simp)
    ·rw [if_neg c7] at H
     exact absurd H (by simp)
   ·rw [if_neg c6] at H
    have c6b0 : decide (x12_1 < (l0_1.length : Int)) = false := decide_eq_false c6
    clear c6
    obtain rfl := Option.some.inj H
    first | (go_wp2; go_ret; exact ⟨lE, lB⟩) | (exfalso; simp only [decide_eq_false_iff_not, decide_eq_true_eq] at *; omega)

end Go.Proofs.Ytgjojppbichaiaa.Q
