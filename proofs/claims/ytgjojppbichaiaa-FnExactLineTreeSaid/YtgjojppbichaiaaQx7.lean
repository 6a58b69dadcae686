-- Written by the program wip/tools/pr.py of this claim's session, over the kit's print.py.
import Derived.Test.YtgjojppbichaiaaQx0
import Derived.Test.YtgjojppbichaiaaQx6
namespace Go.Proofs.Ytgjojppbichaiaa.Q
open Go.RowKit Go.Proofs.YtgjojppbichaiaaW.PrintWords Go.Proofs.YtgjojppbichaiaaW.PrintLast Go.Proofs.YtgjojppbichaiaaW.PrintMore
attribute [local go_sem] max2_int min2_int max_two min_two max_three min_three max_four min_four   -- for this text's walks alone
set_option linter.unusedVariables false
set_option linter.unusedSimpArgs false

/-! ### impl_isLined: function 54 -/
mutual
def impl_isLined.j0 : Nat → Bool → List (S86) → List (S63) → Int → Option (Bool)
 | 0, _, _, _, _ => none
 | k + 1, x19, x199000, x199001, x200000 => if x19 = true then (some false) else (impl_isLined.l0 k x199000 (x199000.length : Int) 0 x199000 x199001 x200000)
def impl_isLined.l0 : Nat → List (S86) → Int → Int → List (S86) → List (S63) → Int → Option (Bool)
 | 0, _, _, _, _, _, _ => none
 | k + 1, x21, x22, x23, x199000, x199001, x200000 => if x23 < x22 then (if 0 ≤ x23 then (if x23 < (x21.length : Int) then (if ((rd_T86 x21 x23).f0) = 1 then (impl_isLined.j3 k 0 99 0 x21 x22 x23 x199000 x199001 x200000 ((rd_T86 x21 x23).f0) ((rd_T86 x21 x23).f1) ((rd_T86 x21 x23).f2)) else (if ((rd_T86 x21 x23).f0) = 2 then (impl_isLined.j3 k 1 9 0 x21 x22 x23 x199000 x199001 x200000 ((rd_T86 x21 x23).f0) ((rd_T86 x21 x23).f1) ((rd_T86 x21 x23).f2)) else (if ((rd_T86 x21 x23).f0) = 3 then (impl_isLined.j2 k 0 39 0 x21 x22 x23 ((rd_T86 x21 x23).f0) (((rd_T86 x21 x23).f0) == 3) x199000 x199001 x200000 ((rd_T86 x21 x23).f0) ((rd_T86 x21 x23).f1) ((rd_T86 x21 x23).f2)) else (impl_isLined.j2 k 0 39 0 x21 x22 x23 ((rd_T86 x21 x23).f0) (((rd_T86 x21 x23).f0) == 5) x199000 x199001 x200000 ((rd_T86 x21 x23).f0) ((rd_T86 x21 x23).f1) ((rd_T86 x21 x23).f2))))) else (none)) else (none)) else ((impl_Guard_80_81.f x199001 x200000).bind fun t200 => (some (!t200)))
def impl_isLined.j3 : Nat → Int → Int → Int → List (S86) → Int → Int → List (S86) → List (S63) → Int → Int → Int → Int → Option (Bool)
 | 0, _, _, _, _, _, _, _, _, _, _, _, _ => none
 | k + 1, x6, x7, x8, x21, x22, x23, x199000, x199001, x200000, x203000, x203001, x203002 => (impl_in.f x203001 x6 x7).bind fun t203 => (if t203 = true then ((impl_in.f x203002 0 x8).bind fun t204 => (if t204 = true then (impl_isLined.l0 k x21 x22 (wrap64 (x23 + 1)) x199000 x199001 x200000) else (some false))) else (some false))
def impl_isLined.j2 : Nat → Int → Int → Int → List (S86) → Int → Int → Int → Bool → List (S86) → List (S63) → Int → Int → Int → Int → Option (Bool)
 | 0, _, _, _, _, _, _, _, _, _, _, _, _, _, _ => none
 | k + 1, x6, x7, x8, x21, x22, x23, x28, x33, x199000, x199001, x200000, x203000, x203001, x203002 => if x33 = true then (impl_isLined.j3 k x6 x7 x8 x21 x22 x23 x199000 x199001 x200000 x203000 x203001 x203002) else (if x28 = 4 then (impl_isLined.j3 k x6 0 x200000 x21 x22 x23 x199000 x199001 x200000 x203000 x203001 x203002) else (if x28 = 6 then (impl_isLined.j3 k x6 x7 9 x21 x22 x23 x199000 x199001 x200000 x203000 x203001 x203002) else (some false)))
end
def impl_isLined.f (k : Nat) (l0_0 : List (S86)) (l0_1 : List (S63)) : Option (Bool) := if (l0_0.length : Int) > 120 then (impl_isLined.j0 k true l0_0 l0_1 (l0_0.length : Int)) else (impl_isLined.j0 k (decide ((l0_1.length : Int) > 20)) l0_0 l0_1 (l0_0.length : Int))
theorem impl_isLined.mono_l : ∀ k, (∀ y0 y1 y2 y3, LeO (impl_isLined.j0 k y0 y1 y2 y3) (impl_isLined.j0 (k + 1) y0 y1 y2 y3)) ∧ (∀ y0 y1 y2 y3 y4 y5, LeO (impl_isLined.l0 k y0 y1 y2 y3 y4 y5) (impl_isLined.l0 (k + 1) y0 y1 y2 y3 y4 y5)) ∧ (∀ y0 y1 y2 y3 y4 y5 y6 y7 y8 y9 y10 y11, LeO (impl_isLined.j3 k y0 y1 y2 y3 y4 y5 y6 y7 y8 y9 y10 y11) (impl_isLined.j3 (k + 1) y0 y1 y2 y3 y4 y5 y6 y7 y8 y9 y10 y11)) ∧ (∀ y0 y1 y2 y3 y4 y5 y6 y7 y8 y9 y10 y11 y12 y13, LeO (impl_isLined.j2 k y0 y1 y2 y3 y4 y5 y6 y7 y8 y9 y10 y11 y12 y13) (impl_isLined.j2 (k + 1) y0 y1 y2 y3 y4 y5 y6 y7 y8 y9 y10 y11 y12 y13))
 | 0 => ⟨fun _ _ _ _ r h => by simp [impl_isLined.j0] at h, fun _ _ _ _ _ _ r h => by simp [impl_isLined.l0] at h, fun _ _ _ _ _ _ _ _ _ _ _ _ r h => by simp [impl_isLined.j3] at h, fun _ _ _ _ _ _ _ _ _ _ _ _ _ _ r h => by simp [impl_isLined.j2] at h⟩
 | k + 1 => by
  obtain ⟨ih0, ih1, ih2, ih3⟩ := impl_isLined.mono_l k
  refine ⟨?_, ?_, ?_, ?_⟩
  ·intro y0 y1 y2 y3
   unfold impl_isLined.j0
   repeat' first
   | with_reducible apply ih0
   | with_reducible apply ih1
   | with_reducible apply ih2
   | with_reducible apply ih3
   | (with_reducible exact LeO.refl _)
   | (with_reducible exact LeO.none _)
   | (with_reducible refine LeO.ite ?_ ?_)
   | (with_reducible refine LeO.bind ?_ (fun _ => ?_))
   | apply ih0
   | apply ih1
   | apply ih2
   | apply ih3
   | exact LeO.none _
   | refine LeO.ite ?_ ?_
   | refine LeO.bind ?_ (fun _ => ?_)
  ·intro y0 y1 y2 y3 y4 y5
   unfold impl_isLined.l0
   repeat' first
   | with_reducible apply ih0
   | with_reducible apply ih1
   | with_reducible apply ih2
   | with_reducible apply ih3
   | (with_reducible exact LeO.refl _)
   | (with_reducible exact LeO.none _)
   | (with_reducible refine LeO.ite ?_ ?_)
   | (with_reducible refine LeO.bind ?_ (fun _ => ?_))
   | apply ih0
   | apply ih1
   | apply ih2
   | apply ih3
   | exact LeO.none _
   | refine LeO.ite ?_ ?_
   | refine LeO.bind ?_ (fun _ => ?_)
  ·intro y0 y1 y2 y3 y4 y5 y6 y7 y8 y9 y10 y11
   unfold impl_isLined.j3
   repeat' first
   | with_reducible apply ih0
   | with_reducible apply ih1
   | with_reducible apply ih2
   | with_reducible apply ih3
   | (with_reducible exact LeO.refl _)
   | (with_reducible exact LeO.none _)
   | (with_reducible refine LeO.ite ?_ ?_)
   | (with_reducible refine LeO.bind ?_ (fun _ => ?_))
   | apply ih0
   | apply ih1
   | apply ih2
   | apply ih3
   | exact LeO.none _
   | refine LeO.ite ?_ ?_
   | refine LeO.bind ?_ (fun _ => ?_)
  ·intro y0 y1 y2 y3 y4 y5 y6 y7 y8 y9 y10 y11 y12 y13
   unfold impl_isLined.j2
   repeat' first
   | with_reducible apply ih0
   | with_reducible apply ih1
   | with_reducible apply ih2
   | with_reducible apply ih3
   | (with_reducible exact LeO.refl _)
   | (with_reducible exact LeO.none _)
   | (with_reducible refine LeO.ite ?_ ?_)
   | (with_reducible refine LeO.bind ?_ (fun _ => ?_))
   | apply ih0
   | apply ih1
   | apply ih2
   | apply ih3
   | exact LeO.none _
   | refine LeO.ite ?_ ?_
   | refine LeO.bind ?_ (fun _ => ?_)
theorem impl_isLined.mono : ∀ a0 a1 k, LeO (impl_isLined.f k a0 a1) (impl_isLined.f (k + 1) a0 a1) := by
 intro a0 a1 k
 obtain ⟨ih0, ih1, ih2, ih3⟩ := impl_isLined.mono_l k
 unfold impl_isLined.f
 repeat' first
   | with_reducible apply ih0
   | with_reducible apply ih1
   | with_reducible apply ih2
   | with_reducible apply ih3
   | (with_reducible exact LeO.refl _)
   | (with_reducible exact LeO.none _)
   | (with_reducible refine LeO.ite ?_ ?_)
   | (with_reducible refine LeO.bind ?_ (fun _ => ?_))
   | apply ih0
   | apply ih1
   | apply ih2
   | apply ih3
   | exact LeO.none _
   | refine LeO.ite ?_ ?_
   | refine LeO.bind ?_ (fun _ => ?_)
set_option maxHeartbeats 8000000 in
set_option maxRecDepth 100000 in
theorem impl_isLined.calls (k : Nat) (A0_0 : Option Addr) (c0_0 : Nat) (l0_0 : List (S86)) (A0_1 : Option Addr) (c0_1 : Nat) (l0_1 : List (S63)) (r : Bool) (w : World) (hr0_0 : Kd.C k86 w A0_0 l0_0.length l0_0) (hc0_0 : l0_0.length ≤ c0_0) (hr0_1 : Kd.C k63 w A0_1 l0_1.length l0_1) (hc0_1 : l0_1.length ≤ c0_1) (h : impl_isLined.f k l0_0 l0_1 = some r) :
  Calls Try.prog 54 #[.agg #[.slice A0_0 l0_0.length c0_0, .slice A0_1 l0_1.length c0_1]] w fun e w' => e = .returned (.bool r) ∧ Below w.heap.size w w' := by
 have hu38 := Try.underlying38
 have hu86 := Try.underlying86
 have HR0_0 := Aside0.mk hr0_0
 have HC0_0 := Aside0.mk hc0_0
 clear hr0_0 hc0_0
 have HR0_1 := Aside0.mk hr0_1
 have HC0_1 := Aside0.mk hc0_1
 clear hr0_1 hc0_1
 have HB := Aside0.mk (Below.refl w.heap.size w)
 have H : (if (l0_0.length : Int) > 120 then (impl_isLined.j0 k true l0_0 l0_1 (l0_0.length : Int)) else (impl_isLined.j0 k (decide ((l0_1.length : Int) > 20)) l0_0 l0_1 (l0_0.length : Int))) = some r := h
 clear h
 have HC2 := Aside0.mk H
 clear H
 go_enter Try.func54, Try.ntmps54
 go_upto_region 2 with (first | ((with_reducible refine gate_dst (N := 1) rfl ?_); (try (refine gate_guard (by rfl) ?_; dsimp only)); refine bxe 1 #[.slice A0_0 l0_0.length c0_0, .slice A0_1 l0_1.length c0_1] 38 ?_; intro gb198 hg w3 hbox hb; have n0_ := Aside0.mk (below_step lB hb); have n1_ := Aside0.mk (hbox); have n2_ := lG w hg; have n3_ := lG w hg; clear HB; have HB := n0_; have BK198 := n1_; have GW198 := n2_; have GE198 := n3_; clear n0_ n1_ n2_ n3_; clear hb hbox hg; obtain ⟨hcz4_0, hfz4_0, hcz4_1, hfz4_1⟩ := bk2 BK198.out) | ((with_reducible refine gate_dst (N := 3) rfl ?_); (try (refine gate_guard (by rfl) ?_; dsimp only)); refine bxe 3 #[.int .i64 0] 3 ?_; intro gb199 hg w5 hbox hb; have n0_ := Aside0.mk (blk_below (lK BK198.out) hb); have n1_ := Aside0.mk (below_step lB hb); have n2_ := Aside0.mk (hbox); have n3_ := lG w hg; have n4_ := lG w hg; have n5_ := Aside0.mk ((by rw [hg]; exact Nat.ne_of_lt (blk_lt (lK BK198.out)) : gb198 ≠ gb199)); have n6_ := Aside0.mk ((by rw [hg]; exact Nat.ne_of_gt (blk_lt (lK BK198.out)) : gb199 ≠ gb198)); clear BK198; clear HB; have BK198 := n0_; have HB := n1_; have BK199 := n2_; have GW199 := n3_; have GE199 := n4_; have NB198_199 := n5_; have NB199_198 := n6_; clear n0_ n1_ n2_ n3_ n4_ n5_ n6_; clear hb hbox hg; have hnb6 := NB199_198.out; have hnc6 := NB198_199.out; obtain ⟨hcz7_0, hfz7_0⟩ := bk1 BK199.out))
 (try simp only [Act.put, List.setIfInBounds_toArray, List.set_cons_zero, List.set_cons_succ])
 go_cut [19] (fun v19 wc => ∃ (kq : Nat) (x19_1 : Bool), v19 = .bool x19_1 ∧ Aside0 (impl_isLined.j0 kq x19_1 l0_0 l0_1 (l0_0.length : Int) = some r) ∧ Aside0 (kq ≤ k) ∧ Aside0 (wc.heap[gb198]? = some (.cells #[(.slice A0_0 l0_0.length c0_0), (.slice A0_1 l0_1.length c0_1)] 38 (0, 0))) ∧ Aside0 (wc.heap[gb199]? = some (.cells #[.int .i64 (l0_0.length : Int)] 3 (0, 0))) ∧ Aside0 (Below w.heap.size w wc))
 case first =>
  have H := HC2.out
  clear HC2
  by_cases c8 : (l0_0.length : Int) > 120
  ·rw [if_pos c8] at H
   have c8b0 : decide (120 < (l0_0.length : Int)) = true := decide_eq_true c8
   have c8b1 : decide (120 < l0_0.length) = true := decide_eq_true (by omega)
   clear c8
   (first | rw [c8b0] | (simp only [i64_w, i32_w]; rw [c8b0]) | skip)
   have H' := Aside0.mk H
   clear H
   have hnb9 := NB199_198.out
   have hnc9 := NB198_199.out
   obtain ⟨hcz10_0, hfz10_0⟩ := bk1 BK199.out
   go_wp2
   go_meet
   case rel => exact ⟨_, (true), lF, H', ⟨lN⟩, ⟨lJ BK198.out⟩, ⟨by (with_reducible repeat first | apply bN | apply bD | apply bA); refine blk_put (cs := #[.int .i64 0]) ?_ 0 _ rfl; (with_reducible repeat first | apply bN | apply bD | apply bA); exact BK199.out⟩, ⟨lB⟩⟩
  ·rw [if_neg c8] at H
   have c8b0 : decide (120 < (l0_0.length : Int)) = false := decide_eq_false c8
   have c8b1 : decide (120 < l0_0.length) = false := decide_eq_false (by omega)
   clear c8
   (first | rw [c8b0] | (simp only [i64_w, i32_w]; rw [c8b0]) | skip)
   have H' := Aside0.mk H
   clear H
   have hnb11 := NB199_198.out
   have hnc11 := NB198_199.out
   obtain ⟨hcz12_0, hfz12_0⟩ := bk1 BK199.out
   obtain ⟨hcz13_0, hfz13_0, hcz13_1, hfz13_1⟩ := bk2 BK198.out
   go_wp2
   go_meet
   case rel => exact ⟨_, (decide ((l0_1.length : Int) > 20)), lF, H', ⟨lN⟩, ⟨lJ BK198.out⟩, ⟨by (with_reducible repeat first | apply bN | apply bD | apply bA); refine blk_put (cs := #[.int .i64 0]) ?_ 0 _ rfl; (with_reducible repeat first | apply bN | apply bD | apply bA); exact BK199.out⟩, ⟨lB⟩⟩
 case rest =>
  clear HC2
  try clear c1
  try clear p2
  try clear c5
  try clear c6
  try clear c8
  try clear c8b0
  try clear c8b1
  try clear c9
  try clear c11
  try clear hcz10_0
  try clear hcz12_0
  try clear hcz13_0 hcz13_1
  try clear hcz4_0 hcz4_1
  try clear hcz7_0
  try clear hfz10_0
  try clear hfz12_0
  try clear hfz13_0 hfz13_1
  try clear hfz4_0 hfz4_1
  try clear hfz7_0
  obtain ⟨kq, x19_1, rfl, HA, HJ1, BK198, BK199, HB⟩ := hcut
  cases kq with
  | zero => exact absurd HA.out (by simp [impl_isLined.j0])
  | succ kj1 =>
   have H := HA.out
   clear HA
   simp only [impl_isLined.j0] at H
   by_cases c14 : x19_1 = true
   ·subst c14
    rw [if_pos rfl] at H
    obtain rfl := Option.some.inj H
    first | (go_wp2; go_ret; exact ⟨lE, lB⟩) | (exfalso; simp only [decide_eq_false_iff_not, decide_eq_true_eq] at *; omega)
   ·replace c14 := Bool.eq_false_iff.mpr c14
    subst c14
    rw [if_neg (show ¬ (false = true) by decide)] at H
    have H' := Aside0.mk H
    clear H
    have hnb15 := NB198_199.out
    have hnc15 := NB199_198.out
    obtain ⟨hcz16_0, hfz16_0, hcz16_1, hfz16_1⟩ := bk2 BK198.out
    go_wp2
    go_loopg [23] kj1 (fun kq v23 w' => ∃ (x23_2 : Int), v23 = .int .i64 x23_2 ∧ Aside0 (impl_isLined.l0 kq l0_0 (l0_0.length : Int) x23_2 l0_0 l0_1 (l0_0.length : Int) = some r) ∧ Aside0 (kq ≤ kj1) ∧ Aside0 (w'.heap[gb198]? = some (.cells #[(.slice A0_0 l0_0.length c0_0), (.slice A0_1 l0_1.length c0_1)] 38 (0, 0))) ∧ Aside0 (w'.heap[gb199]? = some (.cells #[.int .i64 (l0_0.length : Int)] 3 (0, 0))) ∧ Aside0 (Below w.heap.size w w'))
    case atStart => exact ⟨(0), lF, H', ⟨Nat.le_refl _⟩, ⟨lK BK198.out⟩, ⟨lK BK199.out⟩, ⟨lB⟩⟩
    case round =>
     clear H'
     try clear c1
     try clear p2
     try clear c5
     try clear c6
     try clear c8
     try clear c8b0
     try clear c8b1
     try clear c9
     try clear c11
     try clear c14
     try clear c15
     try clear hcz10_0
     try clear hcz12_0
     try clear hcz13_0 hcz13_1
     try clear hcz16_0 hcz16_1
     try clear hcz4_0 hcz4_1
     try clear hcz7_0
     try clear hfz10_0
     try clear hfz12_0
     try clear hfz13_0 hfz13_1
     try clear hfz16_0 hfz16_1
     try clear hfz4_0 hfz4_1
     try clear hfz7_0
     try clear p2
     obtain ⟨x23_2, rfl, HA, HK2, BK198, BK199, HB⟩ := hrel
     cases gk with
     | zero => exact absurd HA.out (by simp [impl_isLined.l0])
     | succ k2 =>
      have H := HA.out
      clear HA
      simp only [impl_isLined.l0] at H
      by_cases c17 : x23_2 < (l0_0.length : Int)
      ·rw [if_pos c17] at H
       have c17b0 : decide (x23_2 < (l0_0.length : Int)) = true := decide_eq_true c17
       clear c17
       by_cases c18 : 0 ≤ x23_2
       ·rw [if_pos c18] at H
        have c18b0 : decide (0 ≤ x23_2) = true := decide_eq_true c18
        clear c18
        by_cases c19 : x23_2 < (l0_0.length : Int)
        ·rw [if_pos c19] at H
         have c19b0 : decide (x23_2 < (l0_0.length : Int)) = true := decide_eq_true c19
         clear c19
         have HC20 := Aside0.mk H
         clear H
         have p201 : 0 ≤ (x23_2 : Int) := lD
         have q201 : x23_2 < (l0_0.length : Int) := lD
         obtain ⟨ad201, e201, hx201_0, hx201_1, hx201_2⟩ := at_T86 HR0_0.out x23_2 p201 q201
         cases e201
         replace hx201_0 := pw_cell_below HB.out hx201_0
         replace hx201_1 := pw_cell_below HB.out hx201_1
         replace hx201_2 := pw_cell_below HB.out hx201_2
         replace p201 := eq_true p201
         replace q201 := eq_true q201
         go_upto_block 2 with (first | ((with_reducible refine gate_dst (N := 5) rfl ?_); (try (refine gate_guard (by rfl) ?_; dsimp only)); refine bxe 5 #[.int .i64 0, .int .i64 0, .int .i64 0] 86 ?_; intro gb202 hg w21 hbox hb; have n0_ := Aside0.mk (blk_below (lK BK198.out) hb); have n1_ := Aside0.mk (blk_below (lK BK199.out) hb); have n2_ := Aside0.mk (below_step lB hb); have n3_ := Aside0.mk (hbox); have n4_ := lG w hg; have n5_ := lG w hg; have n6_ := Aside0.mk ((by rw [hg]; exact Nat.ne_of_lt (blk_lt (lK BK198.out)) : gb198 ≠ gb202)); have n7_ := Aside0.mk ((by rw [hg]; exact Nat.ne_of_gt (blk_lt (lK BK198.out)) : gb202 ≠ gb198)); have n8_ := Aside0.mk ((by rw [hg]; exact Nat.ne_of_lt (blk_lt (lK BK199.out)) : gb199 ≠ gb202)); have n9_ := Aside0.mk ((by rw [hg]; exact Nat.ne_of_gt (blk_lt (lK BK199.out)) : gb202 ≠ gb199)); clear BK198; clear BK199; clear HB; have BK198 := n0_; have BK199 := n1_; have HB := n2_; have BK202 := n3_; have GW202 := n4_; have GE202 := n5_; have NB198_202 := n6_; have NB202_198 := n7_; have NB199_202 := n8_; have NB202_199 := n9_; clear n0_ n1_ n2_ n3_ n4_ n5_ n6_ n7_ n8_ n9_; clear hb hbox hg; have hnb22 := NB202_198.out; have hnc22 := NB198_202.out; have hnb23 := NB202_199.out; have hnc23 := NB199_202.out; obtain ⟨hcz24_0, hfz24_0, hcz24_1, hfz24_1, hcz24_2, hfz24_2⟩ := bk3 BK202.out))
         (try simp only [Act.put, List.setIfInBounds_toArray, List.set_cons_zero, List.set_cons_succ])
         go_cut [6, 7, 8] (fun v6 v7 v8 wc => ∃ (kq : Nat) (x6_19 : Int) (x7_19 : Int) (x8_19 : Int), v6 = .int .i64 x6_19 ∧ v7 = .int .i64 x7_19 ∧ v8 = .int .i64 x8_19 ∧ Aside0 (impl_isLined.j3 kq x6_19 x7_19 x8_19 l0_0 (l0_0.length : Int) x23_2 l0_0 l0_1 (l0_0.length : Int) ((rd_T86 l0_0 x23_2).f0) ((rd_T86 l0_0 x23_2).f1) ((rd_T86 l0_0 x23_2).f2) = some r) ∧ Aside0 (kq ≤ k2) ∧ Aside0 (wc.heap[gb198]? = some (.cells #[(.slice (some ad201) l0_0.length c0_0), (.slice A0_1 l0_1.length c0_1)] 38 (0, 0))) ∧ Aside0 (wc.heap[gb199]? = some (.cells #[.int .i64 (l0_0.length : Int)] 3 (0, 0))) ∧ Aside0 (wc.heap[gb202]? = some (.cells #[.int .i64 ((rd_T86 l0_0 x23_2).f0), .int .i64 ((rd_T86 l0_0 x23_2).f1), .int .i64 ((rd_T86 l0_0 x23_2).f2)] 86 (0, 0))) ∧ Aside0 (Below w.heap.size w wc))
         case first =>
          have H := HC20.out
          clear HC20
          by_cases c25 : ((rd_T86 l0_0 x23_2).f0) = 1
          ·rw [if_pos c25] at H
           have c25b0 : (((rd_T86 l0_0 x23_2).f0) == 1) = true := beq_iff_eq.mpr c25
           have c25b1 : (((rd_T86 l0_0 x23_2).f0) != 1) = false := bne_eq_false_iff_eq.mpr c25
           clear c25
           (first | rw [c25b0] | (simp only [i64_w, i32_w]; rw [c25b0]) | skip)
           have H' := Aside0.mk H
           clear H
           go_wp2
           go_meet
           case rel => exact ⟨_, (0), (99), (0), lF, lF, lF, H', ⟨by have := HJ1.out; have := HK2.out; first | omega | exact Nat.le_refl _⟩, ⟨lJ BK198.out⟩, ⟨lJ BK199.out⟩, ⟨by (with_reducible repeat first | apply bN | apply bD | apply bA); refine blk_put (cs := #[.int .i64 ((rd_T86 l0_0 x23_2).f0), .int .i64 ((rd_T86 l0_0 x23_2).f1), .int .i64 0]) ?_ 2 _ rfl; (with_reducible repeat first | apply bN | apply bD | apply bA); refine blk_put (cs := #[.int .i64 ((rd_T86 l0_0 x23_2).f0), .int .i64 0, .int .i64 0]) ?_ 1 _ rfl; (with_reducible repeat first | apply bN | apply bD | apply bA); refine blk_put (cs := #[.int .i64 0, .int .i64 0, .int .i64 0]) ?_ 0 _ rfl; (with_reducible repeat first | apply bN | apply bD | apply bA); exact BK202.out⟩, ⟨lB⟩⟩
          ·rw [if_neg c25] at H
           have c25b0 : (((rd_T86 l0_0 x23_2).f0) == 1) = false := beq_eq_false_iff_ne.mpr c25
           have c25b1 : (((rd_T86 l0_0 x23_2).f0) != 1) = true := bne_iff_ne.mpr c25
           (first | rw [c25b0] | (simp only [i64_w, i32_w]; rw [c25b0]) | skip)
           by_cases c26 : ((rd_T86 l0_0 x23_2).f0) = 2
           ·rw [if_pos c26] at H
            have c26b0 : (((rd_T86 l0_0 x23_2).f0) == 2) = true := beq_iff_eq.mpr c26
            have c26b1 : (((rd_T86 l0_0 x23_2).f0) != 2) = false := bne_eq_false_iff_eq.mpr c26
            clear c26
            have H' := Aside0.mk H
            clear H
            go_wp2
            go_meet
            case rel => exact ⟨_, (1), (9), (0), lF, lF, lF, H', ⟨by have := HJ1.out; have := HK2.out; first | omega | exact Nat.le_refl _⟩, ⟨lJ BK198.out⟩, ⟨lJ BK199.out⟩, ⟨by (with_reducible repeat first | apply bN | apply bD | apply bA); refine blk_put (cs := #[.int .i64 ((rd_T86 l0_0 x23_2).f0), .int .i64 ((rd_T86 l0_0 x23_2).f1), .int .i64 0]) ?_ 2 _ rfl; (with_reducible repeat first | apply bN | apply bD | apply bA); refine blk_put (cs := #[.int .i64 ((rd_T86 l0_0 x23_2).f0), .int .i64 0, .int .i64 0]) ?_ 1 _ rfl; (with_reducible repeat first | apply bN | apply bD | apply bA); refine blk_put (cs := #[.int .i64 0, .int .i64 0, .int .i64 0]) ?_ 0 _ rfl; (with_reducible repeat first | apply bN | apply bD | apply bA); exact BK202.out⟩, ⟨lB⟩⟩
           ·rw [if_neg c26] at H
            have c26b0 : (((rd_T86 l0_0 x23_2).f0) == 2) = false := beq_eq_false_iff_ne.mpr c26
            have c26b1 : (((rd_T86 l0_0 x23_2).f0) != 2) = true := bne_iff_ne.mpr c26
            have HC27 := Aside0.mk H
            clear H
            go_upto_if 33 with (fail)
            go_cut [33] (fun v33 wc => ∃ (kq : Nat) (x33_26 : Bool), v33 = .bool x33_26 ∧ Aside0 (impl_isLined.j2 kq 0 39 0 l0_0 (l0_0.length : Int) x23_2 ((rd_T86 l0_0 x23_2).f0) x33_26 l0_0 l0_1 (l0_0.length : Int) ((rd_T86 l0_0 x23_2).f0) ((rd_T86 l0_0 x23_2).f1) ((rd_T86 l0_0 x23_2).f2) = some r) ∧ Aside0 (kq ≤ k2) ∧ Aside0 (wc.heap[gb198]? = some (.cells #[(.slice (some ad201) l0_0.length c0_0), (.slice A0_1 l0_1.length c0_1)] 38 (0, 0))) ∧ Aside0 (wc.heap[gb199]? = some (.cells #[.int .i64 (l0_0.length : Int)] 3 (0, 0))) ∧ Aside0 (wc.heap[gb202]? = some (.cells #[.int .i64 ((rd_T86 l0_0 x23_2).f0), .int .i64 ((rd_T86 l0_0 x23_2).f1), .int .i64 ((rd_T86 l0_0 x23_2).f2)] 86 (0, 0))) ∧ Aside0 (Below w.heap.size w wc))
            case first =>
             have H := HC27.out
             clear HC27
             by_cases c28 : ((rd_T86 l0_0 x23_2).f0) = 3
             ·rw [if_pos c28] at H
              have c28b0 : (((rd_T86 l0_0 x23_2).f0) == 3) = true := beq_iff_eq.mpr c28
              have c28b1 : (((rd_T86 l0_0 x23_2).f0) != 3) = false := bne_eq_false_iff_eq.mpr c28
              clear c28
              (first | rw [c28b0] | (simp only [i64_w, i32_w]; rw [c28b0]) | skip)
              have H' := Aside0.mk H
              clear H
              go_wp2
              go_meet
              case rel => exact ⟨_, ((((rd_T86 l0_0 x23_2).f0) == 3)), lF, H', ⟨by have := HJ1.out; have := HK2.out; first | omega | exact Nat.le_refl _⟩, ⟨lJ BK198.out⟩, ⟨lJ BK199.out⟩, ⟨by (with_reducible repeat first | apply bN | apply bD | apply bA); refine blk_put (cs := #[.int .i64 ((rd_T86 l0_0 x23_2).f0), .int .i64 ((rd_T86 l0_0 x23_2).f1), .int .i64 0]) ?_ 2 _ rfl; (with_reducible repeat first | apply bN | apply bD | apply bA); refine blk_put (cs := #[.int .i64 ((rd_T86 l0_0 x23_2).f0), .int .i64 0, .int .i64 0]) ?_ 1 _ rfl; (with_reducible repeat first | apply bN | apply bD | apply bA); refine blk_put (cs := #[.int .i64 0, .int .i64 0, .int .i64 0]) ?_ 0 _ rfl; (with_reducible repeat first | apply bN | apply bD | apply bA); exact BK202.out⟩, ⟨lB⟩⟩
             ·rw [if_neg c28] at H
              have c28b0 : (((rd_T86 l0_0 x23_2).f0) == 3) = false := beq_eq_false_iff_ne.mpr c28
              have c28b1 : (((rd_T86 l0_0 x23_2).f0) != 3) = true := bne_iff_ne.mpr c28
              (first | rw [c28b0] | (simp only [i64_w, i32_w]; rw [c28b0]) | skip)
              have H' := Aside0.mk H
              clear H
              go_wp2
              go_meet
              case rel => exact ⟨_, ((((rd_T86 l0_0 x23_2).f0) == 5)), lF, H', ⟨by have := HJ1.out; have := HK2.out; first | omega | exact Nat.le_refl _⟩, ⟨lJ BK198.out⟩, ⟨lJ BK199.out⟩, ⟨by (with_reducible repeat first | apply bN | apply bD | apply bA); refine blk_put (cs := #[.int .i64 ((rd_T86 l0_0 x23_2).f0), .int .i64 ((rd_T86 l0_0 x23_2).f1), .int .i64 0]) ?_ 2 _ rfl; (with_reducible repeat first | apply bN | apply bD | apply bA); refine blk_put (cs := #[.int .i64 ((rd_T86 l0_0 x23_2).f0), .int .i64 0, .int .i64 0]) ?_ 1 _ rfl; (with_reducible repeat first | apply bN | apply bD | apply bA); refine blk_put (cs := #[.int .i64 0, .int .i64 0, .int .i64 0]) ?_ 0 _ rfl; (with_reducible repeat first | apply bN | apply bD | apply bA); exact BK202.out⟩, ⟨lB⟩⟩
            case rest =>
             clear HC27
             try clear c1
             try clear c2
             try clear p2
             try clear q2
             try clear hx2
             try clear c5
             try clear c6
             try clear c8
             try clear c8b0
             try clear c8b1
             try clear c9
             try clear c11
             try clear c14
             try clear c15
             try clear c17
             try clear c17b0
             try clear c18
             try clear c18b0
             try clear c19
             try clear c19b0
             try clear p20
             try clear q20
             try clear hx20
             try clear c22
             try clear c23
             try clear c25
             try clear c25b0
             try clear c25b1
             try clear c26
             try clear c26b0
             try clear c26b1
             try clear c28
             try clear c28b0
             try clear c28b1
             try clear hcz10_0
             try clear hcz12_0
             try clear hcz13_0 hcz13_1
             try clear hcz16_0 hcz16_1
             try clear hcz24_0 hcz24_1 hcz24_2
             try clear hcz4_0 hcz4_1
             try clear hcz7_0
             try clear hfz10_0
             try clear hfz12_0
             try clear hfz13_0 hfz13_1
             try clear hfz16_0 hfz16_1
             try clear hfz24_0 hfz24_1 hfz24_2
             try clear hfz4_0 hfz4_1
             try clear hfz7_0
             try clear hx201_0
             try clear hx201_1
             try clear hx201_2
             try clear p2
             try clear p201
             try clear q201
             obtain ⟨kq, x33_26, rfl, HA, HJ26, BK198, BK199, BK202, HB⟩ := hcut
             cases kq with
             | zero => exact absurd HA.out (by simp [impl_isLined.j2])
             | succ kj26 =>
              have H := HA.out
              clear HA
              simp only [impl_isLined.j2] at H
              by_cases c29 : x33_26 = true
              ·subst c29
               rw [if_pos rfl] at H
               have H' := Aside0.mk H
               clear H
               go_wp2
               go_meet
               case rel => exact ⟨_, (0), (39), (0), lF, lF, lF, H', ⟨by have := HJ1.out; have := HK2.out; have := HJ26.out; first | omega | exact Nat.le_refl _⟩, ⟨lK BK198.out⟩, ⟨lK BK199.out⟩, ⟨lK BK202.out⟩, ⟨lB⟩⟩
              ·replace c29 := Bool.eq_false_iff.mpr c29
               subst c29
               rw [if_neg (show ¬ (false = true) by decide)] at H
               by_cases c30 : ((rd_T86 l0_0 x23_2).f0) = 4
               ·rw [if_pos c30] at H
                have c30b0 : (((rd_T86 l0_0 x23_2).f0) == 4) = true := beq_iff_eq.mpr c30
                have c30b1 : (((rd_T86 l0_0 x23_2).f0) != 4) = false := bne_eq_false_iff_eq.mpr c30
                clear c30
                have H' := Aside0.mk H
                clear H
                have hnb31 := NB199_198.out
                have hnc31 := NB198_199.out
                have hnb32 := NB199_202.out
                have hnc32 := NB202_199.out
                obtain ⟨hcz33_0, hfz33_0⟩ := bk1 BK199.out
                go_wp2
                go_meet
                case rel => exact ⟨_, (0), (0), ((l0_0.length : Int)), lF, lF, lF, H', ⟨by have := HJ1.out; have := HK2.out; have := HJ26.out; first | omega | exact Nat.le_refl _⟩, ⟨lK BK198.out⟩, ⟨lK BK199.out⟩, ⟨lK BK202.out⟩, ⟨lB⟩⟩
               ·rw [if_neg c30] at H
                have c30b0 : (((rd_T86 l0_0 x23_2).f0) == 4) = false := beq_eq_false_iff_ne.mpr c30
                have c30b1 : (((rd_T86 l0_0 x23_2).f0) != 4) = true := bne_iff_ne.mpr c30
                by_cases c34 : ((rd_T86 l0_0 x23_2).f0) = 6
                ·rw [if_pos c34] at H
                 have c34b0 : (((rd_T86 l0_0 x23_2).f0) == 6) = true := beq_iff_eq.mpr c34
                 have c34b1 : (((rd_T86 l0_0 x23_2).f0) != 6) = false := bne_eq_false_iff_eq.mpr c34
                 clear c34
                 have H' := Aside0.mk H
                 clear H
                 go_wp2
                 go_meet
                 case rel => exact ⟨_, (0), (39), (9), lF, lF, lF, H', ⟨by have := HJ1.out; have := HK2.out; have := HJ26.out; first | omega | exact Nat.le_refl _⟩, ⟨lK BK198.out⟩, ⟨lK BK199.out⟩, ⟨lK BK202.out⟩, ⟨lB⟩⟩
                ·rw [if_neg c34] at H
                 have c34b0 : (((rd_T86 l0_0 x23_2).f0) == 6) = false := beq_eq_false_iff_ne.mpr c34
                 have c34b1 : (((rd_T86 l0_0 x23_2).f0) != 6) = true := bne_iff_ne.mpr c34
                 obtain rfl := Option.some.inj H
                 first | (go_wp2; go_ret; exact ⟨lE, lB⟩) | (exfalso; simp only [decide_eq_false_iff_not, decide_eq_true_eq] at *; omega)
         case rest =>
          clear HC20
          try clear c1
          try clear c2
          try clear p2
          try clear q2
          try clear hx2
          try clear c3
          try clear c5
          try clear c6
          try clear c8
          try clear c8b0
          try clear c8b1
          try clear c9
          try clear c11
          try clear c14
          try clear c15
          try clear c17
          try clear c17b0
          try clear c18
          try clear c18b0
          try clear c19
          try clear c19b0
          try clear p20
          try clear q20
          try clear hx20
          try clear c22
          try clear c23
          try clear c25
          try clear c25b0
          try clear c25b1
          try clear c26
          try clear c26b0
          try clear c26b1
          try clear c28
          try clear c28b0
          try clear c28b1
          try clear c29
          try clear c30
          try clear c30b0
          try clear c30b1
          try clear c31
          try clear c32
          try clear c34
          try clear c34b0
          try clear c34b1
          try clear hcz10_0
          try clear hcz12_0
          try clear hcz13_0 hcz13_1
          try clear hcz16_0 hcz16_1
          try clear hcz24_0 hcz24_1 hcz24_2
          try clear hcz33_0
          try clear hcz4_0 hcz4_1
          try clear hcz7_0
          try clear hfz10_0
          try clear hfz12_0
          try clear hfz13_0 hfz13_1
          try clear hfz16_0 hfz16_1
          try clear hfz24_0 hfz24_1 hfz24_2
          try clear hfz33_0
          try clear hfz4_0 hfz4_1
          try clear hfz7_0
          try clear hx201_0
          try clear hx201_1
          try clear hx201_2
          try clear p2
          try clear p20
          try clear p201
          try clear q2
          try clear q20
          try clear q201
          obtain ⟨kq, x6_19, x7_19, x8_19, rfl, rfl, rfl, HA, HJ19, BK198, BK199, BK202, HB⟩ := hcut
          cases kq with
          | zero => exact absurd HA.out (by simp [impl_isLined.j3])
          | succ kj19 =>
           have H := HA.out
           clear HA
           simp only [impl_isLined.j3] at H
           replace H := lO H
           obtain ⟨t203, A35, H⟩ := H
           by_cases c36 : t203 = true
           ·subst c36
            rw [if_pos rfl] at H
            replace H := lO H
            obtain ⟨t204, A37, H⟩ := H
            by_cases c38 : t204 = true
            ·subst c38
             rw [if_pos rfl] at H
             have H' := Aside0.mk H
             clear H
             have hnb39 := NB202_198.out
             have hnc39 := NB198_202.out
             have hnb40 := NB202_199.out
             have hnc40 := NB199_202.out
             obtain ⟨hcz41_0, hfz41_0, hcz41_1, hfz41_1, hcz41_2, hfz41_2⟩ := bk3 BK202.out
             go_wp2_with (first | ((with_reducible refine gate_callee (f := 58) rfl ?_); refine gl_ (some 45) (Try.func58) #[.int .i64 ((rd_T86 l0_0 x23_2).f1), .int .i64 x6_19, .int .i64 x7_19] ?_; (with_reducible refine (impl_in.calls ((rd_T86 l0_0 x23_2).f1) x6_19 x7_19 true _ A35.out).mono ?_); rintro e w' ⟨rfl, ⟨nd, rfl⟩⟩; refine ⟨_, rfl, ?_⟩) | (go_at_call 58; (with_reducible refine (impl_in.calls ((rd_T86 l0_0 x23_2).f2) 0 x8_19 true _ A37.out).mono ?_); rintro e w' ⟨rfl, ⟨nd, rfl⟩⟩))
             go_roundg kj19
             case measure => have := HJ1.out; have := HK2.out; have := HJ19.out; omega
             case rel => exact ⟨(wrap64 (x23_2 + 1)), lF, H', ⟨by have := HJ1.out; have := HK2.out; have := HJ19.out; omega⟩, ⟨lK BK198.out⟩, ⟨lK BK199.out⟩, ⟨lB⟩⟩
            ·replace c38 := Bool.eq_false_iff.mpr c38
             subst c38
             rw [if_neg (show ¬ (false = true) by decide)] at H
             obtain rfl := Option.some.inj H
             have hnb42 := NB202_198.out
             have hnc42 := NB198_202.out
             have hnb43 := NB202_199.out
             have hnc43 := NB199_202.out
             obtain ⟨hcz44_0, hfz44_0, hcz44_1, hfz44_1, hcz44_2, hfz44_2⟩ := bk3 BK202.out
             go_wp2_with (first | ((with_reducible refine gate_callee (f := 58) rfl ?_); refine gl_ (some 45) (Try.func58) #[.int .i64 ((rd_T86 l0_0 x23_2).f1), .int .i64 x6_19, .int .i64 x7_19] ?_; (with_reducible refine (impl_in.calls ((rd_T86 l0_0 x23_2).f1) x6_19 x7_19 true _ A35.out).mono ?_); rintro e w' ⟨rfl, ⟨nd, rfl⟩⟩; refine ⟨_, rfl, ?_⟩) | (go_at_call 58; (with_reducible refine (impl_in.calls ((rd_T86 l0_0 x23_2).f2) 0 x8_19 false _ A37.out).mono ?_); rintro e w' ⟨rfl, ⟨nd, rfl⟩⟩))
             go_ret
             exact ⟨lE, lB⟩
           ·replace c36 := Bool.eq_false_iff.mpr c36
            subst c36
            rw [if_neg (show ¬ (false = true) by decide)] at H
            obtain rfl := Option.some.inj H
            have hnb45 := NB202_198.out
            have hnc45 := NB198_202.out
            have hnb46 := NB202_199.out
            have hnc46 := NB199_202.out
            obtain ⟨hcz47_0, hfz47_0, hcz47_1, hfz47_1, hcz47_2, hfz47_2⟩ := bk3 BK202.out
            go_wp2_with (first | ((with_reducible refine gate_callee (f := 58) rfl ?_); refine gl_ (some 45) (Try.func58) #[.int .i64 ((rd_T86 l0_0 x23_2).f1), .int .i64 x6_19, .int .i64 x7_19] ?_; (with_reducible refine (impl_in.calls ((rd_T86 l0_0 x23_2).f1) x6_19 x7_19 false _ A35.out).mono ?_); rintro e w' ⟨rfl, ⟨nd, rfl⟩⟩; refine ⟨_, rfl, ?_⟩))
            go_ret
            exact ⟨lE, lB⟩
        ·rw [if_neg c19] at H
         exact absurd H (by simp)
       ·rw [if_neg c18] at H
        exact absurd H (by simp)
      ·rw [if_neg c17] at H
       have c17b0 : decide (x23_2 < (l0_0.length : Int)) = false := decide_eq_false c17
       clear c17
       replace H := lO H
       obtain ⟨t200, A48, H⟩ := H
       obtain rfl := Option.some.inj H
       have hnb49 := NB198_199.out
       have hnc49 := NB199_198.out
       obtain ⟨hcz50_0, hfz50_0, hcz50_1, hfz50_1⟩ := bk2 BK198.out
       go_wp2_with (first | ((with_reducible refine gate_callee (f := 80) rfl ?_); refine gl_ (some 58) (Try.func80) #[.slice A0_1 l0_1.length c0_1, .func (.func 81) #[] #[.pointer (some ⟨gb199, 0, none⟩)]] ?_; (with_reducible refine (impl_Guard_80_81.calls _ _ l0_1 gb199 (l0_0.length : Int) t200 _ ?side1 ?side2 ?side3 A48.out).mono ?_); (case side1 => exact lC (Kd.C_below HR0_1.out HB.out)); (case side2 => exact HC0_1.out); (case side3 => exact (lK BK199.out)); rintro e w51 ⟨rfl, hb⟩; refine ⟨_, rfl, ?_⟩; have n0_ := Aside0.mk (blk_below (lK BK198.out) hb); have n1_ := Aside0.mk (blk_below (lK BK199.out) hb); have n2_ := Aside0.mk (below_step lB hb); clear BK198; clear BK199; clear HB; have BK198 := n0_; have BK199 := n1_; have HB := n2_; clear n0_ n1_ n2_; (try clear hb); (try clear hb2); (try clear hk); (try clear hi)))
       go_ret
       exact ⟨lE, lB⟩

/-! ### impl_liner_put: function 87 -/
theorem Ll.info86 : (Try.prog.info? 86).map (fun i => (i.zero, i.size, i.bytes)) = some (some (.agg #[.int .i64 0, .int .i64 0, .int .i64 0]), 3, 24) := by kernel_rfl
theorem Ll.info63 : (Try.prog.info? 63).map (fun i => (i.zero, i.size, i.bytes)) = some (some (.agg #[.int .i64 0, .int .i64 0, .int .i64 0, .int .i64 0]), 4, 32) := by kernel_rfl
/-- A line on its way: steps, guards, a number. -/
structure Ll.Q where
  s : List S86
  g : List S63
  n : Int
/-- What a call leaves: the line's block, its rows. -/
def Ll.Post (T B gb : Nat) (w : World) (S : List S86) (G : List S63) (n : Int) (w' : World) : Prop :=
  ∃ (A1 : Option Addr) (c1 : Nat) (A2 : Option Addr) (c2 : Nat), w'.heap[gb]? = some (.cells #[.slice A1 S.length c1, .slice A2 G.length c2, .int .i64 n] T (0, 0)) ∧ k86.R 86 w' B (fun _ => True) (.slice A1 S.length c1) S ∧ k63.R 63 w' B (fun _ => True) (.slice A2 G.length c2) G ∧ Below B w w'
theorem Ll.drewB {B : Nat} {w w1 : World} (h : Below B w w1) (n : Nat) : Below B w (w1.drewN n) := pw_below_drewN h n
def Ll.PostI (T B gb : Nat) (w : World) (S : List S86) (G : List S63) (n : Int) (r : Nat) (e : Ending) (w' : World) : Prop := e = .returned (.int .i64 (r : Int)) ∧ Ll.Post T B gb w S G n w'
set_option maxHeartbeats 8000000 in
set_option maxRecDepth 100000 in
theorem impl_liner_put.calls (w : World) (B gb : Nat) {A1 A2 : Option Addr} {c1 c2 : Nat} (S : List S86) (G : List S63) (n : Int) (x : S86) (hgb : B ≤ gb) (hBw : B ≤ w.heap.size) (hbx : w.heap[gb]? = some (.cells #[.slice A1 S.length c1, .slice A2 G.length c2, .int .i64 n] 109 (0, 0))) (hS : k86.R 86 w B (fun _ => True) (.slice A1 S.length c1) S) (hG : k63.R 63 w B (fun _ => True) (.slice A2 G.length c2) G) (hl : S.length < 1000000000000) :
  Calls Try.prog 87 #[.pointer (some ⟨gb, 0, none⟩), .agg #[.int .i64 x.f0, .int .i64 x.f1, .int .i64 x.f2]] w (Ll.PostI 109 B gb w (S ++ [x]) G n S.length) := by
 have hu35 := Try.underlying35
 have hu36 := Try.underlying36
 have hu38 := Try.underlying38
 have hu86 := Try.underlying86
 have hu63 := Try.underlying63
 have hu109 := Try.underlying109
 have BX := Aside0.mk hbx
 have HO := Aside0.mk hS
 have HQ := Aside0.mk hG
 have HL := Aside0.mk hl
 have HB := Aside0.mk (Below.refl B w)
 have HS := Aside0.mk hBw
 have HGS := Aside0.mk hgb
 clear hbx hS hG hl hBw hgb
 obtain ⟨hbz0, hbf0, hbz1, hbf1, hbz2, hbf2⟩ := bk3 BX.out
 go_enter Try.func87, Try.ntmps87
 go_upto_region 1 with (first | ((with_reducible refine gate_dst (N := 3) rfl ?_); refine bxe 3 #[.int .i64 x.f0, .int .i64 x.f1, .int .i64 x.f2] 86 ?_; intro gx hg w2 hbox hb; have HNX := Aside0.mk (show some gx ≠ (Value.slice A1 S.length c1).ownBlock from by rw [hg]; exact Kd.R_ne_new HO.out 0); have n0_ := Aside0.mk (blk_below BX.out hb); have n1_ := Aside0.mk (Kd.R_below HO.out hb); have n2_ := Aside0.mk (Kd.R_below HQ.out hb); have n3_ : Aside0 (Below B w w2) := ⟨HB.out.trans (hb.mono HS.out)⟩; have n4_ : Aside0 (B ≤ w2.heap.size) := ⟨Nat.le_trans HS.out hb.size⟩; have BXX := Aside0.mk hbox; have HNB : gb ≠ gx := Nat.ne_of_lt (by rw [hg]; exact blk_lt BX.out); clear BX HO HQ HB HS hbz0 hbf0 hbz1 hbf1 hbz2 hbf2 hbox hb hg; have BX := n0_; have HO := n1_; have HQ := n2_; have HB := n3_; have HS := n4_; clear n0_ n1_ n2_ n3_ n4_; obtain ⟨hxz0, hxf0, hxz1, hxf1, hxz2, hxf2⟩ := bk3 BXX.out; obtain ⟨hbz0, hbf0, hbz1, hbf1, hbz2, hbf2⟩ := bk3 BX.out))
 refine start_ (n := 13) (S := fun w' => w'.cell? ⟨gb, 0, none⟩ = some (.slice A1 S.length c1) ∧ w'.frozen? ⟨gb, 0, none⟩ = false ∧ w'.cell? ⟨gb, 1, none⟩ = some (.slice A2 G.length c2) ∧ w'.frozen? ⟨gb, 1, none⟩ = false ∧ w'.cell? ⟨gx, 0, none⟩ = some (.int .i64 x.f0) ∧ w'.cell? ⟨gx, 1, none⟩ = some (.int .i64 x.f1) ∧ w'.cell? ⟨gx, 2, none⟩ = some (.int .i64 x.f2)) (ds := [12]) (bs 13 0) kR rfl kR ⟨hbz0, hbf0, hbz1, hbf1, hxz0, hxz1, hxz2⟩ (fun hHeld => ?_)
 have n0_ := Aside0.mk (blk_drew BX.out)
 have n1_ := Aside0.mk (Kd.R_drew HO.out)
 have n2_ := Aside0.mk (Kd.R_drew HQ.out)
 have n3_ := Aside0.mk HB.out.drew
 have n4_ : Aside0 (B ≤ (World.drew _).heap.size) := HS
 have n5_ := Aside0.mk (blk_drew BXX.out)
 clear BX HO HQ HB HS hbz0 hbf0 hbz1 hbf1 hbz2 hbf2 BXX hxz0 hxf0 hxz1 hxf1 hxz2 hxf2
 generalize hwd_ : World.drew _ = w3 at n0_ n1_ n2_ n3_ n4_ n5_ hHeld ⊢
 clear hwd_
 have BX := n0_
 have HO := n1_
 have HQ := n2_
 have HB := n3_
 have HS := n4_
 clear n0_ n1_ n2_ n3_ n4_
 have BXX := n5_
 clear n5_
 refine pur_ 0 5 (bs 13 1) kR ?_
 refine pur_ 1 6 (bs 13 3) kR ?_
 refine pur_ 2 7 (bs 13 7) kR ?_
 refine pur_ 3 8 (bs 13 15) kR ?_
 refine pur_ 4 9 (bs 13 31) kR ?_
 refine tak_ 5 10 (bs 13 63) kR hHeld ?_
 refine tak_ 6 11 (bs 13 127) kR hHeld ?_
 refine one_ (i := 7) (N := some 12) (bs 13 255) rfl rfl kR (by decide) (fun K hK => ?_)
 refine value_ (w1 := ?_) (v := ?_) (by rfl) rfl ?_ ?_
 rotate_left 2
 ·go_simp
  constructor
  ·rfl
  ·rfl
 refine hK.out _ _ ⟨bZ (bA (lK BX.out) _) 0, blk_frozen (bA (lK BX.out) _) 0, bZ (bA (lK BX.out) _) 1, blk_frozen (bA (lK BX.out) _) 1, bZ (bA (lK BXX.out) _) 0, bZ (bA (lK BXX.out) _) 1, bZ (bA (lK BXX.out) _) 2⟩ (fun hHeld => ?_)
 clear hK K
 refine norm_ (a' := ?_) ?_ ?_
 rotate_left
 ·show Act.put _ (some 12) _ = _
  simp only [Act.put, List.setIfInBounds_toArray, List.set_cons_zero, List.set_cons_succ, i64_w, i32_w]
  rfl
 refine one_ (i := 8) (N := some 13) (bs 13 511) rfl rfl kR (by decide) (fun K hK => ?_)
 refine Kd.R_append_step k86 (w0 := w) B (by rfl) (.tmp 10) (.tmp 12) 35 86 (.agg #[.int .i64 0, .int .i64 0, .int .i64 0]) 24 rfl Try.underlying35 Ll.info86 rfl (by decide) (by omega) (.slice A1 S.length c1) S x [.int .i64 x.f0, .int .i64 x.f1, .int .i64 x.f2] (fun _ => True) (fun _ => False) rfl rfl ?aP (fun _ hk => hk.elim) (fun _ _ => trivial) ?aO ?aB ?aS ?aL ?_
 (case aP => exact k86_mkM _ _ _ x)
 (case aO => exact lR HO.out)
 (case aB => exact HB.out)
 (case aS => exact HS.out)
 (case aL => have := HL.out; omega)
 intro v6 w6 ho hb hg hat
 have n0_ := Aside0.mk (blk_grown (lK BX.out) hg (Kd.R_ne HO.out BX.out (by decide)))
 have n1_ := Aside0.mk (Kd.R_over (lR HQ.out) HO.out (by decide) hg)
 have n2_ := Aside0.mk (blk_grown (lK BXX.out) hg HNX.out)
 clear BXX
 have BXX := n2_
 clear n2_
 clear BX HO HQ HB
 have BX := n0_
 have HQ := n1_
 have HO := Aside0.mk ho
 have HB := Aside0.mk hb
 clear n0_ n1_ ho hb hg hat
 obtain ⟨Ap, cp, ep⟩ := Kd.R_slice HO.out
 subst ep
 refine hK.out _ _ ⟨bZ (BX.out) 0, blk_frozen (BX.out) 0, bZ (BX.out) 1, blk_frozen (BX.out) 1, bZ BXX.out 0, bZ BXX.out 1, bZ BXX.out 2⟩ (fun hHeld => ?_)
 clear hK K
 refine norm_ (a' := ?_) ?_ ?_
 rotate_left
 ·show Act.put _ (some 13) _ = _
  simp only [Act.put, List.setIfInBounds_toArray, List.set_cons_zero, List.set_cons_succ, i64_w, i32_w]
  rfl
 refine pur_ 9 14 (bs 13 1023) kR ?_
 refine pur_ 10 15 (bs 13 2047) kR ?_
 refine pur_ 11 16 (bs 13 4095) kR ?_
 refine last_ (i := 12) (N := none) (bs 13 8191) rfl rfl kR (by decide) (fun K hK => ?_)
 have hs0_ := hHeld.1
 have hs1_ := hHeld.2.1
 have hs2_ := hHeld.2.2.1
 have hs3_ := hHeld.2.2.2.1
 refine skip_ (w1 := World.setCell _ ⟨gb, 0, none⟩ (.slice Ap (S ++ [x]).length cp)) (by rfl) rfl (by first | (go_simp; done) | (go_simp; rfl)) ?_
 refine hK.out _ _ ?_
 clear hK K
 refine done_ kR ?_
 have n0_ : Aside0 ((w6.setCell ⟨gb, 0, none⟩ (.slice Ap (S ++ [x]).length cp)).heap[gb]? = _) := ⟨blk_put (cs := #[.slice A1 S.length c1, .slice A2 G.length c2, .int .i64 n]) BX.out 0 _ rfl⟩
 have n1_ := Aside0.mk (Kd.R_set HO.out BX.out (by decide) 0 (.slice Ap (S ++ [x]).length cp))
 have n2_ := Aside0.mk (Kd.R_set HQ.out BX.out (by decide) 0 (.slice Ap (S ++ [x]).length cp))
 have n3_ := Aside0.mk (HB.out.setCell (p := ⟨gb, 0, none⟩) HGS.out (.slice Ap (S ++ [x]).length cp))
 clear BX HO HQ HB hHeld
 generalize w6.setCell ⟨gb, 0, none⟩ (.slice Ap (S ++ [x]).length cp) = w7 at n0_ n1_ n2_ n3_ ⊢
 have BX := n0_
 have HO := n1_
 have HQ := n2_
 have HB := n3_
 clear n0_ n1_ n2_ n3_
 obtain ⟨hbz0, hbf0, hbz1, hbf1, hbz2, hbf2⟩ := bk3 BX.out
 have e_ : Go.RowKit.wrap64 ((S.length : Nat) : Int) = ((S.length : Nat) : Int) := by unfold Go.RowKit.wrap64; have := HL.out; omega
 go_wp2
 repeat (go_quiet (fail); try go_wp2)
 go_ret
 exact ⟨by show Ending.returned (.int .i64 (Go.RowKit.wrap64 ((S.length : Nat) : Int))) = _; rw [e_], _, _, _, _, BX.out, HO.out, HQ.out, HB.out⟩


/-! ### impl_liner_guard: function 88 -/
set_option maxHeartbeats 8000000 in
set_option maxRecDepth 100000 in
theorem impl_liner_guard.calls (w : World) (B gb : Nat) {A1 A2 : Option Addr} {c1 c2 : Nat} (S : List S86) (G : List S63) (n : Int) (f kd : Int) (hgb : B ≤ gb) (hBw : B ≤ w.heap.size) (hbx : w.heap[gb]? = some (.cells #[.slice A1 S.length c1, .slice A2 G.length c2, .int .i64 n] 109 (0, 0))) (hS : k86.R 86 w B (fun _ => True) (.slice A1 S.length c1) S) (hG : k63.R 63 w B (fun _ => True) (.slice A2 G.length c2) G) (hl : G.length < 1000000000000) :
  Calls Try.prog 88 #[.pointer (some ⟨gb, 0, none⟩), .int .i64 f, .int .i64 kd] w (Ll.PostI 109 B gb w S (G ++ [⟨f, S.length, kd, 0⟩]) n G.length) := by
 have hu35 := Try.underlying35
 have hu36 := Try.underlying36
 have hu38 := Try.underlying38
 have hu86 := Try.underlying86
 have hu63 := Try.underlying63
 have hu109 := Try.underlying109
 have BX := Aside0.mk hbx
 have HO := Aside0.mk hS
 have HQ := Aside0.mk hG
 have HL := Aside0.mk hl
 have HB := Aside0.mk (Below.refl B w)
 have HS := Aside0.mk hBw
 have HGS := Aside0.mk hgb
 clear hbx hS hG hl hBw hgb
 obtain ⟨hbz0, hbf0, hbz1, hbf1, hbz2, hbf2⟩ := bk3 BX.out
 go_enter Try.func88, Try.ntmps88
 go_upto_region 1 with (fail)
 refine start_ (n := 21) (S := fun w' => w'.cell? ⟨gb, 0, none⟩ = some (.slice A1 S.length c1) ∧ w'.frozen? ⟨gb, 0, none⟩ = false ∧ w'.cell? ⟨gb, 1, none⟩ = some (.slice A2 G.length c2) ∧ w'.frozen? ⟨gb, 1, none⟩ = false) (ds := [20]) (bs 21 0) kR rfl kR ⟨hbz0, hbf0, hbz1, hbf1⟩ (fun hHeld => ?_)
 have n0_ := Aside0.mk (blk_drew BX.out)
 have n1_ := Aside0.mk (Kd.R_drew HO.out)
 have n2_ := Aside0.mk (Kd.R_drew HQ.out)
 have n3_ := Aside0.mk HB.out.drew
 have n4_ : Aside0 (B ≤ (World.drew _).heap.size) := HS
 clear BX HO HQ HB HS hbz0 hbf0 hbz1 hbf1 hbz2 hbf2
 generalize hwd_ : World.drew _ = w3 at n0_ n1_ n2_ n3_ n4_ hHeld ⊢
 clear hwd_
 have BX := n0_
 have HO := n1_
 have HQ := n2_
 have HB := n3_
 have HS := n4_
 clear n0_ n1_ n2_ n3_ n4_
 refine pur_ 0 7 (bs 21 1) kR ?_
 refine pur_ 1 8 (bs 21 3) kR ?_
 refine pur_ 2 9 (bs 21 7) kR ?_
 refine pur_ 3 10 (bs 21 15) kR ?_
 refine pur_ 4 11 (bs 21 31) kR ?_
 refine pur_ 6 13 (bs 21 95) kR ?_
 refine pur_ 7 14 (bs 21 223) kR ?_
 refine pur_ 8 15 (bs 21 479) kR ?_
 refine pur_ 9 16 (bs 21 991) kR ?_
 refine pur_ 10 17 (bs 21 2015) kR ?_
 refine pur_ 13 20 (bs 21 10207) kR ?_
 refine tak_ 5 12 (bs 21 10239) kR hHeld ?_
 refine tak_ 11 18 (bs 21 12287) kR hHeld ?_
 refine pur_ 12 19 (bs 21 16383) kR ?_
 refine pur_ 14 21 (bs 21 32767) kR ?_
 refine one_ (i := 15) (N := some 22) (bs 21 65535) rfl rfl kR (by decide) (fun K hK => ?_)
 refine value_ (w1 := ?_) (v := ?_) (by rfl) rfl ?_ ?_
 rotate_left 2
 ·go_simp
  constructor
  ·rfl
  ·rfl
 refine hK.out _ _ ⟨bZ (bA (lK BX.out) _) 0, blk_frozen (bA (lK BX.out) _) 0, bZ (bA (lK BX.out) _) 1, blk_frozen (bA (lK BX.out) _) 1⟩ (fun hHeld => ?_)
 clear hK K
 refine norm_ (a' := ?_) ?_ ?_
 rotate_left
 ·show Act.put _ (some 22) _ = _
  simp only [Act.put, List.setIfInBounds_toArray, List.set_cons_zero, List.set_cons_succ, i64_w, i32_w]
  rfl
 refine one_ (i := 16) (N := some 23) (bs 21 131071) rfl rfl kR (by decide) (fun K hK => ?_)
 refine Kd.R_append_step k63 (w0 := w) B (by rfl) (.tmp 12) (.tmp 22) 36 63 (.agg #[.int .i64 0, .int .i64 0, .int .i64 0, .int .i64 0]) 32 rfl Try.underlying36 Ll.info63 rfl (by decide) (by omega) (.slice A2 G.length c2) G (⟨f, S.length, kd, 0⟩ : S63) [.int .i64 f, .int .i64 (S.length : Nat), .int .i64 kd, .int .i64 0] (fun _ => True) (fun _ => False) rfl rfl ?aP (fun _ hk => hk.elim) (fun _ _ => trivial) ?aO ?aB ?aS ?aL ?_
 (case aP => exact k63_mkM _ _ _ (⟨f, S.length, kd, 0⟩ : S63))
 (case aO => exact lR HQ.out)
 (case aB => exact HB.out)
 (case aS => exact HS.out)
 (case aL => have := HL.out; omega)
 intro v6 w6 ho hb hg hat
 have n0_ := Aside0.mk (blk_grown (lK BX.out) hg (Kd.R_ne HQ.out BX.out (by decide)))
 have n1_ := Aside0.mk (Kd.R_over (lR HO.out) HQ.out (by decide) hg)
 clear BX HO HQ HB
 have BX := n0_
 have HO := n1_
 have HQ := Aside0.mk ho
 have HB := Aside0.mk hb
 clear n0_ n1_ ho hb hg hat
 obtain ⟨Ap, cp, ep⟩ := Kd.R_slice HQ.out
 subst ep
 refine hK.out _ _ ⟨bZ (BX.out) 0, blk_frozen (BX.out) 0, bZ (BX.out) 1, blk_frozen (BX.out) 1⟩ (fun hHeld => ?_)
 clear hK K
 refine norm_ (a' := ?_) ?_ ?_
 rotate_left
 ·show Act.put _ (some 23) _ = _
  simp only [Act.put, List.setIfInBounds_toArray, List.set_cons_zero, List.set_cons_succ, i64_w, i32_w]
  rfl
 refine pur_ 17 24 (bs 21 262143) kR ?_
 refine pur_ 18 25 (bs 21 524287) kR ?_
 refine pur_ 19 26 (bs 21 1048575) kR ?_
 refine last_ (i := 20) (N := none) (bs 21 2097151) rfl rfl kR (by decide) (fun K hK => ?_)
 have hs0_ := hHeld.1
 have hs1_ := hHeld.2.1
 have hs2_ := hHeld.2.2.1
 have hs3_ := hHeld.2.2.2
 refine skip_ (w1 := World.setCell _ ⟨gb, 1, none⟩ (.slice Ap (G ++ [(⟨f, S.length, kd, 0⟩ : S63)]).length cp)) (by rfl) rfl (by first | (go_simp; done) | (go_simp; rfl)) ?_
 refine hK.out _ _ ?_
 clear hK K
 refine done_ kR ?_
 have n0_ : Aside0 ((w6.setCell ⟨gb, 1, none⟩ (.slice Ap (G ++ [(⟨f, S.length, kd, 0⟩ : S63)]).length cp)).heap[gb]? = _) := ⟨blk_put (cs := #[.slice A1 S.length c1, .slice A2 G.length c2, .int .i64 n]) BX.out 1 _ rfl⟩
 have n1_ := Aside0.mk (Kd.R_set HO.out BX.out (by decide) 1 (.slice Ap (G ++ [(⟨f, S.length, kd, 0⟩ : S63)]).length cp))
 have n2_ := Aside0.mk (Kd.R_set HQ.out BX.out (by decide) 1 (.slice Ap (G ++ [(⟨f, S.length, kd, 0⟩ : S63)]).length cp))
 have n3_ := Aside0.mk (HB.out.setCell (p := ⟨gb, 1, none⟩) HGS.out (.slice Ap (G ++ [(⟨f, S.length, kd, 0⟩ : S63)]).length cp))
 clear BX HO HQ HB hHeld
 generalize w6.setCell ⟨gb, 1, none⟩ (.slice Ap (G ++ [(⟨f, S.length, kd, 0⟩ : S63)]).length cp) = w7 at n0_ n1_ n2_ n3_ ⊢
 have BX := n0_
 have HO := n1_
 have HQ := n2_
 have HB := n3_
 clear n0_ n1_ n2_ n3_
 obtain ⟨hbz0, hbf0, hbz1, hbf1, hbz2, hbf2⟩ := bk3 BX.out
 have e_ : Go.RowKit.wrap64 ((G.length : Nat) : Int) = ((G.length : Nat) : Int) := by unfold Go.RowKit.wrap64; have := HL.out; omega
 go_wp2
 repeat (go_quiet (fail); try go_wp2)
 go_ret
 exact ⟨by show Ending.returned (.int .i64 (Go.RowKit.wrap64 ((G.length : Nat) : Int))) = _; rw [e_], _, _, _, _, BX.out, HO.out, HQ.out, HB.out⟩


end Go.Proofs.Ytgjojppbichaiaa.Q
