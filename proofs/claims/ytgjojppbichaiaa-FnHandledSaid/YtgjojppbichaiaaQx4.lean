-- Written by the program wip/tools/pr.py of this claim's session, over the kit's print.py.
import Derived.Test.YtgjojppbichaiaaQx0
import Derived.Test.YtgjojppbichaiaaQx3
namespace Go.Proofs.Ytgjojppbichaiaa.Q
open Go.RowKit Go.Proofs.YtgjojppbichaiaaW.PrintWords Go.Proofs.YtgjojppbichaiaaW.PrintLast Go.Proofs.YtgjojppbichaiaaW.PrintMore
attribute [local go_sem] max2_int min2_int max_two min_two max_three min_three max_four min_four   -- for this text's walks alone
set_option linter.unusedVariables false
set_option linter.unusedSimpArgs false
mutual
def impl_isLined.j0 : Nat → Bool → List (S86) → List (S63) → Int → Option (Bool)
 | 0, _, _, _, _ => none
 | k + 1, x19, x108000, x108001, x109000 => if x19 = true then (some false) else (impl_isLined.l0 k x108000 (x108000.length : Int) 0 x108000 x108001 x109000)
def impl_isLined.l0 : Nat → List (S86) → Int → Int → List (S86) → List (S63) → Int → Option (Bool)
 | 0, _, _, _, _, _, _ => none
 | k + 1, x21, x22, x23, x108000, x108001, x109000 => if x23 < x22 then (if 0 ≤ x23 then (if x23 < (x21.length : Int) then (if ((rd_T86 x21 x23).f0) = 1 then (impl_isLined.j3 k 0 99 0 x21 x22 x23 x108000 x108001 x109000 ((rd_T86 x21 x23).f0) ((rd_T86 x21 x23).f1) ((rd_T86 x21 x23).f2)) else (if ((rd_T86 x21 x23).f0) = 2 then (impl_isLined.j3 k 1 9 0 x21 x22 x23 x108000 x108001 x109000 ((rd_T86 x21 x23).f0) ((rd_T86 x21 x23).f1) ((rd_T86 x21 x23).f2)) else (if ((rd_T86 x21 x23).f0) = 3 then (impl_isLined.j2 k 0 39 0 x21 x22 x23 ((rd_T86 x21 x23).f0) (((rd_T86 x21 x23).f0) == 3) x108000 x108001 x109000 ((rd_T86 x21 x23).f0) ((rd_T86 x21 x23).f1) ((rd_T86 x21 x23).f2)) else (impl_isLined.j2 k 0 39 0 x21 x22 x23 ((rd_T86 x21 x23).f0) (((rd_T86 x21 x23).f0) == 5) x108000 x108001 x109000 ((rd_T86 x21 x23).f0) ((rd_T86 x21 x23).f1) ((rd_T86 x21 x23).f2))))) else (none)) else (none)) else ((impl_Guard_80_81.f x108001 x109000).bind fun t109 => (some (!t109)))
def impl_isLined.j3 : Nat → Int → Int → Int → List (S86) → Int → Int → List (S86) → List (S63) → Int → Int → Int → Int → Option (Bool)
 | 0, _, _, _, _, _, _, _, _, _, _, _, _ => none
 | k + 1, x6, x7, x8, x21, x22, x23, x108000, x108001, x109000, x112000, x112001, x112002 => (impl_in.f x112001 x6 x7).bind fun t112 => (if t112 = true then ((impl_in.f x112002 0 x8).bind fun t113 => (if t113 = true then (impl_isLined.l0 k x21 x22 (wrap64 (x23 + 1)) x108000 x108001 x109000) else (some false))) else (some false))
def impl_isLined.j2 : Nat → Int → Int → Int → List (S86) → Int → Int → Int → Bool → List (S86) → List (S63) → Int → Int → Int → Int → Option (Bool)
 | 0, _, _, _, _, _, _, _, _, _, _, _, _, _, _ => none
 | k + 1, x6, x7, x8, x21, x22, x23, x28, x33, x108000, x108001, x109000, x112000, x112001, x112002 => if x33 = true then (impl_isLined.j3 k x6 x7 x8 x21 x22 x23 x108000 x108001 x109000 x112000 x112001 x112002) else (if x28 = 4 then (impl_isLined.j3 k x6 0 x109000 x21 x22 x23 x108000 x108001 x109000 x112000 x112001 x112002) else (if x28 = 6 then (impl_isLined.j3 k x6 x7 9 x21 x22 x23 x108000 x108001 x109000 x112000 x112001 x112002) else (some false)))
end
def impl_isLined.f (k : Nat) (l0_0 : List (S86)) (l0_1 : List (S63)) : Option (Bool) := if (l0_0.length : Int) > 120 then (impl_isLined.j0 k true l0_0 l0_1 (l0_0.length : Int)) else (impl_isLined.j0 k (decide ((l0_1.length : Int) > 20)) l0_0 l0_1 (l0_0.length : Int))
set_option maxHeartbeats 8000000 in
set_option maxRecDepth 100000 in
theorem impl_isLined.calls (k : Nat) (A0_0 : Option Addr) (c0_0 : Nat) (l0_0 : List (S86)) (A0_1 : Option Addr) (c0_1 : Nat) (l0_1 : List (S63)) (r : Bool) (w : World) (hr0_0 : Kd.C k86 w A0_0 l0_0.length l0_0) (hc0_0 : l0_0.length ≤ c0_0) (hr0_1 : Kd.C k63 w A0_1 l0_1.length l0_1) (hc0_1 : l0_1.length ≤ c0_1) (h : impl_isLined.f k l0_0 l0_1 = some r) :
  Calls Try.prog 54 #[.agg #[.slice A0_0 l0_0.length c0_0, .slice A0_1 l0_1.length c0_1]] w fun e w' => e = .returned (.bool r) ∧ Below w.heap.size w w' := by
 have hu38 := Try.underlying38
 have hu86 := Try.underlying86
 have HR0_0 := Aside0.mk hr0_0
 have HC0_0 := Aside0.mk hc0_0
 clear hr0_0 hc0_0
 have HR0_1 := Aside0.mk hr0_1
 have HC0_1 := Aside0.mk hc0_1
 clear hr0_1 hc0_1
 have HB := Aside0.mk (Below.refl w.heap.size w)
 have H : (if (l0_0.length : Int) > 120 then (impl_isLined.j0 k true l0_0 l0_1 (l0_0.length : Int)) else (impl_isLined.j0 k (decide ((l0_1.length : Int) > 20)) l0_0 l0_1 (l0_0.length : Int))) = some r := h
 clear h
 have HC2 := Aside0.mk H
 clear H
 go_enter Try.func54, Try.ntmps54
 go_upto_region 2 with (first | ((with_reducible refine gate_dst (N := 1) rfl ?_); (try (refine gate_guard (by rfl) ?_; dsimp only)); refine bxe 1 #[.slice A0_0 l0_0.length c0_0, .slice A0_1 l0_1.length c0_1] 38 ?_; intro gb107 hg w3 hbox hb; have n0_ := Aside0.mk (below_step lB hb); have n1_ := Aside0.mk (hbox); have n2_ := lG w hg; have n3_ := lG w hg; clear HB; have HB := n0_; have BK107 := n1_; have GW107 := n2_; have GE107 := n3_; clear n0_ n1_ n2_ n3_; clear hb hbox hg; obtain ⟨hcz4_0, hfz4_0, hcz4_1, hfz4_1⟩ := bk2 BK107.out) | ((with_reducible refine gate_dst (N := 3) rfl ?_); (try (refine gate_guard (by rfl) ?_; dsimp only)); refine bxe 3 #[.int .i64 0] 3 ?_; intro gb108 hg w5 hbox hb; have n0_ := Aside0.mk (blk_below (lK BK107.out) hb); have n1_ := Aside0.mk (below_step lB hb); have n2_ := Aside0.mk (hbox); have n3_ := lG w hg; have n4_ := lG w hg; have n5_ := Aside0.mk ((by rw [hg]; exact Nat.ne_of_lt (blk_lt (lK BK107.out)) : gb107 ≠ gb108)); have n6_ := Aside0.mk ((by rw [hg]; exact Nat.ne_of_gt (blk_lt (lK BK107.out)) : gb108 ≠ gb107)); clear BK107; clear HB; have BK107 := n0_; have HB := n1_; have BK108 := n2_; have GW108 := n3_; have GE108 := n4_; have NB107_108 := n5_; have NB108_107 := n6_; clear n0_ n1_ n2_ n3_ n4_ n5_ n6_; clear hb hbox hg; have hnb6 := NB108_107.out; have hnc6 := NB107_108.out; obtain ⟨hcz7_0, hfz7_0⟩ := bk1 BK108.out))
 (try simp only [Act.put, List.setIfInBounds_toArray, List.set_cons_zero, List.set_cons_succ])
 go_cut [19] (fun v19 wc => ∃ (kq : Nat) (x19_1 : Bool), v19 = .bool x19_1 ∧ Aside0 (impl_isLined.j0 kq x19_1 l0_0 l0_1 (l0_0.length : Int) = some r) ∧ Aside0 (kq ≤ k) ∧ Aside0 (wc.heap[gb107]? = some (.cells #[(.slice A0_0 l0_0.length c0_0), (.slice A0_1 l0_1.length c0_1)] 38 (0, 0))) ∧ Aside0 (wc.heap[gb108]? = some (.cells #[.int .i64 (l0_0.length : Int)] 3 (0, 0))) ∧ Aside0 (Below w.heap.size w wc))
 case first =>
  have H := HC2.out
  clear HC2
  by_cases c8 : (l0_0.length : Int) > 120
  ·rw [if_pos c8] at H
   have c8b0 : decide (120 < (l0_0.length : Int)) = true := decide_eq_true c8
   have c8b1 : decide (120 < l0_0.length) = true := decide_eq_true (by omega)
   clear c8
   (first | rw [c8b0] | (simp only [i64_w, i32_w]; rw [c8b0]) | skip)
   have H' := Aside0.mk H
   clear H
   have hnb9 := NB108_107.out
   have hnc9 := NB107_108.out
   obtain ⟨hcz10_0, hfz10_0⟩ := bk1 BK108.out
   go_wp2
   go_meet
   case rel => exact ⟨_, (true), lF, H', ⟨lN⟩, ⟨lJ BK107.out⟩, ⟨by (with_reducible repeat first | apply bN | apply bD | apply bA); refine blk_put (cs := #[.int .i64 0]) ?_ 0 _ rfl; (with_reducible repeat first | apply bN | apply bD | apply bA); exact BK108.out⟩, ⟨lB⟩⟩
  ·rw [if_neg c8] at H
   have c8b0 : decide (120 < (l0_0.length : Int)) = false := decide_eq_false c8
   have c8b1 : decide (120 < l0_0.length) = false := decide_eq_false (by omega)
   clear c8
   (first | rw [c8b0] | (simp only [i64_w, i32_w]; rw [c8b0]) | skip)
   have H' := Aside0.mk H
   clear H
   have hnb11 := NB108_107.out
   have hnc11 := NB107_108.out
   obtain ⟨hcz12_0, hfz12_0⟩ := bk1 BK108.out
   obtain ⟨hcz13_0, hfz13_0, hcz13_1, hfz13_1⟩ := bk2 BK107.out
   go_wp2
   go_meet
   case rel => exact ⟨_, (decide ((l0_1.length : Int) > 20)), lF, H', ⟨lN⟩, ⟨lJ BK107.out⟩, ⟨by (with_reducible repeat first | apply bN | apply bD | apply bA); refine blk_put (cs := #[.int .i64 0]) ?_ 0 _ rfl; (with_reducible repeat first | apply bN | apply bD | apply bA); exact BK108.out⟩, ⟨lB⟩⟩
 case rest =>
  clear HC2
  try clear c1
  try clear p2
  try clear c5
  try clear c6
  try clear c8
  try clear c8b0
  try clear c8b1
  try clear c9
  try clear c11
  try clear hcz10_0
  try clear hcz12_0
  try clear hcz13_0 hcz13_1
  try clear hcz4_0 hcz4_1
  try clear hcz7_0
  try clear hfz10_0
  try clear hfz12_0
  try clear hfz13_0 hfz13_1
  try clear hfz4_0 hfz4_1
  try clear hfz7_0
  obtain ⟨kq, x19_1, rfl, HA, HJ1, BK107, BK108, HB⟩ := hcut
  cases kq with
  | zero => exact absurd HA.out (by simp [impl_isLined.j0])
  | succ kj1 =>
   have H := HA.out
   clear HA
   simp only [impl_isLined.j0] at H
   by_cases c14 : x19_1 = true
   ·subst c14
    rw [if_pos rfl] at H
    obtain rfl := Option.some.inj H
    first | (go_wp2; go_ret; exact ⟨lE, lB⟩) | (exfalso; simp only [decide_eq_false_iff_not, decide_eq_true_eq] at *; omega)
   ·replace c14 := Bool.eq_false_iff.mpr c14
    subst c14
    rw [if_neg (show ¬ (false = true) by decide)] at H
    have H' := Aside0.mk H
    clear H
    have hnb15 := NB107_108.out
    have hnc15 := NB108_107.out
    obtain ⟨hcz16_0, hfz16_0, hcz16_1, hfz16_1⟩ := bk2 BK107.out
    go_wp2
    go_loopg [23] kj1 (fun kq v23 w' => ∃ (x23_2 : Int), v23 = .int .i64 x23_2 ∧ Aside0 (impl_isLined.l0 kq l0_0 (l0_0.length : Int) x23_2 l0_0 l0_1 (l0_0.length : Int) = some r) ∧ Aside0 (kq ≤ kj1) ∧ Aside0 (w'.heap[gb107]? = some (.cells #[(.slice A0_0 l0_0.length c0_0), (.slice A0_1 l0_1.length c0_1)] 38 (0, 0))) ∧ Aside0 (w'.heap[gb108]? = some (.cells #[.int .i64 (l0_0.length : Int)] 3 (0, 0))) ∧ Aside0 (Below w.heap.size w w'))
    case atStart => exact ⟨(0), lF, H', ⟨Nat.le_refl _⟩, ⟨lK BK107.out⟩, ⟨lK BK108.out⟩, ⟨lB⟩⟩
    case round =>
     clear H'
     try clear c1
     try clear p2
     try clear c5
     try clear c6
     try clear c8
     try clear c8b0
     try clear c8b1
     try clear c9
     try clear c11
     try clear c14
     try clear c15
     try clear hcz10_0
     try clear hcz12_0
     try clear hcz13_0 hcz13_1
     try clear hcz16_0 hcz16_1
     try clear hcz4_0 hcz4_1
     try clear hcz7_0
     try clear hfz10_0
     try clear hfz12_0
     try clear hfz13_0 hfz13_1
     try clear hfz16_0 hfz16_1
     try clear hfz4_0 hfz4_1
     try clear hfz7_0
     try clear p2
     obtain ⟨x23_2, rfl, HA, HK2, BK107, BK108, HB⟩ := hrel
     cases gk with
     | zero => exact absurd HA.out (by simp [impl_isLined.l0])
     | succ k2 =>
      have H := HA.out
      clear HA
      simp only [impl_isLined.l0] at H
      by_cases c17 : x23_2 < (l0_0.length : Int)
      ·rw [if_pos c17] at H
       have c17b0 : decide (x23_2 < (l0_0.length : Int)) = true := decide_eq_true c17
       clear c17
       by_cases c18 : 0 ≤ x23_2
       ·rw [if_pos c18] at H
        have c18b0 : decide (0 ≤ x23_2) = true := decide_eq_true c18
        clear c18
        by_cases c19 : x23_2 < (l0_0.length : Int)
        ·rw [if_pos c19] at H
         have c19b0 : decide (x23_2 < (l0_0.length : Int)) = true := decide_eq_true c19
         clear c19
         have HC20 := Aside0.mk H
         clear H
         have p110 : 0 ≤ (x23_2 : Int) := lD
         have q110 : x23_2 < (l0_0.length : Int) := lD
         obtain ⟨ad110, e110, hx110_0, hx110_1, hx110_2⟩ := at_T86 HR0_0.out x23_2 p110 q110
         cases e110
         replace hx110_0 := pw_cell_below HB.out hx110_0
         replace hx110_1 := pw_cell_below HB.out hx110_1
         replace hx110_2 := pw_cell_below HB.out hx110_2
         replace p110 := eq_true p110
         replace q110 := eq_true q110
         go_upto_block 2 with (first | ((with_reducible refine gate_dst (N := 5) rfl ?_); (try (refine gate_guard (by rfl) ?_; dsimp only)); refine bxe 5 #[.int .i64 0, .int .i64 0, .int .i64 0] 86 ?_; intro gb111 hg w21 hbox hb; have n0_ := Aside0.mk (blk_below (lK BK107.out) hb); have n1_ := Aside0.mk (blk_below (lK BK108.out) hb); have n2_ := Aside0.mk (below_step lB hb); have n3_ := Aside0.mk (hbox); have n4_ := lG w hg; have n5_ := lG w hg; have n6_ := Aside0.mk ((by rw [hg]; exact Nat.ne_of_lt (blk_lt (lK BK107.out)) : gb107 ≠ gb111)); have n7_ := Aside0.mk ((by rw [hg]; exact Nat.ne_of_gt (blk_lt (lK BK107.out)) : gb111 ≠ gb107)); have n8_ := Aside0.mk ((by rw [hg]; exact Nat.ne_of_lt (blk_lt (lK BK108.out)) : gb108 ≠ gb111)); have n9_ := Aside0.mk ((by rw [hg]; exact Nat.ne_of_gt (blk_lt (lK BK108.out)) : gb111 ≠ gb108)); clear BK107; clear BK108; clear HB; have BK107 := n0_; have BK108 := n1_; have HB := n2_; have BK111 := n3_; have GW111 := n4_; have GE111 := n5_; have NB107_111 := n6_; have NB111_107 := n7_; have NB108_111 := n8_; have NB111_108 := n9_; clear n0_ n1_ n2_ n3_ n4_ n5_ n6_ n7_ n8_ n9_; clear hb hbox hg; have hnb22 := NB111_107.out; have hnc22 := NB107_111.out; have hnb23 := NB111_108.out; have hnc23 := NB108_111.out; obtain ⟨hcz24_0, hfz24_0, hcz24_1, hfz24_1, hcz24_2, hfz24_2⟩ := bk3 BK111.out))
         (try simp only [Act.put, List.setIfInBounds_toArray, List.set_cons_zero, List.set_cons_succ])
         go_cut [6, 7, 8] (fun v6 v7 v8 wc => ∃ (kq : Nat) (x6_19 : Int) (x7_19 : Int) (x8_19 : Int), v6 = .int .i64 x6_19 ∧ v7 = .int .i64 x7_19 ∧ v8 = .int .i64 x8_19 ∧ Aside0 (impl_isLined.j3 kq x6_19 x7_19 x8_19 l0_0 (l0_0.length : Int) x23_2 l0_0 l0_1 (l0_0.length : Int) ((rd_T86 l0_0 x23_2).f0) ((rd_T86 l0_0 x23_2).f1) ((rd_T86 l0_0 x23_2).f2) = some r) ∧ Aside0 (kq ≤ k2) ∧ Aside0 (wc.heap[gb107]? = some (.cells #[(.slice (some ad110) l0_0.length c0_0), (.slice A0_1 l0_1.length c0_1)] 38 (0, 0))) ∧ Aside0 (wc.heap[gb108]? = some (.cells #[.int .i64 (l0_0.length : Int)] 3 (0, 0))) ∧ Aside0 (wc.heap[gb111]? = some (.cells #[.int .i64 ((rd_T86 l0_0 x23_2).f0), .int .i64 ((rd_T86 l0_0 x23_2).f1), .int .i64 ((rd_T86 l0_0 x23_2).f2)] 86 (0, 0))) ∧ Aside0 (Below w.heap.size w wc))
         case first =>
          have H := HC20.out
          clear HC20
          by_cases c25 : ((rd_T86 l0_0 x23_2).f0) = 1
          ·rw [if_pos c25] at H
           have c25b0 : (((rd_T86 l0_0 x23_2).f0) == 1) = true := beq_iff_eq.mpr c25
           have c25b1 : (((rd_T86 l0_0 x23_2).f0) != 1) = false := bne_eq_false_iff_eq.mpr c25
           clear c25
           (first | rw [c25b0] | (simp only [i64_w, i32_w]; rw [c25b0]) | skip)
           have H' := Aside0.mk H
           clear H
           go_wp2
           go_meet
           case rel => exact ⟨_, (0), (99), (0), lF, lF, lF, H', ⟨by have := HJ1.out; have := HK2.out; first | omega | exact Nat.le_refl _⟩, ⟨lJ BK107.out⟩, ⟨lJ BK108.out⟩, ⟨by (with_reducible repeat first | apply bN | apply bD | apply bA); refine blk_put (cs := #[.int .i64 ((rd_T86 l0_0 x23_2).f0), .int .i64 ((rd_T86 l0_0 x23_2).f1), .int .i64 0]) ?_ 2 _ rfl; (with_reducible repeat first | apply bN | apply bD | apply bA); refine blk_put (cs := #[.int .i64 ((rd_T86 l0_0 x23_2).f0), .int .i64 0, .int .i64 0]) ?_ 1 _ rfl; (with_reducible repeat first | apply bN | apply bD | apply bA); refine blk_put (cs := #[.int .i64 0, .int .i64 0, .int .i64 0]) ?_ 0 _ rfl; (with_reducible repeat first | apply bN | apply bD | apply bA); exact BK111.out⟩, ⟨lB⟩⟩
          ·rw [if_neg c25] at H
           have c25b0 : (((rd_T86 l0_0 x23_2).f0) == 1) = false := beq_eq_false_iff_ne.mpr c25
           have c25b1 : (((rd_T86 l0_0 x23_2).f0) != 1) = true := bne_iff_ne.mpr c25
           (first | rw [c25b0] | (simp only [i64_w, i32_w]; rw [c25b0]) | skip)
           by_cases c26 : ((rd_T86 l0_0 x23_2).f0) = 2
           ·rw [if_pos c26] at H
            have c26b0 : (((rd_T86 l0_0 x23_2).f0) == 2) = true := beq_iff_eq.mpr c26
            have c26b1 : (((rd_T86 l0_0 x23_2).f0) != 2) = false := bne_eq_false_iff_eq.mpr c26
            clear c26
            have H' := Aside0.mk H
            clear H
            go_wp2
            go_meet
            case rel => exact ⟨_, (1), (9), (0), lF, lF, lF, H', ⟨by have := HJ1.out; have := HK2.out; first | omega | exact Nat.le_refl _⟩, ⟨lJ BK107.out⟩, ⟨lJ BK108.out⟩, ⟨by (with_reducible repeat first | apply bN | apply bD | apply bA); refine blk_put (cs := #[.int .i64 ((rd_T86 l0_0 x23_2).f0), .int .i64 ((rd_T86 l0_0 x23_2).f1), .int .i64 0]) ?_ 2 _ rfl; (with_reducible repeat first | apply bN | apply bD | apply bA); refine blk_put (cs := #[.int .i64 ((rd_T86 l0_0 x23_2).f0), .int .i64 0, .int .i64 0]) ?_ 1 _ rfl; (with_reducible repeat first | apply bN | apply bD | apply bA); refine blk_put (cs := #[.int .i64 0, .int .i64 0, .int .i64 0]) ?_ 0 _ rfl; (with_reducible repeat first | apply bN | apply bD | apply bA); exact BK111.out⟩, ⟨lB⟩⟩
           ·rw [if_neg c26] at H
            have c26b0 : (((rd_T86 l0_0 x23_2).f0) == 2) = false := beq_eq_false_iff_ne.mpr c26
            have c26b1 : (((rd_T86 l0_0 x23_2).f0) != 2) = true := bne_iff_ne.mpr c26
            have HC27 := Aside0.mk H
            clear H
            go_upto_if 33 with (fail)
            go_cut [33] (fun v33 wc => ∃ (kq : Nat) (x33_26 : Bool), v33 = .bool x33_26 ∧ Aside0 (impl_isLined.j2 kq 0 39 0 l0_0 (l0_0.length : Int) x23_2 ((rd_T86 l0_0 x23_2).f0) x33_26 l0_0 l0_1 (l0_0.length : Int) ((rd_T86 l0_0 x23_2).f0) ((rd_T86 l0_0 x23_2).f1) ((rd_T86 l0_0 x23_2).f2) = some r) ∧ Aside0 (kq ≤ k2) ∧ Aside0 (wc.heap[gb107]? = some (.cells #[(.slice (some ad110) l0_0.length c0_0), (.slice A0_1 l0_1.length c0_1)] 38 (0, 0))) ∧ Aside0 (wc.heap[gb108]? = some (.cells #[.int .i64 (l0_0.length : Int)] 3 (0, 0))) ∧ Aside0 (wc.heap[gb111]? = some (.cells #[.int .i64 ((rd_T86 l0_0 x23_2).f0), .int .i64 ((rd_T86 l0_0 x23_2).f1), .int .i64 ((rd_T86 l0_0 x23_2).f2)] 86 (0, 0))) ∧ Aside0 (Below w.heap.size w wc))
            case first =>
             have H := HC27.out
             clear HC27
             by_cases c28 : ((rd_T86 l0_0 x23_2).f0) = 3
             ·rw [if_pos c28] at H
              have c28b0 : (((rd_T86 l0_0 x23_2).f0) == 3) = true := beq_iff_eq.mpr c28
              have c28b1 : (((rd_T86 l0_0 x23_2).f0) != 3) = false := bne_eq_false_iff_eq.mpr c28
              clear c28
              (first | rw [c28b0] | (simp only [i64_w, i32_w]; rw [c28b0]) | skip)
              have H' := Aside0.mk H
              clear H
              go_wp2
              go_meet
              case rel => exact ⟨_, ((((rd_T86 l0_0 x23_2).f0) == 3)), lF, H', ⟨by have := HJ1.out; have := HK2.out; first | omega | exact Nat.le_refl _⟩, ⟨lJ BK107.out⟩, ⟨lJ BK108.out⟩, ⟨by (with_reducible repeat first | apply bN | apply bD | apply bA); refine blk_put (cs := #[.int .i64 ((rd_T86 l0_0 x23_2).f0), .int .i64 ((rd_T86 l0_0 x23_2).f1), .int .i64 0]) ?_ 2 _ rfl; (with_reducible repeat first | apply bN | apply bD | apply bA); refine blk_put (cs := #[.int .i64 ((rd_T86 l0_0 x23_2).f0), .int .i64 0, .int .i64 0]) ?_ 1 _ rfl; (with_reducible repeat first | apply bN | apply bD | apply bA); refine blk_put (cs := #[.int .i64 0, .int .i64 0, .int .i64 0]) ?_ 0 _ rfl; (with_reducible repeat first | apply bN | apply bD | apply bA); exact BK111.out⟩, ⟨lB⟩⟩
             ·rw [if_neg c28] at H
              have c28b0 : (((rd_T86 l0_0 x23_2).f0) == 3) = false := beq_eq_false_iff_ne.mpr c28
              have c28b1 : (((rd_T86 l0_0 x23_2).f0) != 3) = true := bne_iff_ne.mpr c28
              (first | rw [c28b0] | (simp only [i64_w, i32_w]; rw [c28b0]) | skip)
              have H' := Aside0.mk H
              clear H
              go_wp2
              go_meet
              case rel => exact ⟨_, ((((rd_T86 l0_0 x23_2).f0) == 5)), lF, H', ⟨by have := HJ1.out; have := HK2.out; first | omega | exact Nat.le_refl _⟩, ⟨lJ BK107.out⟩, ⟨lJ BK108.out⟩, ⟨by (with_reducible repeat first | apply bN | apply bD | apply bA); refine blk_put (cs := #[.int .i64 ((rd_T86 l0_0 x23_2).f0), .int .i64 ((rd_T86 l0_0 x23_2).f1), .int .i64 0]) ?_ 2 _ rfl; (with_reducible repeat first | apply bN | apply bD | apply bA); refine blk_put (cs := #[.int .i64 ((rd_T86 l0_0 x23_2).f0), .int .i64 0, .int .i64 0]) ?_ 1 _ rfl; (with_reducible repeat first | apply bN | apply bD | apply bA); refine blk_put (cs := #[.int .i64 0, .int .i64 0, .int .i64 0]) ?_ 0 _ rfl; (with_reducible repeat first | apply bN | apply bD | apply bA); exact BK111.out⟩, ⟨lB⟩⟩
            case rest =>
             clear HC27
             try clear c1
             try clear p1
             try clear q1
             try clear hx1
             try clear c2
             try clear p2
             try clear c5
             try clear c6
             try clear c8
             try clear c8b0
             try clear c8b1
             try clear c9
             try clear c11
             try clear p11
             try clear q11
             try clear hx11
             try clear c14
             try clear c15
             try clear c17
             try clear c17b0
             try clear c18
             try clear c18b0
             try clear c19
             try clear c19b0
             try clear c22
             try clear c23
             try clear c25
             try clear c25b0
             try clear c25b1
             try clear c26
             try clear c26b0
             try clear c26b1
             try clear c28
             try clear c28b0
             try clear c28b1
             try clear hcz10_0
             try clear hcz12_0
             try clear hcz13_0 hcz13_1
             try clear hcz16_0 hcz16_1
             try clear hcz24_0 hcz24_1 hcz24_2
             try clear hcz4_0 hcz4_1
             try clear hcz7_0
             try clear hfz10_0
             try clear hfz12_0
             try clear hfz13_0 hfz13_1
             try clear hfz16_0 hfz16_1
             try clear hfz24_0 hfz24_1 hfz24_2
             try clear hfz4_0 hfz4_1
             try clear hfz7_0
             try clear hx110_0
             try clear hx110_1
             try clear hx110_2
             try clear p110
             try clear p2
             try clear q110
             obtain ⟨kq, x33_26, rfl, HA, HJ26, BK107, BK108, BK111, HB⟩ := hcut
             cases kq with
             | zero => exact absurd HA.out (by simp [impl_isLined.j2])
             | succ kj26 =>
              have H := HA.out
              clear HA
              simp only [impl_isLined.j2] at H
              by_cases c29 : x33_26 = true
              ·subst c29
               rw [if_pos rfl] at H
               have H' := Aside0.mk H
               clear H
               go_wp2
               go_meet
               case rel => exact ⟨_, (0), (39), (0), lF, lF, lF, H', ⟨by have := HJ1.out; have := HK2.out; have := HJ26.out; first | omega | exact Nat.le_refl _⟩, ⟨lK BK107.out⟩, ⟨lK BK108.out⟩, ⟨lK BK111.out⟩, ⟨lB⟩⟩
              ·replace c29 := Bool.eq_false_iff.mpr c29
               subst c29
               rw [if_neg (show ¬ (false = true) by decide)] at H
               by_cases c30 : ((rd_T86 l0_0 x23_2).f0) = 4
               ·rw [if_pos c30] at H
                have c30b0 : (((rd_T86 l0_0 x23_2).f0) == 4) = true := beq_iff_eq.mpr c30
                have c30b1 : (((rd_T86 l0_0 x23_2).f0) != 4) = false := bne_eq_false_iff_eq.mpr c30
                clear c30
                have H' := Aside0.mk H
                clear H
                have hnb31 := NB108_107.out
                have hnc31 := NB107_108.out
                have hnb32 := NB108_111.out
                have hnc32 := NB111_108.out
                obtain ⟨hcz33_0, hfz33_0⟩ := bk1 BK108.out
                go_wp2
                go_meet
                case rel => exact ⟨_, (0), (0), ((l0_0.length : Int)), lF, lF, lF, H', ⟨by have := HJ1.out; have := HK2.out; have := HJ26.out; first | omega | exact Nat.le_refl _⟩, ⟨lK BK107.out⟩, ⟨lK BK108.out⟩, ⟨lK BK111.out⟩, ⟨lB⟩⟩
               ·rw [if_neg c30] at H
                have c30b0 : (((rd_T86 l0_0 x23_2).f0) == 4) = false := beq_eq_false_iff_ne.mpr c30
                have c30b1 : (((rd_T86 l0_0 x23_2).f0) != 4) = true := bne_iff_ne.mpr c30
                by_cases c34 : ((rd_T86 l0_0 x23_2).f0) = 6
                ·rw [if_pos c34] at H
                 have c34b0 : (((rd_T86 l0_0 x23_2).f0) == 6) = true := beq_iff_eq.mpr c34
                 have c34b1 : (((rd_T86 l0_0 x23_2).f0) != 6) = false := bne_eq_false_iff_eq.mpr c34
                 clear c34
                 have H' := Aside0.mk H
                 clear H
                 go_wp2
                 go_meet
                 case rel => exact ⟨_, (0), (39), (9), lF, lF, lF, H', ⟨by have := HJ1.out; have := HK2.out; have := HJ26.out; first | omega | exact Nat.le_refl _⟩, ⟨lK BK107.out⟩, ⟨lK BK108.out⟩, ⟨lK BK111.out⟩, ⟨lB⟩⟩
                ·rw [if_neg c34] at H
                 have c34b0 : (((rd_T86 l0_0 x23_2).f0) == 6) = false := beq_eq_false_iff_ne.mpr c34
                 have c34b1 : (((rd_T86 l0_0 x23_2).f0) != 6) = true := bne_iff_ne.mpr c34
                 obtain rfl := Option.some.inj H
                 first | (go_wp2; go_ret; exact ⟨lE, lB⟩) | (exfalso; simp only [decide_eq_false_iff_not, decide_eq_true_eq] at *; omega)
         case rest =>
          clear HC20
          try clear c1
          try clear p1
          try clear q1
          try clear hx1
          try clear c2
          try clear p2
          try clear c3
          try clear c5
          try clear c6
          try clear c8
          try clear c8b0
          try clear c8b1
          try clear c9
          try clear c11
          try clear p11
          try clear q11
          try clear hx11
          try clear c14
          try clear c15
          try clear c17
          try clear c17b0
          try clear c18
          try clear c18b0
          try clear c19
          try clear c19b0
          try clear c22
          try clear c23
          try clear c25
          try clear c25b0
          try clear c25b1
          try clear c26
          try clear c26b0
          try clear c26b1
          try clear c28
          try clear c28b0
          try clear c28b1
          try clear c29
          try clear c30
          try clear c30b0
          try clear c30b1
          try clear c31
          try clear c32
          try clear c34
          try clear c34b0
          try clear c34b1
          try clear hcz10_0
          try clear hcz12_0
          try clear hcz13_0 hcz13_1
          try clear hcz16_0 hcz16_1
          try clear hcz24_0 hcz24_1 hcz24_2
          try clear hcz33_0
          try clear hcz4_0 hcz4_1
          try clear hcz7_0
          try clear hfz10_0
          try clear hfz12_0
          try clear hfz13_0 hfz13_1
          try clear hfz16_0 hfz16_1
          try clear hfz24_0 hfz24_1 hfz24_2
          try clear hfz33_0
          try clear hfz4_0 hfz4_1
          try clear hfz7_0
          try clear hx110_0
          try clear hx110_1
          try clear hx110_2
          try clear p1
          try clear p11
          try clear p110
          try clear p2
          try clear q1
          try clear q11
          try clear q110
          obtain ⟨kq, x6_19, x7_19, x8_19, rfl, rfl, rfl, HA, HJ19, BK107, BK108, BK111, HB⟩ := hcut
          cases kq with
          | zero => exact absurd HA.out (by simp [impl_isLined.j3])
          | succ kj19 =>
           have H := HA.out
           clear HA
           simp only [impl_isLined.j3] at H
           replace H := lO H
           obtain ⟨t112, A35, H⟩ := H
           by_cases c36 : t112 = true
           ·subst c36
            rw [if_pos rfl] at H
            replace H := lO H
            obtain ⟨t113, A37, H⟩ := H
            by_cases c38 : t113 = true
            ·subst c38
             rw [if_pos rfl] at H
             have H' := Aside0.mk H
             clear H
             have hnb39 := NB111_107.out
             have hnc39 := NB107_111.out
             have hnb40 := NB111_108.out
             have hnc40 := NB108_111.out
             obtain ⟨hcz41_0, hfz41_0, hcz41_1, hfz41_1, hcz41_2, hfz41_2⟩ := bk3 BK111.out
             go_wp2_with (first | ((with_reducible refine gate_callee (f := 58) rfl ?_); refine gl_ (some 45) (Try.func58) #[.int .i64 ((rd_T86 l0_0 x23_2).f1), .int .i64 x6_19, .int .i64 x7_19] ?_; (with_reducible refine (impl_in.calls ((rd_T86 l0_0 x23_2).f1) x6_19 x7_19 true _ A35.out).mono ?_); rintro e w' ⟨rfl, ⟨nd, rfl⟩⟩; refine ⟨_, rfl, ?_⟩) | (go_at_call 58; (with_reducible refine (impl_in.calls ((rd_T86 l0_0 x23_2).f2) 0 x8_19 true _ A37.out).mono ?_); rintro e w' ⟨rfl, ⟨nd, rfl⟩⟩))
             go_roundg kj19
             case measure => have := HJ1.out; have := HK2.out; have := HJ19.out; omega
             case rel => exact ⟨(wrap64 (x23_2 + 1)), lF, H', ⟨by have := HJ1.out; have := HK2.out; have := HJ19.out; omega⟩, ⟨lK BK107.out⟩, ⟨lK BK108.out⟩, ⟨lB⟩⟩
            ·replace c38 := Bool.eq_false_iff.mpr c38
             subst c38
             rw [if_neg (show ¬ (false = true) by decide)] at H
             obtain rfl := Option.some.inj H
             have hnb42 := NB111_107.out
             have hnc42 := NB107_111.out
             have hnb43 := NB111_108.out
             have hnc43 := NB108_111.out
             obtain ⟨hcz44_0, hfz44_0, hcz44_1, hfz44_1, hcz44_2, hfz44_2⟩ := bk3 BK111.out
             go_wp2_with (first | ((with_reducible refine gate_callee (f := 58) rfl ?_); refine gl_ (some 45) (Try.func58) #[.int .i64 ((rd_T86 l0_0 x23_2).f1), .int .i64 x6_19, .int .i64 x7_19] ?_; (with_reducible refine (impl_in.calls ((rd_T86 l0_0 x23_2).f1) x6_19 x7_19 true _ A35.out).mono ?_); rintro e w' ⟨rfl, ⟨nd, rfl⟩⟩; refine ⟨_, rfl, ?_⟩) | (go_at_call 58; (with_reducible refine (impl_in.calls ((rd_T86 l0_0 x23_2).f2) 0 x8_19 false _ A37.out).mono ?_); rintro e w' ⟨rfl, ⟨nd, rfl⟩⟩))
             go_ret
             exact ⟨lE, lB⟩
           ·replace c36 := Bool.eq_false_iff.mpr c36
            subst c36
            rw [if_neg (show ¬ (false = true) by decide)] at H
            obtain rfl := Option.some.inj H
            have hnb45 := NB111_107.out
            have hnc45 := NB107_111.out
            have hnb46 := NB111_108.out
            have hnc46 := NB108_111.out
            obtain ⟨hcz47_0, hfz47_0, hcz47_1, hfz47_1, hcz47_2, hfz47_2⟩ := bk3 BK111.out
            go_wp2_with (first | ((with_reducible refine gate_callee (f := 58) rfl ?_); refine gl_ (some 45) (Try.func58) #[.int .i64 ((rd_T86 l0_0 x23_2).f1), .int .i64 x6_19, .int .i64 x7_19] ?_; (with_reducible refine (impl_in.calls ((rd_T86 l0_0 x23_2).f1) x6_19 x7_19 false _ A35.out).mono ?_); rintro e w' ⟨rfl, ⟨nd, rfl⟩⟩; refine ⟨_, rfl, ?_⟩))
            go_ret
            exact ⟨lE, lB⟩
        ·rw [if_neg c19] at H
         exact absurd H (by simp)
       ·rw [if_neg c18] at H
        exact absurd H (by simp)
      ·rw [if_neg c17] at H
       have c17b0 : decide (x23_2 < (l0_0.length : Int)) = false := decide_eq_false c17
       clear c17
       replace H := lO H
       obtain ⟨t109, A48, H⟩ := H
       obtain rfl := Option.some.inj H
       have hnb49 := NB107_108.out
       have hnc49 := NB108_107.out
       obtain ⟨hcz50_0, hfz50_0, hcz50_1, hfz50_1⟩ := bk2 BK107.out
       go_wp2_with (first | ((with_reducible refine gate_callee (f := 80) rfl ?_); refine gl_ (some 58) (Try.func80) #[.slice A0_1 l0_1.length c0_1, .func (.func 81) #[] #[.pointer (some ⟨gb108, 0, none⟩)]] ?_; (with_reducible refine (impl_Guard_80_81.calls _ _ l0_1 gb108 (l0_0.length : Int) t109 _ ?side1 ?side2 ?side3 A48.out).mono ?_); (case side1 => exact lC (Kd.C_below HR0_1.out HB.out)); (case side2 => exact HC0_1.out); (case side3 => exact (lK BK108.out)); rintro e w51 ⟨rfl, hb⟩; refine ⟨_, rfl, ?_⟩; have n0_ := Aside0.mk (blk_below (lK BK107.out) hb); have n1_ := Aside0.mk (blk_below (lK BK108.out) hb); have n2_ := Aside0.mk (below_step lB hb); clear BK107; clear BK108; clear HB; have BK107 := n0_; have BK108 := n1_; have HB := n2_; clear n0_ n1_ n2_; (try clear hb); (try clear hb2); (try clear hk); (try clear hi)))
       go_ret
       exact ⟨lE, lB⟩
def impl_GoodLined.f (k : Nat) (l0_0 : List (S86)) (l0_1 : List (S63)) : Option (Bool) := (impl_isLined.f k l0_0 l0_1).bind fun t115 => (some t115)
set_option maxHeartbeats 8000000 in
set_option maxRecDepth 100000 in
theorem impl_GoodLined.calls (k : Nat) (A0_0 : Option Addr) (c0_0 : Nat) (l0_0 : List (S86)) (A0_1 : Option Addr) (c0_1 : Nat) (l0_1 : List (S63)) (r : Bool) (w : World) (hr0_0 : Kd.C k86 w A0_0 l0_0.length l0_0) (hc0_0 : l0_0.length ≤ c0_0) (hr0_1 : Kd.C k63 w A0_1 l0_1.length l0_1) (hc0_1 : l0_1.length ≤ c0_1) (h : impl_GoodLined.f k l0_0 l0_1 = some r) :
  Calls Try.prog 20 #[.agg #[.slice A0_0 l0_0.length c0_0, .slice A0_1 l0_1.length c0_1]] w fun e w' => e = .returned (.bool r) ∧ Below w.heap.size w w' := by
 have hu38 := Try.underlying38
 have HR0_0 := Aside0.mk hr0_0
 have HC0_0 := Aside0.mk hc0_0
 clear hr0_0 hc0_0
 have HR0_1 := Aside0.mk hr0_1
 have HC0_1 := Aside0.mk hc0_1
 clear hr0_1 hc0_1
 have HB := Aside0.mk (Below.refl w.heap.size w)
 have H : ((impl_isLined.f k l0_0 l0_1).bind fun t115 => (some t115)) = some r := h
 clear h
 replace H := lO H
 obtain ⟨t115, A2, H⟩ := H
 obtain rfl := Option.some.inj H
 go_enter Try.func20, Try.ntmps20
 go_wp2_with (first | ((with_reducible refine gate_dst (N := 1) rfl ?_); refine bxe 1 #[.slice A0_0 l0_0.length c0_0, .slice A0_1 l0_1.length c0_1] 38 ?_; intro gb114 hg w3 hbox hb; have n0_ := Aside0.mk (below_step lB hb); have n1_ := Aside0.mk (hbox); have n2_ := lG w hg; have n3_ := lG w hg; clear HB; have HB := n0_; have BK114 := n1_; have GW114 := n2_; have GE114 := n3_; clear n0_ n1_ n2_ n3_; clear hb hbox hg; obtain ⟨hcz4_0, hfz4_0, hcz4_1, hfz4_1⟩ := bk2 BK114.out) | ((with_reducible refine gate_callee (f := 54) rfl ?_); refine gl_ (some 4) (Try.func54) #[.agg #[.slice A0_0 l0_0.length c0_0, .slice A0_1 l0_1.length c0_1]] ?_; (with_reducible refine (impl_isLined.calls k _ _ l0_0 _ _ l0_1 t115 _ ?side1 ?side2 ?side3 ?side4 A2.out).mono ?_); (case side1 => exact lC (Kd.C_below HR0_0.out HB.out)); (case side2 => exact HC0_0.out); (case side3 => exact lC (Kd.C_below HR0_1.out HB.out)); (case side4 => exact HC0_1.out); rintro e w5 ⟨rfl, hb⟩; refine ⟨_, rfl, ?_⟩; have n0_ := Aside0.mk (blk_below (lK BK114.out) hb); have n1_ := Aside0.mk (below_step lB hb); clear BK114; clear HB; have BK114 := n0_; have HB := n1_; clear n0_ n1_; (try clear hb); (try clear hb2); (try clear hk); (try clear hi)))
 go_ret
 exact ⟨lE, lB⟩
def spec_l1In.f (a0 : Int) (a1 : Int) (a2 : Int) : Option (Bool) := if a0 ≥ a1 then (some (decide (a0 ≤ a2))) else (some false)
set_option maxHeartbeats 8000000 in
set_option maxRecDepth 100000 in
theorem spec_l1In.calls (a0 : Int) (a1 : Int) (a2 : Int) (r : Bool) (w : World) (h : spec_l1In.f a0 a1 a2 = some r) :
  Calls Try.prog 51 #[.int .i64 a0, .int .i64 a1, .int .i64 a2] w fun e w' => e = .returned (.bool r) ∧ Drawn0 w w' := by
 have H : (if a0 ≥ a1 then (some (decide (a0 ≤ a2))) else (some false)) = some r := h
 clear h
 by_cases c4 : a0 ≥ a1
 ·rw [if_pos c4] at H
  have c4b0 : decide (a1 ≤ a0) = true := decide_eq_true c4
  clear c4
  obtain rfl := Option.some.inj H
  go_enter Try.func51, Try.ntmps51
  first | (go_wp2; go_ret; exact ⟨by first | rfl | (simp; done) | (simp [*]; done), by repeat (first | exact Drawn0.refl _ | apply Drawn0.step)⟩) | (exfalso; simp only [decide_eq_false_iff_not, decide_eq_true_eq] at *; omega)
 ·rw [if_neg c4] at H
  have c4b0 : decide (a1 ≤ a0) = false := decide_eq_false c4
  clear c4
  obtain rfl := Option.some.inj H
  go_enter Try.func51, Try.ntmps51
  first | (go_wp2; go_ret; exact ⟨by first | rfl | (simp; done) | (simp [*]; done), by repeat (first | exact Drawn0.refl _ | apply Drawn0.step)⟩) | (exfalso; simp only [decide_eq_false_iff_not, decide_eq_true_eq] at *; omega)
mutual
def spec_l16Arity.j0 : Nat → Int → Bool → Option (Int)
 | 0, _, _ => none
 | k + 1, x3, x4 => if x4 = true then (some 0) else (if x3 = 3 then (spec_l16Arity.j1 k x3 (x3 == 3)) else (if x3 = 4 then (spec_l16Arity.j1 k x3 (x3 == 4)) else (spec_l16Arity.j1 k x3 (x3 == 5))))
def spec_l16Arity.j1 : Nat → Int → Bool → Option (Int)
 | 0, _, _ => none
 | k + 1, x3, x7 => if x7 = true then (some 2) else (if x3 = 6 then (some 1) else (some (-1)))
end
def spec_l16Arity.f (k : Nat) (a0 : Int) : Option (Int) := if a0 = 1 then (spec_l16Arity.j0 k a0 (a0 == 1)) else (spec_l16Arity.j0 k a0 (a0 == 2))
set_option maxHeartbeats 8000000 in
set_option maxRecDepth 100000 in
theorem spec_l16Arity.calls (k : Nat) (a0 : Int) (r : Int) (w : World) (h : spec_l16Arity.f k a0 = some r) :
  Calls Try.prog 93 #[.int .i64 a0] w fun e w' => e = .returned (.int .i64 r) ∧ Drawn0 w w' := by
 have H : (if a0 = 1 then (spec_l16Arity.j0 k a0 (a0 == 1)) else (spec_l16Arity.j0 k a0 (a0 == 2))) = some r := h
 clear h
 have HC2 := Aside0.mk H
 clear H
 go_enter Try.func93, Try.ntmps93
 go_upto_if 4 with (fail)
 go_cut [4] (fun v4 wc => ∃ (kq : Nat) (x4_1 : Bool), v4 = .bool x4_1 ∧ Aside0 (spec_l16Arity.j0 kq a0 x4_1 = some r) ∧ Aside0 (kq ≤ k) ∧ Drawn0 w wc)
 case first =>
  have H := HC2.out
  clear HC2
  by_cases c3 : a0 = 1
  ·rw [if_pos c3] at H
   have c3b0 : (a0 == 1) = true := beq_iff_eq.mpr c3
   have c3b1 : (a0 != 1) = false := bne_eq_false_iff_eq.mpr c3
   clear c3
   (first | rw [c3b0] | (simp only [i64_w, i32_w]; rw [c3b0]) | skip)
   have H' := Aside0.mk H
   clear H
   go_wp2
   go_meet
   case rel => exact ⟨_, ((a0 == 1)), lF, H', ⟨lN⟩, by repeat (first | exact Drawn0.refl _ | apply Drawn0.step)⟩
  ·rw [if_neg c3] at H
   have c3b0 : (a0 == 1) = false := beq_eq_false_iff_ne.mpr c3
   have c3b1 : (a0 != 1) = true := bne_iff_ne.mpr c3
   (first | rw [c3b0] | (simp only [i64_w, i32_w]; rw [c3b0]) | skip)
   have H' := Aside0.mk H
   clear H
   go_wp2
   go_meet
   case rel => exact ⟨_, ((a0 == 2)), lF, H', ⟨lN⟩, by repeat (first | exact Drawn0.refl _ | apply Drawn0.step)⟩
 case rest =>
  clear HC2
  try clear p2
  try clear c3
  try clear c3b0
  try clear c3b1
  obtain ⟨kq, x4_1, rfl, HA, HJ1, ⟨mc1, rfl⟩⟩ := hcut
  cases kq with
  | zero => exact absurd HA.out (by simp [spec_l16Arity.j0])
  | succ kj1 =>
   have H := HA.out
   clear HA
   simp only [spec_l16Arity.j0] at H
   by_cases c4 : x4_1 = true
   ·subst c4
    rw [if_pos rfl] at H
    obtain rfl := Option.some.inj H
    first | (go_wp2; go_ret; exact ⟨by first | rfl | (simp; done) | (simp [*]; done), by repeat (first | exact Drawn0.refl _ | apply Drawn0.step)⟩) | (exfalso; simp only [decide_eq_false_iff_not, decide_eq_true_eq] at *; omega)
   ·replace c4 := Bool.eq_false_iff.mpr c4
    subst c4
    rw [if_neg (show ¬ (false = true) by decide)] at H
    have HC5 := Aside0.mk H
    clear H
    go_upto_if 7 with (fail)
    go_cut [7] (fun v7 wc => ∃ (kq : Nat) (x7_4 : Bool), v7 = .bool x7_4 ∧ Aside0 (spec_l16Arity.j1 kq a0 x7_4 = some r) ∧ Aside0 (kq ≤ kj1) ∧ Drawn0 w wc)
    case first =>
     have H := HC5.out
     clear HC5
     by_cases c6 : a0 = 3
     ·rw [if_pos c6] at H
      have c6b0 : (a0 == 3) = true := beq_iff_eq.mpr c6
      have c6b1 : (a0 != 3) = false := bne_eq_false_iff_eq.mpr c6
      clear c6
      (first | rw [c6b0] | (simp only [i64_w, i32_w]; rw [c6b0]) | skip)
      have H' := Aside0.mk H
      clear H
      go_wp2
      go_meet
      case rel => exact ⟨_, ((a0 == 3)), lF, H', ⟨by have := HJ1.out; first | omega | exact Nat.le_refl _⟩, by repeat (first | exact Drawn0.refl _ | apply Drawn0.step)⟩
     ·rw [if_neg c6] at H
      have c6b0 : (a0 == 3) = false := beq_eq_false_iff_ne.mpr c6
      have c6b1 : (a0 != 3) = true := bne_iff_ne.mpr c6
      (first | rw [c6b0] | (simp only [i64_w, i32_w]; rw [c6b0]) | skip)
      by_cases c7 : a0 = 4
      ·rw [if_pos c7] at H
       have c7b0 : (a0 == 4) = true := beq_iff_eq.mpr c7
       have c7b1 : (a0 != 4) = false := bne_eq_false_iff_eq.mpr c7
       clear c7
       have H' := Aside0.mk H
       clear H
       go_wp2
       go_meet
       case rel => exact ⟨_, ((a0 == 4)), lF, H', ⟨by have := HJ1.out; first | omega | exact Nat.le_refl _⟩, by repeat (first | exact Drawn0.refl _ | apply Drawn0.step)⟩
      ·rw [if_neg c7] at H
       have c7b0 : (a0 == 4) = false := beq_eq_false_iff_ne.mpr c7
       have c7b1 : (a0 != 4) = true := bne_iff_ne.mpr c7
       have H' := Aside0.mk H
       clear H
       go_wp2
       go_meet
       case rel => exact ⟨_, ((a0 == 5)), lF, H', ⟨by have := HJ1.out; first | omega | exact Nat.le_refl _⟩, by repeat (first | exact Drawn0.refl _ | apply Drawn0.step)⟩
    case rest =>
     clear HC5
     try clear c1
     try clear p2
     try clear c3
     try clear c3b0
     try clear c3b1
     try clear c4
     try clear c6
     try clear c6b0
     try clear c6b1
     try clear c7
     try clear c7b0
     try clear c7b1
     try clear p2
     obtain ⟨kq, x7_4, rfl, HA, HJ4, ⟨mc4, rfl⟩⟩ := hcut
     cases kq with
     | zero => exact absurd HA.out (by simp [spec_l16Arity.j1])
     | succ kj4 =>
      have H := HA.out
      clear HA
      simp only [spec_l16Arity.j1] at H
      by_cases c8 : x7_4 = true
      ·subst c8
       rw [if_pos rfl] at H
       obtain rfl := Option.some.inj H
       first | (go_wp2; go_ret; exact ⟨by first | rfl | (simp; done) | (simp [*]; done), by repeat (first | exact Drawn0.refl _ | apply Drawn0.step)⟩) | (exfalso; simp only [decide_eq_false_iff_not, decide_eq_true_eq] at *; omega)
      ·replace c8 := Bool.eq_false_iff.mpr c8
       subst c8
       rw [if_neg (show ¬ (false = true) by decide)] at H
       by_cases c9 : a0 = 6
       ·rw [if_pos c9] at H
        have c9b0 : (a0 == 6) = true := beq_iff_eq.mpr c9
        have c9b1 : (a0 != 6) = false := bne_eq_false_iff_eq.mpr c9
        clear c9
        obtain rfl := Option.some.inj H
        first | (go_wp2; go_ret; exact ⟨by first | rfl | (simp; done) | (simp [*]; done), by repeat (first | exact Drawn0.refl _ | apply Drawn0.step)⟩) | (exfalso; simp only [decide_eq_false_iff_not, decide_eq_true_eq] at *; omega)
       ·rw [if_neg c9] at H
        have c9b0 : (a0 == 6) = false := beq_eq_false_iff_ne.mpr c9
        have c9b1 : (a0 != 6) = true := bne_iff_ne.mpr c9
        obtain rfl := Option.some.inj H
        first | (go_wp2; go_ret; exact ⟨by first | rfl | (simp; done) | (simp [*]; done), by repeat (first | exact Drawn0.refl _ | apply Drawn0.step)⟩) | (exfalso; simp only [decide_eq_false_iff_not, decide_eq_true_eq] at *; omega)
end Go.Proofs.Ytgjojppbichaiaa.Q
