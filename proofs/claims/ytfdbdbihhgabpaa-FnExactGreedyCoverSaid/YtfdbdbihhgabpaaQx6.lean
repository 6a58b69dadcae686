-- Written by the program wip/tools/pr.py of this claim's session, over the kit's print.py.
import Derived.Test.YtfdbdbihhgabpaaQx0
import Derived.Test.YtfdbdbihhgabpaaQx4
import Derived.Test.YtfdbdbihhgabpaaQx5
namespace Go.Proofs.Ytfdbdbihhgabpaa.Q
open Go.RowKit Go.Proofs.YtfdbdbihhgabpaaW.PrintWords Go.Proofs.YtfdbdbihhgabpaaW.PrintLast Go.Proofs.YtfdbdbihhgabpaaW.PrintMore
attribute [local go_sem] max2_int min2_int max_two min_two max_three min_three max_four min_four   -- for this text's walks alone
set_option linter.unusedVariables false
set_option linter.unusedSimpArgs false

/-! ### impl_GreedyCover_1: function 45 -/
def impl_GreedyCover_1.l0 : Nat → Int → Int → Int → List (S57) → Int → Int → List Int → Option (Int)
 | 0, _, _, _, _, _, _, _ => none
 | k + 1, x0, x5, x6, x11, x12, x13, x3000 => if x13 < x12 then (if 0 ≤ x13 then (if x13 < (x11.length : Int) then ((impl_fits.f k x3000 x0 ((rd_T57 x11 x13).f0) ((rd_T57 x11 x13).f1)).bind fun bt256 => (if bt256.2 = true then ((impl_Pattern_size.f k ((rd_T57 x11 x13).f0) ((rd_T57 x11 x13).f1)).bind fun t260 => (if t260 > x6 then ((impl_Pattern_size.f k ((rd_T57 x11 x13).f0) ((rd_T57 x11 x13).f1)).bind fun t261 => (impl_GreedyCover_1.l0 k x0 x13 t261 x11 x12 (wrap64 (x13 + 1)) x3000)) else (impl_GreedyCover_1.l0 k x0 x5 x6 x11 x12 (wrap64 (x13 + 1)) x3000))) else (impl_GreedyCover_1.l0 k x0 x5 x6 x11 x12 (wrap64 (x13 + 1)) x3000))) else (none)) else (none)) else (some x5)
def impl_GreedyCover_1.f (k : Nat) (a0 : Int) (l1_0 : List (S57)) (l2_0 : List Int) : Option (Int) := impl_GreedyCover_1.l0 k a0 (-1) 0 l1_0 (l1_0.length : Int) 0 l2_0
theorem impl_GreedyCover_1.mono_l : ∀ k, (∀ y0 y1 y2 y3 y4 y5 y6, LeO (impl_GreedyCover_1.l0 k y0 y1 y2 y3 y4 y5 y6) (impl_GreedyCover_1.l0 (k + 1) y0 y1 y2 y3 y4 y5 y6))
 | 0 => fun _ _ _ _ _ _ _ r h => by simp [impl_GreedyCover_1.l0] at h
 | k + 1 => by
  have ih0 := impl_GreedyCover_1.mono_l k
  ·intro y0 y1 y2 y3 y4 y5 y6
   unfold impl_GreedyCover_1.l0
   repeat' first
   | with_reducible apply ih0
   | with_reducible apply impl_Pattern_size.mono
   | with_reducible apply impl_fits.mono
   | (with_reducible exact LeO.refl _)
   | (with_reducible exact LeO.none _)
   | (with_reducible refine LeO.ite ?_ ?_)
   | (with_reducible refine LeO.bind ?_ (fun _ => ?_))
   | apply ih0
   | apply impl_Pattern_size.mono
   | apply impl_fits.mono
   | exact LeO.none _
   | refine LeO.ite ?_ ?_
   | refine LeO.bind ?_ (fun _ => ?_)
theorem impl_GreedyCover_1.mono : ∀ a0 a1 a2 k, LeO (impl_GreedyCover_1.f k a0 a1 a2) (impl_GreedyCover_1.f (k + 1) a0 a1 a2) := by
 intro a0 a1 a2 k
 have ih0 := impl_GreedyCover_1.mono_l k
 unfold impl_GreedyCover_1.f
 repeat' first
   | with_reducible apply ih0
   | with_reducible apply impl_Pattern_size.mono
   | with_reducible apply impl_fits.mono
   | (with_reducible exact LeO.refl _)
   | (with_reducible exact LeO.none _)
   | (with_reducible refine LeO.ite ?_ ?_)
   | (with_reducible refine LeO.bind ?_ (fun _ => ?_))
   | apply ih0
   | apply impl_Pattern_size.mono
   | apply impl_fits.mono
   | exact LeO.none _
   | refine LeO.ite ?_ ?_
   | refine LeO.bind ?_ (fun _ => ?_)
set_option maxHeartbeats 8000000 in
set_option maxRecDepth 100000 in
theorem impl_GreedyCover_1.calls (k : Nat) (a0 : Int) (g1 : Nat) (A1_0 : Option Addr) (c1_0 : Nat) (l1_0 : List (S57)) (g2 : Nat) (A2_0 : Option Addr) (c2_0 : Nat) (l2_0 : List Int) (r : Int) (w : World) (hb1 : w.heap[g1]? = some (.cells #[.slice A1_0 l1_0.length c1_0] 29 (0, 0))) (hr1_0 : Kd.C k57 w A1_0 l1_0.length l1_0) (hc1_0 : l1_0.length ≤ c1_0) (hb2 : w.heap[g2]? = some (.cells #[.slice A2_0 l2_0.length c2_0] 22 (0, 0))) (hr2_0 : Kd.C (Kd.int .i64) w A2_0 l2_0.length l2_0) (hc2_0 : l2_0.length ≤ c2_0) (h : impl_GreedyCover_1.f k a0 l1_0 l2_0 = some r) :
  Calls Try.prog 45 #[.int .i64 a0, .pointer (some ⟨g1, 0, none⟩), .pointer (some ⟨g2, 0, none⟩)] w fun e w' => e = .returned (.int .i64 r) ∧ Below w.heap.size w w' := by
 have hu57 := Try.underlying57
 have HR1_0 := Aside0.mk hr1_0
 have HC1_0 := Aside0.mk hc1_0
 clear hr1_0 hc1_0
 have HR2_0 := Aside0.mk hr2_0
 have HC2_0 := Aside0.mk hc2_0
 clear hr2_0 hc2_0
 have BK1 := Aside0.mk hb1
 clear hb1
 have BK2 := Aside0.mk hb2
 clear hb2
 have HB := Aside0.mk (Below.refl w.heap.size w)
 have H : (impl_GreedyCover_1.l0 k a0 (-1) 0 l1_0 (l1_0.length : Int) 0 l2_0) = some r := h
 clear h
 have H' := Aside0.mk H
 clear H
 obtain ⟨hcz4_0, hfz4_0⟩ := bk1 BK1.out
 go_enter Try.func45, Try.ntmps45
 go_wp2
 go_loopg [5, 6, 13] k (fun kq v5 v6 v13 w' => ∃ (x5_1 : Int) (x6_1 : Int) (x13_1 : Int), v5 = .int .i64 x5_1 ∧ v6 = .int .i64 x6_1 ∧ v13 = .int .i64 x13_1 ∧ Aside0 (impl_GreedyCover_1.l0 kq a0 x5_1 x6_1 l1_0 (l1_0.length : Int) x13_1 l2_0 = some r) ∧ Aside0 (kq ≤ k) ∧ Aside0 (w'.heap[g1]? = some (.cells #[(.slice A1_0 l1_0.length c1_0)] 29 (0, 0))) ∧ Aside0 (w'.heap[g2]? = some (.cells #[(.slice A2_0 l2_0.length c2_0)] 22 (0, 0))) ∧ Aside0 (Below w.heap.size w w'))
 case atStart => exact ⟨((-1)), (0), (0), lF, lF, lF, H', ⟨Nat.le_refl _⟩, ⟨lK BK1.out⟩, ⟨lK BK2.out⟩, ⟨lB⟩⟩
 case round =>
  clear H'
  try clear c1
  try clear c2
  try clear p2
  try clear c4
  try clear hcz4_0 hfz4_0
  obtain ⟨x5_1, x6_1, x13_1, rfl, rfl, rfl, HA, HK1, BK1, BK2, HB⟩ := hrel
  cases gk with
  | zero => exact absurd HA.out (by simp [impl_GreedyCover_1.l0])
  | succ k1 =>
   have H := HA.out
   clear HA
   simp only [impl_GreedyCover_1.l0] at H
   by_cases c5 : x13_1 < (l1_0.length : Int)
   ·rw [if_pos c5] at H
    have c5b0 : decide (x13_1 < (l1_0.length : Int)) = true := decide_eq_true c5
    clear c5
    by_cases c6 : 0 ≤ x13_1
    ·rw [if_pos c6] at H
     have c6b0 : decide (0 ≤ x13_1) = true := decide_eq_true c6
     clear c6
     by_cases c7 : x13_1 < (l1_0.length : Int)
     ·rw [if_pos c7] at H
      have c7b0 : decide (x13_1 < (l1_0.length : Int)) = true := decide_eq_true c7
      clear c7
      replace H := Option.bind_eq_some_iff.mp H
      obtain ⟨⟨t256, t259⟩, A80, H⟩ := H
      replace H : (if t259 = true then ((impl_Pattern_size.f k1 ((rd_T57 l1_0 x13_1).f0) ((rd_T57 l1_0 x13_1).f1)).bind fun t260 => (if t260 > x6_1 then ((impl_Pattern_size.f k1 ((rd_T57 l1_0 x13_1).f0) ((rd_T57 l1_0 x13_1).f1)).bind fun t261 => (impl_GreedyCover_1.l0 k1 a0 x13_1 t261 l1_0 (l1_0.length : Int) (wrap64 (x13_1 + 1)) l2_0)) else (impl_GreedyCover_1.l0 k1 a0 x5_1 x6_1 l1_0 (l1_0.length : Int) (wrap64 (x13_1 + 1)) l2_0))) else (impl_GreedyCover_1.l0 k1 a0 x5_1 x6_1 l1_0 (l1_0.length : Int) (wrap64 (x13_1 + 1)) l2_0)) = some r := H
      have A8 := Aside0.mk A80
      clear A80
      by_cases c9 : t259 = true
      ·subst c9
       rw [if_pos rfl] at H
       replace H := lO H
       obtain ⟨t260, A10, H⟩ := H
       by_cases c11 : t260 > x6_1
       ·rw [if_pos c11] at H
        have c11b0 : decide (x6_1 < t260) = true := decide_eq_true c11
        clear c11
        replace H := lO H
        obtain ⟨t261, A12, H⟩ := H
        have H' := Aside0.mk H
        clear H
        have p254 : 0 ≤ (x13_1 : Int) := lD
        have q254 : x13_1 < (l1_0.length : Int) := lD
        obtain ⟨ad254, A254_0, c254_0, e254, hx254_0, hx254_1, hl254_0, hi254_0⟩ := at_T57 HR1_0.out x13_1 p254 q254
        cases e254
        replace hx254_0 := pw_cell_below HB.out hx254_0
        replace hx254_1 := pw_cell_below HB.out hx254_1
        have HR254_0 := Aside0.mk hi254_0
        have HC254_0 := Aside0.mk hl254_0
        clear hi254_0 hl254_0
        replace p254 := eq_true p254
        replace q254 := eq_true q254
        go_wp2_with (first | ((with_reducible refine gate_dst (N := 8) rfl ?_); refine bxe 8 #[.slice none 0 0, .int .i64 0] 57 ?_; intro gb255 hg w13 hbox hb; have n0_ := Aside0.mk (blk_below (lK BK1.out) hb); have n1_ := Aside0.mk (blk_below (lK BK2.out) hb); have n2_ := Aside0.mk (below_step lB hb); have n3_ := Aside0.mk (hbox); have n4_ := lG w hg; have n5_ := lG w hg; have n6_ := Aside0.mk ((by rw [hg]; exact Nat.ne_of_lt (blk_lt (lK BK1.out)) : g1 ≠ gb255)); have n7_ := Aside0.mk ((by rw [hg]; exact Nat.ne_of_gt (blk_lt (lK BK1.out)) : gb255 ≠ g1)); have n8_ := Aside0.mk ((by rw [hg]; exact Nat.ne_of_lt (blk_lt (lK BK2.out)) : g2 ≠ gb255)); have n9_ := Aside0.mk ((by rw [hg]; exact Nat.ne_of_gt (blk_lt (lK BK2.out)) : gb255 ≠ g2)); clear BK1; clear BK2; clear HB; have BK1 := n0_; have BK2 := n1_; have HB := n2_; have BK255 := n3_; have GW255 := n4_; have GE255 := n5_; have NB1_255 := n6_; have NB255_1 := n7_; have NB2_255 := n8_; have NB255_2 := n9_; clear n0_ n1_ n2_ n3_ n4_ n5_ n6_ n7_ n8_ n9_; clear hb hbox hg; have hnb14 := NB255_1.out; have hnc14 := NB1_255.out; have hnb15 := NB255_2.out; have hnc15 := NB2_255.out; obtain ⟨hcz16_0, hfz16_0, hcz16_1, hfz16_1⟩ := bk2 BK255.out; obtain ⟨hcz17_0, hfz17_0⟩ := bk1 BK2.out) | ((with_reducible refine gate_callee (f := 46) rfl ?_); refine gl_ (some 22) (Try.func46) #[.slice A2_0 l2_0.length c2_0, .int .i64 a0, .agg #[.slice A254_0 ((rd_T57 l1_0 x13_1).f0).length c254_0, .int .i64 ((rd_T57 l1_0 x13_1).f1)]] ?_; (with_reducible refine (impl_fits.calls k1 _ _ l2_0 a0 _ _ ((rd_T57 l1_0 x13_1).f0) ((rd_T57 l1_0 x13_1).f1) t256 true _ ?side1 ?side2 ?side3 ?side4 A8.out).mono ?_); (case side1 => exact Kd.C_below HR2_0.out lB); (case side2 => exact HC2_0.out); (case side3 => exact Kd.C_below HR254_0.out lB); (case side4 => exact HC254_0.out); rintro e w18 ⟨v257, rfl, ho0, hb⟩; refine ⟨_, rfl, ?_⟩; have n0_ := Aside0.mk (Kd.R_lower ho0 (below_size lB)); have n1_ := Aside0.mk (blk_below (lJ BK1.out) hb); have n2_ := Aside0.mk (blk_below (lJ BK2.out) hb); have n3_ := Aside0.mk (blk_below (g := gb255) (o := .cells #[.slice A254_0 ((rd_T57 l1_0 x13_1).f0).length c254_0, .int .i64 ((rd_T57 l1_0 x13_1).f1)] 57 (0, 0)) (by (with_reducible repeat first | apply bN | apply bD | apply bA); refine blk_put (cs := #[.slice A254_0 ((rd_T57 l1_0 x13_1).f0).length c254_0, .int .i64 0]) ?_ 1 _ rfl; (with_reducible repeat first | apply bN | apply bD | apply bA); refine blk_put (cs := #[.slice none 0 0, .int .i64 0]) ?_ 0 _ rfl; (with_reducible repeat first | apply bN | apply bD | apply bA); exact BK255.out) hb); have n4_ := Aside0.mk (below_step lB hb); clear BK1; clear BK2; clear BK255; clear HB; have HO258 := n0_; have BK1 := n1_; have BK2 := n2_; have BK255 := n3_; have HB := n4_; clear n0_ n1_ n2_ n3_ n4_; (try clear hb); (try clear hb2); (try clear hk); (try clear hi); (try clear ho0); obtain ⟨hcz19_0, hfz19_0, hcz19_1, hfz19_1⟩ := bk2 BK255.out) | (go_at_call 47; (with_reducible refine (impl_Pattern_size.calls k1 _ _ ((rd_T57 l1_0 x13_1).f0) ((rd_T57 l1_0 x13_1).f1) t260 _ ?side1 ?side2 A10.out).mono ?_); (case side1 => exact lC (Kd.C_below HR254_0.out HB.out)); (case side2 => exact HC254_0.out); rintro e w20 ⟨rfl, hb⟩; have n0_ := Aside0.mk (Kd.R_below (lR HO258.out) hb); have n1_ := Aside0.mk (blk_below (lK BK1.out) hb); have n2_ := Aside0.mk (blk_below (lK BK2.out) hb); have n3_ := Aside0.mk (blk_below (lK BK255.out) hb); have n4_ := Aside0.mk (below_step lB hb); clear HO258; clear BK1; clear BK2; clear BK255; clear HB; have HO258 := n0_; have BK1 := n1_; have BK2 := n2_; have BK255 := n3_; have HB := n4_; clear n0_ n1_ n2_ n3_ n4_; (try clear hb); (try clear hb2); (try clear hk); (try clear hi); obtain ⟨hcz21_0, hfz21_0, hcz21_1, hfz21_1⟩ := bk2 BK255.out) | ((with_reducible refine gate_callee (f := 47) rfl ?_); refine gl_ (some 34) (Try.func47) #[.agg #[.slice A254_0 ((rd_T57 l1_0 x13_1).f0).length c254_0, .int .i64 ((rd_T57 l1_0 x13_1).f1)]] ?_; (with_reducible refine (impl_Pattern_size.calls k1 _ _ ((rd_T57 l1_0 x13_1).f0) ((rd_T57 l1_0 x13_1).f1) t261 _ ?side1 ?side2 A12.out).mono ?_); (case side1 => exact lC (Kd.C_below HR254_0.out HB.out)); (case side2 => exact HC254_0.out); rintro e w22 ⟨rfl, hb⟩; refine ⟨_, rfl, ?_⟩; have n0_ := Aside0.mk (Kd.R_below (lR HO258.out) hb); have n1_ := Aside0.mk (blk_below (lK BK1.out) hb); have n2_ := Aside0.mk (blk_below (lK BK2.out) hb); have n3_ := Aside0.mk (blk_below (lK BK255.out) hb); have n4_ := Aside0.mk (below_step lB hb); clear HO258; clear BK1; clear BK2; clear BK255; clear HB; have HO258 := n0_; have BK1 := n1_; have BK2 := n2_; have BK255 := n3_; have HB := n4_; clear n0_ n1_ n2_ n3_ n4_; (try clear hb); (try clear hb2); (try clear hk); (try clear hi)))
        go_roundg k1
        case measure => have := HK1.out; omega
        case rel => exact ⟨(x13_1), (t261), (wrap64 (x13_1 + 1)), lF, lF, lF, H', ⟨by have := HK1.out; omega⟩, ⟨lK BK1.out⟩, ⟨lK BK2.out⟩, ⟨lB⟩⟩
       ·rw [if_neg c11] at H
        have c11b0 : decide (x6_1 < t260) = false := decide_eq_false c11
        clear c11
        have H' := Aside0.mk H
        clear H
        have p254 : 0 ≤ (x13_1 : Int) := lD
        have q254 : x13_1 < (l1_0.length : Int) := lD
        obtain ⟨ad254, A254_0, c254_0, e254, hx254_0, hx254_1, hl254_0, hi254_0⟩ := at_T57 HR1_0.out x13_1 p254 q254
        cases e254
        replace hx254_0 := pw_cell_below HB.out hx254_0
        replace hx254_1 := pw_cell_below HB.out hx254_1
        have HR254_0 := Aside0.mk hi254_0
        have HC254_0 := Aside0.mk hl254_0
        clear hi254_0 hl254_0
        replace p254 := eq_true p254
        replace q254 := eq_true q254
        go_wp2_with (first | ((with_reducible refine gate_dst (N := 8) rfl ?_); refine bxe 8 #[.slice none 0 0, .int .i64 0] 57 ?_; intro gb255 hg w23 hbox hb; have n0_ := Aside0.mk (blk_below (lK BK1.out) hb); have n1_ := Aside0.mk (blk_below (lK BK2.out) hb); have n2_ := Aside0.mk (below_step lB hb); have n3_ := Aside0.mk (hbox); have n4_ := lG w hg; have n5_ := lG w hg; have n6_ := Aside0.mk ((by rw [hg]; exact Nat.ne_of_lt (blk_lt (lK BK1.out)) : g1 ≠ gb255)); have n7_ := Aside0.mk ((by rw [hg]; exact Nat.ne_of_gt (blk_lt (lK BK1.out)) : gb255 ≠ g1)); have n8_ := Aside0.mk ((by rw [hg]; exact Nat.ne_of_lt (blk_lt (lK BK2.out)) : g2 ≠ gb255)); have n9_ := Aside0.mk ((by rw [hg]; exact Nat.ne_of_gt (blk_lt (lK BK2.out)) : gb255 ≠ g2)); clear BK1; clear BK2; clear HB; have BK1 := n0_; have BK2 := n1_; have HB := n2_; have BK255 := n3_; have GW255 := n4_; have GE255 := n5_; have NB1_255 := n6_; have NB255_1 := n7_; have NB2_255 := n8_; have NB255_2 := n9_; clear n0_ n1_ n2_ n3_ n4_ n5_ n6_ n7_ n8_ n9_; clear hb hbox hg; have hnb24 := NB255_1.out; have hnc24 := NB1_255.out; have hnb25 := NB255_2.out; have hnc25 := NB2_255.out; obtain ⟨hcz26_0, hfz26_0, hcz26_1, hfz26_1⟩ := bk2 BK255.out; obtain ⟨hcz27_0, hfz27_0⟩ := bk1 BK2.out) | ((with_reducible refine gate_callee (f := 46) rfl ?_); refine gl_ (some 22) (Try.func46) #[.slice A2_0 l2_0.length c2_0, .int .i64 a0, .agg #[.slice A254_0 ((rd_T57 l1_0 x13_1).f0).length c254_0, .int .i64 ((rd_T57 l1_0 x13_1).f1)]] ?_; (with_reducible refine (impl_fits.calls k1 _ _ l2_0 a0 _ _ ((rd_T57 l1_0 x13_1).f0) ((rd_T57 l1_0 x13_1).f1) t256 true _ ?side1 ?side2 ?side3 ?side4 A8.out).mono ?_); (case side1 => exact Kd.C_below HR2_0.out lB); (case side2 => exact HC2_0.out); (case side3 => exact Kd.C_below HR254_0.out lB); (case side4 => exact HC254_0.out); rintro e w28 ⟨v257, rfl, ho0, hb⟩; refine ⟨_, rfl, ?_⟩; have n0_ := Aside0.mk (Kd.R_lower ho0 (below_size lB)); have n1_ := Aside0.mk (blk_below (lJ BK1.out) hb); have n2_ := Aside0.mk (blk_below (lJ BK2.out) hb); have n3_ := Aside0.mk (blk_below (g := gb255) (o := .cells #[.slice A254_0 ((rd_T57 l1_0 x13_1).f0).length c254_0, .int .i64 ((rd_T57 l1_0 x13_1).f1)] 57 (0, 0)) (by (with_reducible repeat first | apply bN | apply bD | apply bA); refine blk_put (cs := #[.slice A254_0 ((rd_T57 l1_0 x13_1).f0).length c254_0, .int .i64 0]) ?_ 1 _ rfl; (with_reducible repeat first | apply bN | apply bD | apply bA); refine blk_put (cs := #[.slice none 0 0, .int .i64 0]) ?_ 0 _ rfl; (with_reducible repeat first | apply bN | apply bD | apply bA); exact BK255.out) hb); have n4_ := Aside0.mk (below_step lB hb); clear BK1; clear BK2; clear BK255; clear HB; have HO258 := n0_; have BK1 := n1_; have BK2 := n2_; have BK255 := n3_; have HB := n4_; clear n0_ n1_ n2_ n3_ n4_; (try clear hb); (try clear hb2); (try clear hk); (try clear hi); (try clear ho0); obtain ⟨hcz29_0, hfz29_0, hcz29_1, hfz29_1⟩ := bk2 BK255.out) | (go_at_call 47; (with_reducible refine (impl_Pattern_size.calls k1 _ _ ((rd_T57 l1_0 x13_1).f0) ((rd_T57 l1_0 x13_1).f1) t260 _ ?side1 ?side2 A10.out).mono ?_); (case side1 => exact lC (Kd.C_below HR254_0.out HB.out)); (case side2 => exact HC254_0.out); rintro e w30 ⟨rfl, hb⟩; have n0_ := Aside0.mk (Kd.R_below (lR HO258.out) hb); have n1_ := Aside0.mk (blk_below (lK BK1.out) hb); have n2_ := Aside0.mk (blk_below (lK BK2.out) hb); have n3_ := Aside0.mk (blk_below (lK BK255.out) hb); have n4_ := Aside0.mk (below_step lB hb); clear HO258; clear BK1; clear BK2; clear BK255; clear HB; have HO258 := n0_; have BK1 := n1_; have BK2 := n2_; have BK255 := n3_; have HB := n4_; clear n0_ n1_ n2_ n3_ n4_; (try clear hb); (try clear hb2); (try clear hk); (try clear hi)))
        go_roundg k1
        case measure => have := HK1.out; omega
        case rel => exact ⟨(x5_1), (x6_1), (wrap64 (x13_1 + 1)), lF, lF, lF, H', ⟨by have := HK1.out; omega⟩, ⟨lK BK1.out⟩, ⟨lK BK2.out⟩, ⟨lB⟩⟩
      ·replace c9 := Bool.eq_false_iff.mpr c9
       subst c9
       rw [if_neg (show ¬ (false = true) by decide)] at H
       have H' := Aside0.mk H
       clear H
       have p254 : 0 ≤ (x13_1 : Int) := lD
       have q254 : x13_1 < (l1_0.length : Int) := lD
       obtain ⟨ad254, A254_0, c254_0, e254, hx254_0, hx254_1, hl254_0, hi254_0⟩ := at_T57 HR1_0.out x13_1 p254 q254
       cases e254
       replace hx254_0 := pw_cell_below HB.out hx254_0
       replace hx254_1 := pw_cell_below HB.out hx254_1
       have HR254_0 := Aside0.mk hi254_0
       have HC254_0 := Aside0.mk hl254_0
       clear hi254_0 hl254_0
       replace p254 := eq_true p254
       replace q254 := eq_true q254
       go_wp2_with (first | ((with_reducible refine gate_dst (N := 8) rfl ?_); refine bxe 8 #[.slice none 0 0, .int .i64 0] 57 ?_; intro gb255 hg w31 hbox hb; have n0_ := Aside0.mk (blk_below (lK BK1.out) hb); have n1_ := Aside0.mk (blk_below (lK BK2.out) hb); have n2_ := Aside0.mk (below_step lB hb); have n3_ := Aside0.mk (hbox); have n4_ := lG w hg; have n5_ := lG w hg; have n6_ := Aside0.mk ((by rw [hg]; exact Nat.ne_of_lt (blk_lt (lK BK1.out)) : g1 ≠ gb255)); have n7_ := Aside0.mk ((by rw [hg]; exact Nat.ne_of_gt (blk_lt (lK BK1.out)) : gb255 ≠ g1)); have n8_ := Aside0.mk ((by rw [hg]; exact Nat.ne_of_lt (blk_lt (lK BK2.out)) : g2 ≠ gb255)); have n9_ := Aside0.mk ((by rw [hg]; exact Nat.ne_of_gt (blk_lt (lK BK2.out)) : gb255 ≠ g2)); clear BK1; clear BK2; clear HB; have BK1 := n0_; have BK2 := n1_; have HB := n2_; have BK255 := n3_; have GW255 := n4_; have GE255 := n5_; have NB1_255 := n6_; have NB255_1 := n7_; have NB2_255 := n8_; have NB255_2 := n9_; clear n0_ n1_ n2_ n3_ n4_ n5_ n6_ n7_ n8_ n9_; clear hb hbox hg; have hnb32 := NB255_1.out; have hnc32 := NB1_255.out; have hnb33 := NB255_2.out; have hnc33 := NB2_255.out; obtain ⟨hcz34_0, hfz34_0, hcz34_1, hfz34_1⟩ := bk2 BK255.out; obtain ⟨hcz35_0, hfz35_0⟩ := bk1 BK2.out) | ((with_reducible refine gate_callee (f := 46) rfl ?_); refine gl_ (some 22) (Try.func46) #[.slice A2_0 l2_0.length c2_0, .int .i64 a0, .agg #[.slice A254_0 ((rd_T57 l1_0 x13_1).f0).length c254_0, .int .i64 ((rd_T57 l1_0 x13_1).f1)]] ?_; (with_reducible refine (impl_fits.calls k1 _ _ l2_0 a0 _ _ ((rd_T57 l1_0 x13_1).f0) ((rd_T57 l1_0 x13_1).f1) t256 false _ ?side1 ?side2 ?side3 ?side4 A8.out).mono ?_); (case side1 => exact Kd.C_below HR2_0.out lB); (case side2 => exact HC2_0.out); (case side3 => exact Kd.C_below HR254_0.out lB); (case side4 => exact HC254_0.out); rintro e w36 ⟨v257, rfl, ho0, hb⟩; refine ⟨_, rfl, ?_⟩; have n0_ := Aside0.mk (Kd.R_lower ho0 (below_size lB)); have n1_ := Aside0.mk (blk_below (lJ BK1.out) hb); have n2_ := Aside0.mk (blk_below (lJ BK2.out) hb); have n3_ := Aside0.mk (blk_below (g := gb255) (o := .cells #[.slice A254_0 ((rd_T57 l1_0 x13_1).f0).length c254_0, .int .i64 ((rd_T57 l1_0 x13_1).f1)] 57 (0, 0)) (by (with_reducible repeat first | apply bN | apply bD | apply bA); refine blk_put (cs := #[.slice A254_0 ((rd_T57 l1_0 x13_1).f0).length c254_0, .int .i64 0]) ?_ 1 _ rfl; (with_reducible repeat first | apply bN | apply bD | apply bA); refine blk_put (cs := #[.slice none 0 0, .int .i64 0]) ?_ 0 _ rfl; (with_reducible repeat first | apply bN | apply bD | apply bA); exact BK255.out) hb); have n4_ := Aside0.mk (below_step lB hb); clear BK1; clear BK2; clear BK255; clear HB; have HO258 := n0_; have BK1 := n1_; have BK2 := n2_; have BK255 := n3_; have HB := n4_; clear n0_ n1_ n2_ n3_ n4_; (try clear hb); (try clear hb2); (try clear hk); (try clear hi); (try clear ho0)))
       go_roundg k1
       case measure => have := HK1.out; omega
       case rel => exact ⟨(x5_1), (x6_1), (wrap64 (x13_1 + 1)), lF, lF, lF, H', ⟨by have := HK1.out; omega⟩, ⟨lK BK1.out⟩, ⟨lK BK2.out⟩, ⟨lB⟩⟩
     ·rw [if_neg c7] at H
      exact absurd H (by simp)
    ·rw [if_neg c6] at H
     exact absurd H (by simp)
   ·rw [if_neg c5] at H
    have c5b0 : decide (x13_1 < (l1_0.length : Int)) = false := decide_eq_false c5
    clear c5
    obtain rfl := Option.some.inj H
    first | (go_wp2; go_ret; exact ⟨lE, lB⟩) | (exfalso; simp only [decide_eq_false_iff_not, decide_eq_true_eq] at *; omega)

/-! ### impl_lay_39: function 38, handed 39 -/
def impl_lay_39.l0 : Nat → List Int → List (S57) → List (S63) → List Int → List Int → Option ((List (S63)))
 | 0, _, _, _, _, _ => none
 | k + 1, x0, x1, x7, x8, x3000 => if (x8.length : Int) > 0 then (if 0 < (x8.length : Int) then ((impl_BestCover_1.f (rd x8 0) x3000).bind fun t269 => (if x7.length < 8796093022208 then ((some (x7 ++ [(⟨rd x8 0, t269⟩ : S63)] : List (S63))).bind fun y270 => (if t269 < 0 then (some y270) else (if 0 ≤ t269 then (if t269 < (x1.length : Int) then ((impl_fits.f k x0 (rd x8 0) ((rd_T57 x1 t269).f0) ((rd_T57 x1 t269).f1)).bind fun bt274 => (if 1 ≤ (x8.length : Int) then ((some (x8.drop 1 : List Int)).bind fun y278 => (if bt274.1.length + y278.length < 17592186044416 then (impl_lay_39.l0 k x0 x1 y270 (bt274.1 ++ y278) x3000) else (none))) else (none))) else (none)) else (none)))) else (none))) else (none)) else (some x7)
def impl_lay_39.f (k : Nat) (l0 : List Int) (l1 : List (S57)) (l2_0 : List Int) : Option ((List (S63))) := impl_lay_39.l0 k l0 l1 (([] : List (S63))) (([0] : List Int)) l2_0
theorem impl_lay_39.mono_l : ∀ k, (∀ y0 y1 y2 y3 y4, LeO (impl_lay_39.l0 k y0 y1 y2 y3 y4) (impl_lay_39.l0 (k + 1) y0 y1 y2 y3 y4))
 | 0 => fun _ _ _ _ _ r h => by simp [impl_lay_39.l0] at h
 | k + 1 => by
  have ih0 := impl_lay_39.mono_l k
  ·intro y0 y1 y2 y3 y4
   unfold impl_lay_39.l0
   repeat' first
   | with_reducible apply ih0
   | with_reducible apply impl_fits.mono
   | (with_reducible exact LeO.refl _)
   | (with_reducible exact LeO.none _)
   | (with_reducible refine LeO.ite ?_ ?_)
   | (with_reducible refine LeO.bind ?_ (fun _ => ?_))
   | apply ih0
   | apply impl_fits.mono
   | exact LeO.none _
   | refine LeO.ite ?_ ?_
   | refine LeO.bind ?_ (fun _ => ?_)
theorem impl_lay_39.mono : ∀ a0 a1 a2 k, LeO (impl_lay_39.f k a0 a1 a2) (impl_lay_39.f (k + 1) a0 a1 a2) := by
 intro a0 a1 a2 k
 have ih0 := impl_lay_39.mono_l k
 unfold impl_lay_39.f
 repeat' first
   | with_reducible apply ih0
   | with_reducible apply impl_fits.mono
   | (with_reducible exact LeO.refl _)
   | (with_reducible exact LeO.none _)
   | (with_reducible refine LeO.ite ?_ ?_)
   | (with_reducible refine LeO.bind ?_ (fun _ => ?_))
   | apply ih0
   | apply impl_fits.mono
   | exact LeO.none _
   | refine LeO.ite ?_ ?_
   | refine LeO.bind ?_ (fun _ => ?_)
set_option maxHeartbeats 8000000 in
set_option maxRecDepth 100000 in
theorem impl_lay_39.calls (k : Nat) (A0 : Option Addr) (c0 : Nat) (l0 : List Int) (A1 : Option Addr) (c1 : Nat) (l1 : List (S57)) (g2 : Nat) (A2_0 : Option Addr) (c2_0 : Nat) (l2_0 : List Int) (r : List (S63)) (w : World) (hr0 : Kd.C (Kd.int .i64) w A0 l0.length l0) (hc0 : l0.length ≤ c0) (hr1 : Kd.C k57 w A1 l1.length l1) (hc1 : l1.length ≤ c1) (hb2 : w.heap[g2]? = some (.cells #[.slice A2_0 l2_0.length c2_0] 22 (0, 0))) (hr2_0 : Kd.C (Kd.int .i64) w A2_0 l2_0.length l2_0) (hc2_0 : l2_0.length ≤ c2_0) (h : impl_lay_39.f k l0 l1 l2_0 = some r) :
  Calls Try.prog 38 #[.slice A0 l0.length c0, .slice A1 l1.length c1, .func (.func 39) #[] #[.pointer (some ⟨g2, 0, none⟩)]] w fun e w' => ∃ v0_ : Value, e = .returned (v0_) ∧ Kd.R k63 63 w' w.heap.size (fun _ => True) v0_ r ∧ Below w.heap.size w w' := by
 have hu63 := Try.underlying63
 have hu57 := Try.underlying57
 have HR0 := Aside0.mk hr0
 have HC0 := Aside0.mk hc0
 clear hr0 hc0
 have HR1 := Aside0.mk hr1
 have HC1 := Aside0.mk hc1
 clear hr1 hc1
 have HR2_0 := Aside0.mk hr2_0
 have HC2_0 := Aside0.mk hc2_0
 clear hr2_0 hc2_0
 have BK2 := Aside0.mk hb2
 clear hb2
 have HB := Aside0.mk (Below.refl w.heap.size w)
 have H : (impl_lay_39.l0 k l0 l1 (([] : List (S63))) (([0] : List Int)) l2_0) = some r := h
 clear h
 obtain ⟨y262, hy262⟩ : ∃ y_ : List (S63), y_ = (([] : List (S63))) := ⟨_, rfl⟩
 replace H : (impl_lay_39.l0 k l0 l1 y262 (([0] : List Int)) l2_0) = some r := by first | (rw [hy262]; with_reducible exact H) | (have H2_ := (Option.bind_some _ _).symm.trans H; rw [hy262]; with_reducible exact H2_) | (have H2_ := (Option.bind_some _ _).symm.trans H; with_reducible exact H2_) | with_reducible exact H | (rw [hy262]; exact H) | exact H
 have Ny262 := Aside0.mk hy262
 clear hy262
 obtain ⟨y265, hy265⟩ : ∃ y_ : List Int, y_ = (([0] : List Int)) := ⟨_, rfl⟩
 replace H : (impl_lay_39.l0 k l0 l1 y262 y265 l2_0) = some r := by first | (rw [hy265]; with_reducible exact H) | (have H2_ := (Option.bind_some _ _).symm.trans H; rw [hy265]; with_reducible exact H2_) | (have H2_ := (Option.bind_some _ _).symm.trans H; with_reducible exact H2_) | with_reducible exact H | (rw [hy265]; exact H) | exact H
 have Ny265 := Aside0.mk hy265
 clear hy265
 have H' := Aside0.mk H
 clear H
 go_enter Try.func38, Try.ntmps38
 go_wp2_with (first | ((with_reducible refine gate_dst (N := 13) rfl ?_); refine Kd.R_lit k63 _ 63 ?hg (N := 13) ?hd (xs := ([] : List (S63))) (inner := []) (ok := fun _ => True) (okp := fun _ => True) ?hr ?hp (fun _ hk => hk) trivial (Below.refl _ _) (Nat.le_refl _) (by simp) ?_; (case hd => rfl); (case hg => rfl); (case hr => first | (go_simp; done) | (go_simp; rfl)); (case hp => exact (Reps.none _ _)); intro v263 w4 ho5 hb hg_ hnew_; clear hg_ hnew_; (first | rw [← Ny262.out] at ho5 | (simp only [Int.reduceToNat] at ho5; rw [← Ny262.out] at ho5)); have n0_ := Aside0.mk (Kd.R_lower ho5 (below_size lB)); have n1_ := Aside0.mk (blk_below (lK BK2.out) hb); have n2_ := Aside0.mk (below_step lB hb); clear BK2; clear HB; have HO264 := n0_; have BK2 := n1_; have HB := n2_; clear n0_ n1_ n2_; clear hb ho5) | ((with_reducible refine gate_dst (N := 14) rfl ?_); refine Kd.R_lit (Kd.int .i64) _ 3 ?hg (N := 14) ?hd (xs := ([0] : List Int)) (inner := [.int .i64 0]) (ok := fun _ => True) (okp := fun _ => True) ?hr ?hp (fun _ hk => hk) trivial (Below.refl _ _) (Nat.le_refl _) (by simp) ?_; (case hd => rfl); (case hg => rfl); (case hr => first | (go_simp; done) | (go_simp; rfl)); (case hp => exact (Reps.one (show Kd.M (Kd.int .i64) _ _ _ 0 [.int .i64 0] from rfl) (Reps.none _ _))); intro v266 w6 ho7 hb hg_ hnew_; clear hg_ hnew_; (first | rw [← Ny265.out] at ho7 | (simp only [Int.reduceToNat] at ho7; rw [← Ny265.out] at ho7)); have n0_ := Aside0.mk (Kd.R_below (lR HO264.out) hb); have n1_ := Aside0.mk (Kd.R_lower ho7 (below_size lB)); have n2_ := Aside0.mk (blk_below (lK BK2.out) hb); have n3_ := Aside0.mk (below_step lB hb); clear HO264; clear BK2; clear HB; have HO264 := n0_; have HO267 := n1_; have BK2 := n2_; have HB := n3_; clear n0_ n1_ n2_ n3_; clear hb ho7))
 go_loopg [7, 8] k (fun kq v7 v8 w' => ∃ (x7_1 : List (S63)) (x8_1 : List Int), Aside0 (impl_lay_39.l0 kq l0 l1 x7_1 x8_1 l2_0 = some r) ∧ Aside0 (kq ≤ k) ∧ Aside0 (Kd.R k63 63 w' w.heap.size (fun _ => True) v7 x7_1) ∧ Aside0 (Kd.R (Kd.int .i64) 3 w' w.heap.size (fun _ => True) v8 x8_1) ∧ Aside0 (w'.heap[g2]? = some (.cells #[(.slice A2_0 l2_0.length c2_0)] 22 (0, 0))) ∧ Aside0 (Below w.heap.size w w'))
 case atStart => exact ⟨(y262), (y265), H', ⟨Nat.le_refl _⟩, ⟨lR HO264.out⟩, ⟨lR HO267.out⟩, ⟨lK BK2.out⟩, ⟨lB⟩⟩
 case round =>
  clear H'
  try clear c1
  try clear c2
  try clear p2
  try clear c3
  obtain ⟨x7_1, x8_1, HA, HK1, HO_7, HO_8, BK2, HB⟩ := hrel
  cases gk with
  | zero => exact absurd HA.out (by simp [impl_lay_39.l0])
  | succ k1 =>
   have H := HA.out
   clear HA
   simp only [impl_lay_39.l0] at H
   by_cases c8 : (x8_1.length : Int) > 0
   ·rw [if_pos c8] at H
    have c8b0 : decide (0 < (x8_1.length : Int)) = true := decide_eq_true c8
    have c8b1 : decide (0 < x8_1.length) = true := decide_eq_true (by omega)
    clear c8
    by_cases c9 : 0 < (x8_1.length : Int)
    ·rw [if_pos c9] at H
     have c9b0 : decide (0 < (x8_1.length : Int)) = true := decide_eq_true c9
     have c9b1 : decide (0 < x8_1.length) = true := decide_eq_true (by omega)
     clear c9
     replace H := lO H
     obtain ⟨t269, A10, H⟩ := H
     by_cases c11 : x7_1.length < 8796093022208
     ·rw [if_pos c11] at H
      have LMc11 := Aside0.mk c11
      clear c11
      obtain ⟨y270, hy270⟩ : ∃ y_ : List (S63), y_ = (x7_1 ++ [(⟨rd x8_1 0, t269⟩ : S63)]) := ⟨_, rfl⟩
      replace H : (if t269 < 0 then (some y270) else (if 0 ≤ t269 then (if t269 < (l1.length : Int) then ((impl_fits.f k1 l0 (rd x8_1 0) ((rd_T57 l1 t269).f0) ((rd_T57 l1 t269).f1)).bind fun bt274 => (if 1 ≤ (x8_1.length : Int) then ((some (x8_1.drop 1 : List Int)).bind fun y278 => (if bt274.1.length + y278.length < 17592186044416 then (impl_lay_39.l0 k1 l0 l1 y270 (bt274.1 ++ y278) l2_0) else (none))) else (none))) else (none)) else (none))) = some r := by first | (rw [hy270]; with_reducible exact H) | (have H2_ := (Option.bind_some _ _).symm.trans H; rw [hy270]; with_reducible exact H2_) | (have H2_ := (Option.bind_some _ _).symm.trans H; with_reducible exact H2_) | with_reducible exact H | (rw [hy270]; exact H) | exact H
      have Ny270 := Aside0.mk hy270
      clear hy270
      by_cases c12 : t269 < 0
      ·rw [if_pos c12] at H
       have c12b0 : decide (t269 < 0) = true := decide_eq_true c12
       clear c12
       obtain rfl := Option.some.inj H
       obtain ⟨Ao13, co13, eo13⟩ := Kd.R_slice HO_8.out
       subst eo13
       have p268 : 0 ≤ (0 : Int) := (by omega)
       have q268 : 0 < (x8_1.length : Int) := lD
       obtain ⟨ad268, e268, hx268_0⟩ := Kd.at_int (Kd.R_reads' HO_8.out).2.2 0 p268 q268
       cases e268
       have qi268 : (0 < x8_1.length) = True := eq_true (by omega)
       (try rw [show ((0 : Int)).toNat = 0 from rfl] at hx268_0)
       (try rw [Addr.add_zero'] at hx268_0)
       replace p268 := eq_true p268
       replace q268 := eq_true q268
       go_wp2_with (first | ((with_reducible refine gate_val rfl ?_); refine glc_ (some 23) (enters_of Try.func39 (by kernel_rfl) rfl) #[.int .i64 (rd x8_1 0)] #[.pointer (some ⟨g2, 0, none⟩)] #[.int .i64 (rd x8_1 0), .pointer (some ⟨g2, 0, none⟩)] ?_; (with_reducible refine (impl_BestCover_1.calls (rd x8_1 0) g2 A2_0 c2_0 l2_0 t269 _ ?side1 ?side2 ?side3 A10.out).mono ?_); (case side1 => exact (lK BK2.out)); (case side2 => exact lC (Kd.C_below HR2_0.out HB.out)); (case side3 => exact HC2_0.out); rintro e w' ⟨rfl, ⟨nd, rfl⟩⟩; refine ⟨_, rfl, ?_⟩) | ((with_reducible refine gate_builtin (b := .append) (xs := #[.tmp 24, .tmp 28]) rfl ?_); at_builtin; refine Kd.R_append k63 (w0 := w) w.heap.size rfl (.tmp 24) (.tmp 28) 25 63 (.agg #[(.int .i64 0), (.int .i64 0)]) 16 rfl Try.underlying25 info63 rfl (by decide) (by omega) u7 x7_1 (⟨rd x8_1 0, t269⟩ : S63) [.int .i64 (rd x8_1 0), .int .i64 t269] (fun _ => True) (fun _ => False) rfl rfl ?aP (fun _ hk => hk.elim) ?aF ?aO ?aB ?aS ?aL ?_; (case aP => exact k63_mkM _ _ _ (⟨rd x8_1 0, t269⟩ : S63)); (case aB => exact lB); (case aF => exact (fun _ _ => trivial)); (case aO => exact (lR HO_7.out)); (case aS => exact (below_size lB)); (case aL => have := LMc11.out; omega); intro v271 w14 ho hb hg hat; rw [← Ny270.out] at ho; have n0_ := Aside0.mk (Kd.R_over' (lR HO_8.out) (Kd.R_typed (lR HO_7.out)) (by decide) hg); have n1_ := Aside0.mk (blk_grown (lK BK2.out) hg (Kd.R_ne HO_7.out BK2.out (by decide))); have n2_ := Aside0.mk (hb); have n3_ := Aside0.mk (ho); clear HO_8; clear BK2; clear HB; clear HO_7; have HO_8 := n0_; have BK2 := n1_; have HB := n2_; have HO272 := n3_; clear n0_ n1_ n2_ n3_; clear ho hb hg hat))
       go_ret
       exact ⟨_, lE, lR HO272.out, lB⟩
      ·rw [if_neg c12] at H
       have c12b0 : decide (t269 < 0) = false := decide_eq_false c12
       clear c12
       by_cases c15 : 0 ≤ t269
       ·rw [if_pos c15] at H
        have c15b0 : decide (0 ≤ t269) = true := decide_eq_true c15
        clear c15
        by_cases c16 : t269 < (l1.length : Int)
        ·rw [if_pos c16] at H
         have c16b0 : decide (t269 < (l1.length : Int)) = true := decide_eq_true c16
         clear c16
         replace H := Option.bind_eq_some_iff.mp H
         obtain ⟨⟨t274, t277⟩, A170, H⟩ := H
         replace H : (if 1 ≤ (x8_1.length : Int) then ((some (x8_1.drop 1 : List Int)).bind fun y278 => (if t274.length + y278.length < 17592186044416 then (impl_lay_39.l0 k1 l0 l1 y270 (t274 ++ y278) l2_0) else (none))) else (none)) = some r := H
         have A17 := Aside0.mk A170
         clear A170
         by_cases c18 : 1 ≤ (x8_1.length : Int)
         ·rw [if_pos c18] at H
          have c18b0 := eq_true c18
          have c18b1 : decide (1 ≤ (x8_1.length : Int)) = true := decide_eq_true c18
          clear c18
          obtain ⟨y278, hy278⟩ : ∃ y_ : List Int, y_ = (x8_1.drop 1) := ⟨_, rfl⟩
          replace H : (if t274.length + y278.length < 17592186044416 then (impl_lay_39.l0 k1 l0 l1 y270 (t274 ++ y278) l2_0) else (none)) = some r := by first | (rw [hy278]; with_reducible exact H) | (have H2_ := (Option.bind_some _ _).symm.trans H; rw [hy278]; with_reducible exact H2_) | (have H2_ := (Option.bind_some _ _).symm.trans H; with_reducible exact H2_) | with_reducible exact H | (rw [hy278]; exact H) | exact H
          have Ny278 := Aside0.mk hy278
          clear hy278
          by_cases c19 : t274.length + y278.length < 17592186044416
          ·rw [if_pos c19] at H
           have LMc19 := Aside0.mk c19
           clear c19
           obtain ⟨y282, hy282⟩ : ∃ y_ : List Int, y_ = (t274 ++ y278) := ⟨_, rfl⟩
           replace H : (impl_lay_39.l0 k1 l0 l1 y270 y282 l2_0) = some r := by first | (rw [hy282]; with_reducible exact H) | (have H2_ := (Option.bind_some _ _).symm.trans H; rw [hy282]; with_reducible exact H2_) | (have H2_ := (Option.bind_some _ _).symm.trans H; with_reducible exact H2_) | with_reducible exact H | (rw [hy282]; exact H) | exact H
           have Ny282 := Aside0.mk hy282
           clear hy282
           have H' := Aside0.mk H
           clear H
           obtain ⟨Ao20, co20, eo20⟩ := Kd.R_slice HO_8.out
           subst eo20
           have p268 : 0 ≤ (0 : Int) := (by omega)
           have q268 : 0 < (x8_1.length : Int) := lD
           obtain ⟨ad268, e268, hx268_0⟩ := Kd.at_int (Kd.R_reads' HO_8.out).2.2 0 p268 q268
           cases e268
           have qi268 : (0 < x8_1.length) = True := eq_true (by omega)
           (try rw [show ((0 : Int)).toNat = 0 from rfl] at hx268_0)
           (try rw [Addr.add_zero'] at hx268_0)
           replace p268 := eq_true p268
           replace q268 := eq_true q268
           go_wp2_with (first | ((with_reducible refine gate_val rfl ?_); refine glc_ (some 23) (enters_of Try.func39 (by kernel_rfl) rfl) #[.int .i64 (rd x8_1 0)] #[.pointer (some ⟨g2, 0, none⟩)] #[.int .i64 (rd x8_1 0), .pointer (some ⟨g2, 0, none⟩)] ?_; (with_reducible refine (impl_BestCover_1.calls (rd x8_1 0) g2 A2_0 c2_0 l2_0 t269 _ ?side1 ?side2 ?side3 A10.out).mono ?_); (case side1 => exact (lK BK2.out)); (case side2 => exact lC (Kd.C_below HR2_0.out HB.out)); (case side3 => exact HC2_0.out); rintro e w' ⟨rfl, ⟨nd, rfl⟩⟩; refine ⟨_, rfl, ?_⟩) | ((with_reducible refine gate_builtin (b := .append) (xs := #[.tmp 24, .tmp 28]) rfl ?_); at_builtin; refine Kd.R_append k63 (w0 := w) w.heap.size rfl (.tmp 24) (.tmp 28) 25 63 (.agg #[(.int .i64 0), (.int .i64 0)]) 16 rfl Try.underlying25 info63 rfl (by decide) (by omega) u7 x7_1 (⟨rd x8_1 0, t269⟩ : S63) [.int .i64 (rd x8_1 0), .int .i64 t269] (fun _ => True) (fun _ => False) rfl rfl ?aP (fun _ hk => hk.elim) ?aF ?aO ?aB ?aS ?aL ?_; (case aP => exact k63_mkM _ _ _ (⟨rd x8_1 0, t269⟩ : S63)); (case aB => exact lB); (case aF => exact (fun _ _ => trivial)); (case aO => exact (lR HO_7.out)); (case aS => exact (below_size lB)); (case aL => have := LMc11.out; omega); intro v271 w21 ho hb hg hat; rw [← Ny270.out] at ho; have n0_ := Aside0.mk (Kd.R_over' (lR HO_8.out) (Kd.R_typed (lR HO_7.out)) (by decide) hg); have n1_ := Aside0.mk (blk_grown (lK BK2.out) hg (Kd.R_ne HO_7.out BK2.out (by decide))); have n2_ := Aside0.mk (hb); have n3_ := Aside0.mk (ho); clear HO_8; clear BK2; clear HB; clear HO_7; have HO_8 := n0_; have BK2 := n1_; have HB := n2_; have HO272 := n3_; clear n0_ n1_ n2_ n3_; clear ho hb hg hat; have p273 : 0 ≤ (t269 : Int) := lD; have q273 : t269 < (l1.length : Int) := lD; obtain ⟨ad273, A273_0, c273_0, e273, hx273_0, hx273_1, hl273_0, hi273_0⟩ := at_T57 HR1.out t269 p273 q273; cases e273; replace hx273_0 := pw_cell_below HB.out hx273_0; replace hx273_1 := pw_cell_below HB.out hx273_1; have HR273_0 := Aside0.mk hi273_0; have HC273_0 := Aside0.mk hl273_0; clear hi273_0 hl273_0; replace p273 := eq_true p273; replace q273 := eq_true q273) | ((with_reducible refine gate_callee (f := 46) rfl ?_); refine gl_ (some 39) (Try.func46) #[.slice A0 l0.length c0, .int .i64 (rd x8_1 0), .agg #[.slice A273_0 ((rd_T57 l1 t269).f0).length c273_0, .int .i64 ((rd_T57 l1 t269).f1)]] ?_; (with_reducible refine (impl_fits.calls k1 _ _ l0 (rd x8_1 0) _ _ ((rd_T57 l1 t269).f0) ((rd_T57 l1 t269).f1) t274 t277 _ ?side1 ?side2 ?side3 ?side4 A17.out).mono ?_); (case side1 => exact lC (Kd.C_below HR0.out HB.out)); (case side2 => exact HC0.out); (case side3 => exact lC (Kd.C_below HR273_0.out HB.out)); (case side4 => exact HC273_0.out); rintro e w22 ⟨v275, rfl, ho0, hb⟩; refine ⟨_, rfl, ?_⟩; have n0_ := Aside0.mk (Kd.R_elder' (lR HO_8.out) (Kd.R_base ho0) hb); have n1_ := Aside0.mk (Kd.R_below (lR HO272.out) hb); have n2_ := Aside0.mk (Kd.R_lower (Kd.R_new' ho0 (Kd.R_lt (lR HO_8.out))) (below_size lB)); have n3_ := Aside0.mk (blk_below (lK BK2.out) hb); have n4_ := Aside0.mk (below_step lB hb); clear HO_8; clear HO272; clear BK2; clear HB; have HO_8 := n0_; have HO272 := n1_; have HO276 := n2_; have BK2 := n3_; have HB := n4_; clear n0_ n1_ n2_ n3_ n4_; (try clear hb); (try clear hb2); (try clear hk); (try clear hi); (try clear ho0); have q23 : (1 : Int) ≤ ((x8_1.length : Int) : Int) := lD; obtain ⟨i023, hi023, _, hsz23, _⟩ := info_parts info3; have hroom23 : x8_1.length ≤ co20 := (Kd.R_reads' HO_8.out).2.1; have hC23 : Kd.C (Kd.int .i64) _ (some ad268) x8_1.length x8_1 := (Kd.R_reads' HO_8.out).2.2; have hcut23 := cut_from (P := Try.prog) 22 3 .i64 Try.underlying22 hi023 1 hsz23 (some ad268) x8_1.length co20 1 (by omega) q23; have hr23 := Kd.C_drop (m := (1 : Int).toNat) (c := co20) hC23 (by omega) hroom23; obtain ⟨A23, hA23⟩ : ∃ A1, A1 = (if co20 = (1 : Int).toNat then (some ad268) else ((some ad268) : Option Addr).map (·.add ((1 : Int).toNat * 1))) := ⟨_, rfl⟩; obtain ⟨c23, hc23⟩ : ∃ c1, c1 = co20 - (1 : Int).toNat := ⟨_, rfl⟩; have hy23 : y278.length = x8_1.length - (1 : Int).toNat := (by rw [Ny278.out, List.length_drop] <;> omega); rw [show (x8_1).drop (1 : Int).toNat = y278 from Ny278.out.symm] at hr23; replace hr23 : Kd.C (Kd.int .i64) _ A23 y278.length y278 := (by rw [hA23]; exact hr23); rw [← hy23, ← hA23, ← hc23] at hcut23; have HR281 := Aside0.mk hr23; have HC281 := Aside0.mk (show y278.length ≤ c23 from by rw [hy23, hc23]; exact Nat.sub_le_sub_right hroom23 _); clear hr23 hC23 hroom23 hi023 hsz23 hc23; have KY23 := Aside0.mk hy23; have KA23 := Aside0.mk hA23; clear hy23 hA23; have KL23 := Aside0.mk (show 1 ≤ x8_1.length from by omega); replace q23 := eq_true q23) | ((with_reducible refine gate_builtin (b := .append) (xs := #[.tmp 42, .tmp 44]) rfl ?_); at_builtin; refine Kd.R_append_rows (Kd.int .i64) (w0 := w) w.heap.size rfl (.tmp 42) (.tmp 44) 22 3 (.int .i64 0) 8 rfl Try.underlying22 info3 rfl (by decide) (by omega) v275 t274 y278 _ _ _ (fun k_ => some k_ ≠ (.slice (some ad268) x8_1.length co20 : Value).ownBlock) (fun _ => False) rfl rfl ?aO ?aR (fun _ _ h => h) (fun _ h => h.elim) ?aF ?aB ?aS ?aL ?_; (case aR => repeat (first | exact (by repeat (first | (with_reducible exact HR281.out) | (with_reducible refine Kd.C_alloc ?_ _) | (with_reducible refine Kd.C_drewN ?_ _) | (with_reducible refine Kd.C_drew ?_) | exact HR281.out)) | (with_reducible refine Kd.C_alloc ?_ _) | (with_reducible refine Kd.C_drewN ?_ _) | (with_reducible refine Kd.C_drew ?_))); (case aB => exact lB); (case aF => exact (fun k_ hk => Kd.fresh' (Kd.R_lt (lR HO_8.out)) k_ hk)); (case aO => exact (by (with_reducible repeat (first | apply Kd.R_alloc | apply Kd.R_drewN | apply Kd.R_drew)); exact Kd.R_mono HO276.out (fun _ hk => hk.2))); (case aS => exact (below_size lB)); (case aL => have := LMc19.out; omega); intro v283 w24 ho hb hg hat; rw [← Ny282.out] at ho; have n0_ := Aside0.mk (Kd.R_after (ok := (fun _ => True)) (lR HO_8.out) hg hat); have n1_ := Aside0.mk (blk_grown (lK BK2.out) hg (Kd.R_ne HO276.out BK2.out (by decide))); have n2_ := Aside0.mk (Kd.R_over' (lR HO272.out) (Kd.R_typed (lR HO276.out)) (by decide) hg); have n3_ := Aside0.mk (hb); have n4_ := Aside0.mk ((show Kd.C (Kd.int .i64) w24 A23 y278.length y278 from by rw [Ny278.out, KA23.out]; exact Kd.C_drop (m := 1) (c := co20) ((Kd.R_reads' (Kd.R_after (ok := (fun _ => True)) (lR HO_8.out) hg hat)).2.2) KL23.out ((Kd.R_reads' (Kd.R_after (ok := (fun _ => True)) (lR HO_8.out) hg hat)).2.1))); have n5_ := Aside0.mk (ho); clear HO_8; clear BK2; clear HO272; clear HB; clear HR281; clear HO276; have HO_8 := n0_; have BK2 := n1_; have HO272 := n2_; have HB := n3_; have HR281 := n4_; have HO284 := n5_; clear n0_ n1_ n2_ n3_ n4_ n5_; clear ho hb hg hat))
           go_roundg k1
           case measure => have := HK1.out; omega
           case rel => exact ⟨(y270), (y282), H', ⟨by have := HK1.out; omega⟩, ⟨lR HO272.out⟩, ⟨by (with_reducible repeat (first | apply Kd.R_alloc | apply Kd.R_drewN | apply Kd.R_drew)); exact Kd.R_mono HO284.out (fun _ hk => trivial)⟩, ⟨lK BK2.out⟩, ⟨lB⟩⟩
          ·rw [if_neg c19] at H
           exact absurd H (by simp)
         ·rw [if_neg c18] at H
          exact absurd H (by simp)
        ·rw [if_neg c16] at H
         exact absurd H (by simp)
       ·rw [if_neg c15] at H
        exact absurd H (by simp)
     ·rw [if_neg c11] at H
      exact absurd H (by simp)
    ·rw [if_neg c9] at H
     exact absurd H (by simp)
   ·rw [if_neg c8] at H
    have c8b0 : decide (0 < (x8_1.length : Int)) = false := decide_eq_false c8
    have c8b1 : decide (0 < x8_1.length) = false := decide_eq_false (by omega)
    clear c8
    obtain rfl := Option.some.inj H
    obtain ⟨Ao25, co25, eo25⟩ := Kd.R_slice HO_8.out
    subst eo25
    first | (go_wp2; go_ret; exact ⟨_, lE, lR HO_7.out, lB⟩) | (exfalso; simp only [decide_eq_false_iff_not, decide_eq_true_eq] at *; omega)

/-! ### impl_lay_45: function 38, handed 45 -/
def impl_lay_45.l0 : Nat → List Int → List (S57) → List (S63) → List Int → List (S57) → List Int → Option ((List (S63)))
 | 0, _, _, _, _, _, _ => none
 | k + 1, x0, x1, x7, x8, x3000, x4000 => if (x8.length : Int) > 0 then (if 0 < (x8.length : Int) then ((impl_GreedyCover_1.f k (rd x8 0) x3000 x4000).bind fun t292 => (if x7.length < 8796093022208 then ((some (x7 ++ [(⟨rd x8 0, t292⟩ : S63)] : List (S63))).bind fun y293 => (if t292 < 0 then (some y293) else (if 0 ≤ t292 then (if t292 < (x1.length : Int) then ((impl_fits.f k x0 (rd x8 0) ((rd_T57 x1 t292).f0) ((rd_T57 x1 t292).f1)).bind fun bt297 => (if 1 ≤ (x8.length : Int) then ((some (x8.drop 1 : List Int)).bind fun y301 => (if bt297.1.length + y301.length < 17592186044416 then (impl_lay_45.l0 k x0 x1 y293 (bt297.1 ++ y301) x3000 x4000) else (none))) else (none))) else (none)) else (none)))) else (none))) else (none)) else (some x7)
def impl_lay_45.f (k : Nat) (l0 : List Int) (l1 : List (S57)) (l2_0 : List (S57)) (l3_0 : List Int) : Option ((List (S63))) := impl_lay_45.l0 k l0 l1 (([] : List (S63))) (([0] : List Int)) l2_0 l3_0
theorem impl_lay_45.mono_l : ∀ k, (∀ y0 y1 y2 y3 y4 y5, LeO (impl_lay_45.l0 k y0 y1 y2 y3 y4 y5) (impl_lay_45.l0 (k + 1) y0 y1 y2 y3 y4 y5))
 | 0 => fun _ _ _ _ _ _ r h => by simp [impl_lay_45.l0] at h
 | k + 1 => by
  have ih0 := impl_lay_45.mono_l k
  ·intro y0 y1 y2 y3 y4 y5
   unfold impl_lay_45.l0
   repeat' first
   | with_reducible apply ih0
   | with_reducible apply impl_GreedyCover_1.mono
   | with_reducible apply impl_fits.mono
   | (with_reducible exact LeO.refl _)
   | (with_reducible exact LeO.none _)
   | (with_reducible refine LeO.ite ?_ ?_)
   | (with_reducible refine LeO.bind ?_ (fun _ => ?_))
   | apply ih0
   | apply impl_GreedyCover_1.mono
   | apply impl_fits.mono
   | exact LeO.none _
   | refine LeO.ite ?_ ?_
   | refine LeO.bind ?_ (fun _ => ?_)
theorem impl_lay_45.mono : ∀ a0 a1 a2 a3 k, LeO (impl_lay_45.f k a0 a1 a2 a3) (impl_lay_45.f (k + 1) a0 a1 a2 a3) := by
 intro a0 a1 a2 a3 k
 have ih0 := impl_lay_45.mono_l k
 unfold impl_lay_45.f
 repeat' first
   | with_reducible apply ih0
   | with_reducible apply impl_GreedyCover_1.mono
   | with_reducible apply impl_fits.mono
   | (with_reducible exact LeO.refl _)
   | (with_reducible exact LeO.none _)
   | (with_reducible refine LeO.ite ?_ ?_)
   | (with_reducible refine LeO.bind ?_ (fun _ => ?_))
   | apply ih0
   | apply impl_GreedyCover_1.mono
   | apply impl_fits.mono
   | exact LeO.none _
   | refine LeO.ite ?_ ?_
   | refine LeO.bind ?_ (fun _ => ?_)
set_option maxHeartbeats 8000000 in
set_option maxRecDepth 100000 in
theorem impl_lay_45.calls (k : Nat) (A0 : Option Addr) (c0 : Nat) (l0 : List Int) (A1 : Option Addr) (c1 : Nat) (l1 : List (S57)) (g2 : Nat) (A2_0 : Option Addr) (c2_0 : Nat) (l2_0 : List (S57)) (g3 : Nat) (A3_0 : Option Addr) (c3_0 : Nat) (l3_0 : List Int) (r : List (S63)) (w : World) (hr0 : Kd.C (Kd.int .i64) w A0 l0.length l0) (hc0 : l0.length ≤ c0) (hr1 : Kd.C k57 w A1 l1.length l1) (hc1 : l1.length ≤ c1) (hb2 : w.heap[g2]? = some (.cells #[.slice A2_0 l2_0.length c2_0] 29 (0, 0))) (hr2_0 : Kd.C k57 w A2_0 l2_0.length l2_0) (hc2_0 : l2_0.length ≤ c2_0) (hb3 : w.heap[g3]? = some (.cells #[.slice A3_0 l3_0.length c3_0] 22 (0, 0))) (hr3_0 : Kd.C (Kd.int .i64) w A3_0 l3_0.length l3_0) (hc3_0 : l3_0.length ≤ c3_0) (h : impl_lay_45.f k l0 l1 l2_0 l3_0 = some r) :
  Calls Try.prog 38 #[.slice A0 l0.length c0, .slice A1 l1.length c1, .func (.func 45) #[] #[.pointer (some ⟨g2, 0, none⟩), .pointer (some ⟨g3, 0, none⟩)]] w fun e w' => ∃ v0_ : Value, e = .returned (v0_) ∧ Kd.R k63 63 w' w.heap.size (fun _ => True) v0_ r ∧ Below w.heap.size w w' := by
 have hu63 := Try.underlying63
 have hu57 := Try.underlying57
 have HR0 := Aside0.mk hr0
 have HC0 := Aside0.mk hc0
 clear hr0 hc0
 have HR1 := Aside0.mk hr1
 have HC1 := Aside0.mk hc1
 clear hr1 hc1
 have HR2_0 := Aside0.mk hr2_0
 have HC2_0 := Aside0.mk hc2_0
 clear hr2_0 hc2_0
 have HR3_0 := Aside0.mk hr3_0
 have HC3_0 := Aside0.mk hc3_0
 clear hr3_0 hc3_0
 have BK2 := Aside0.mk hb2
 clear hb2
 have BK3 := Aside0.mk hb3
 clear hb3
 have HB := Aside0.mk (Below.refl w.heap.size w)
 have H : (impl_lay_45.l0 k l0 l1 (([] : List (S63))) (([0] : List Int)) l2_0 l3_0) = some r := h
 clear h
 obtain ⟨y285, hy285⟩ : ∃ y_ : List (S63), y_ = (([] : List (S63))) := ⟨_, rfl⟩
 replace H : (impl_lay_45.l0 k l0 l1 y285 (([0] : List Int)) l2_0 l3_0) = some r := by first | (rw [hy285]; with_reducible exact H) | (have H2_ := (Option.bind_some _ _).symm.trans H; rw [hy285]; with_reducible exact H2_) | (have H2_ := (Option.bind_some _ _).symm.trans H; with_reducible exact H2_) | with_reducible exact H | (rw [hy285]; exact H) | exact H
 have Ny285 := Aside0.mk hy285
 clear hy285
 obtain ⟨y288, hy288⟩ : ∃ y_ : List Int, y_ = (([0] : List Int)) := ⟨_, rfl⟩
 replace H : (impl_lay_45.l0 k l0 l1 y285 y288 l2_0 l3_0) = some r := by first | (rw [hy288]; with_reducible exact H) | (have H2_ := (Option.bind_some _ _).symm.trans H; rw [hy288]; with_reducible exact H2_) | (have H2_ := (Option.bind_some _ _).symm.trans H; with_reducible exact H2_) | with_reducible exact H | (rw [hy288]; exact H) | exact H
 have Ny288 := Aside0.mk hy288
 clear hy288
 have H' := Aside0.mk H
 clear H
 go_enter Try.func38, Try.ntmps38
 go_wp2_with (first | ((with_reducible refine gate_dst (N := 13) rfl ?_); refine Kd.R_lit k63 _ 63 ?hg (N := 13) ?hd (xs := ([] : List (S63))) (inner := []) (ok := fun _ => True) (okp := fun _ => True) ?hr ?hp (fun _ hk => hk) trivial (Below.refl _ _) (Nat.le_refl _) (by simp) ?_; (case hd => rfl); (case hg => rfl); (case hr => first | (go_simp; done) | (go_simp; rfl)); (case hp => exact (Reps.none _ _)); intro v286 w5 ho6 hb hg_ hnew_; clear hg_ hnew_; (first | rw [← Ny285.out] at ho6 | (simp only [Int.reduceToNat] at ho6; rw [← Ny285.out] at ho6)); have n0_ := Aside0.mk (Kd.R_lower ho6 (below_size lB)); have n1_ := Aside0.mk (blk_below (lK BK2.out) hb); have n2_ := Aside0.mk (blk_below (lK BK3.out) hb); have n3_ := Aside0.mk (below_step lB hb); clear BK2; clear BK3; clear HB; have HO287 := n0_; have BK2 := n1_; have BK3 := n2_; have HB := n3_; clear n0_ n1_ n2_ n3_; clear hb ho6) | ((with_reducible refine gate_dst (N := 14) rfl ?_); refine Kd.R_lit (Kd.int .i64) _ 3 ?hg (N := 14) ?hd (xs := ([0] : List Int)) (inner := [.int .i64 0]) (ok := fun _ => True) (okp := fun _ => True) ?hr ?hp (fun _ hk => hk) trivial (Below.refl _ _) (Nat.le_refl _) (by simp) ?_; (case hd => rfl); (case hg => rfl); (case hr => first | (go_simp; done) | (go_simp; rfl)); (case hp => exact (Reps.one (show Kd.M (Kd.int .i64) _ _ _ 0 [.int .i64 0] from rfl) (Reps.none _ _))); intro v289 w7 ho8 hb hg_ hnew_; clear hg_ hnew_; (first | rw [← Ny288.out] at ho8 | (simp only [Int.reduceToNat] at ho8; rw [← Ny288.out] at ho8)); have n0_ := Aside0.mk (Kd.R_below (lR HO287.out) hb); have n1_ := Aside0.mk (Kd.R_lower ho8 (below_size lB)); have n2_ := Aside0.mk (blk_below (lK BK2.out) hb); have n3_ := Aside0.mk (blk_below (lK BK3.out) hb); have n4_ := Aside0.mk (below_step lB hb); clear HO287; clear BK2; clear BK3; clear HB; have HO287 := n0_; have HO290 := n1_; have BK2 := n2_; have BK3 := n3_; have HB := n4_; clear n0_ n1_ n2_ n3_ n4_; clear hb ho8))
 go_loopg [7, 8] k (fun kq v7 v8 w' => ∃ (x7_1 : List (S63)) (x8_1 : List Int), Aside0 (impl_lay_45.l0 kq l0 l1 x7_1 x8_1 l2_0 l3_0 = some r) ∧ Aside0 (kq ≤ k) ∧ Aside0 (Kd.R k63 63 w' w.heap.size (fun _ => True) v7 x7_1) ∧ Aside0 (Kd.R (Kd.int .i64) 3 w' w.heap.size (fun _ => True) v8 x8_1) ∧ Aside0 (w'.heap[g2]? = some (.cells #[(.slice A2_0 l2_0.length c2_0)] 29 (0, 0))) ∧ Aside0 (w'.heap[g3]? = some (.cells #[(.slice A3_0 l3_0.length c3_0)] 22 (0, 0))) ∧ Aside0 (Below w.heap.size w w'))
 case atStart => exact ⟨(y285), (y288), H', ⟨Nat.le_refl _⟩, ⟨lR HO287.out⟩, ⟨lR HO290.out⟩, ⟨lK BK2.out⟩, ⟨lK BK3.out⟩, ⟨lB⟩⟩
 case round =>
  clear H'
  try clear c1
  try clear c2
  try clear p2
  try clear c3
  obtain ⟨x7_1, x8_1, HA, HK1, HO_7, HO_8, BK2, BK3, HB⟩ := hrel
  cases gk with
  | zero => exact absurd HA.out (by simp [impl_lay_45.l0])
  | succ k1 =>
   have H := HA.out
   clear HA
   simp only [impl_lay_45.l0] at H
   by_cases c9 : (x8_1.length : Int) > 0
   ·rw [if_pos c9] at H
    have c9b0 : decide (0 < (x8_1.length : Int)) = true := decide_eq_true c9
    have c9b1 : decide (0 < x8_1.length) = true := decide_eq_true (by omega)
    clear c9
    by_cases c10 : 0 < (x8_1.length : Int)
    ·rw [if_pos c10] at H
     have c10b0 : decide (0 < (x8_1.length : Int)) = true := decide_eq_true c10
     have c10b1 : decide (0 < x8_1.length) = true := decide_eq_true (by omega)
     clear c10
     replace H := lO H
     obtain ⟨t292, A11, H⟩ := H
     by_cases c12 : x7_1.length < 8796093022208
     ·rw [if_pos c12] at H
      have LMc12 := Aside0.mk c12
      clear c12
      obtain ⟨y293, hy293⟩ : ∃ y_ : List (S63), y_ = (x7_1 ++ [(⟨rd x8_1 0, t292⟩ : S63)]) := ⟨_, rfl⟩
      replace H : (if t292 < 0 then (some y293) else (if 0 ≤ t292 then (if t292 < (l1.length : Int) then ((impl_fits.f k1 l0 (rd x8_1 0) ((rd_T57 l1 t292).f0) ((rd_T57 l1 t292).f1)).bind fun bt297 => (if 1 ≤ (x8_1.length : Int) then ((some (x8_1.drop 1 : List Int)).bind fun y301 => (if bt297.1.length + y301.length < 17592186044416 then (impl_lay_45.l0 k1 l0 l1 y293 (bt297.1 ++ y301) l2_0 l3_0) else (none))) else (none))) else (none)) else (none))) = some r := by first | (rw [hy293]; with_reducible exact H) | (have H2_ := (Option.bind_some _ _).symm.trans H; rw [hy293]; with_reducible exact H2_) | (have H2_ := (Option.bind_some _ _).symm.trans H; with_reducible exact H2_) | with_reducible exact H | (rw [hy293]; exact H) | exact H
      have Ny293 := Aside0.mk hy293
      clear hy293
      by_cases c13 : t292 < 0
      ·rw [if_pos c13] at H
       have c13b0 : decide (t292 < 0) = true := decide_eq_true c13
       clear c13
       obtain rfl := Option.some.inj H
       obtain ⟨Ao14, co14, eo14⟩ := Kd.R_slice HO_8.out
       subst eo14
       have p291 : 0 ≤ (0 : Int) := (by omega)
       have q291 : 0 < (x8_1.length : Int) := lD
       obtain ⟨ad291, e291, hx291_0⟩ := Kd.at_int (Kd.R_reads' HO_8.out).2.2 0 p291 q291
       cases e291
       have qi291 : (0 < x8_1.length) = True := eq_true (by omega)
       (try rw [show ((0 : Int)).toNat = 0 from rfl] at hx291_0)
       (try rw [Addr.add_zero'] at hx291_0)
       replace p291 := eq_true p291
       replace q291 := eq_true q291
       go_wp2_with (first | ((with_reducible refine gate_val rfl ?_); refine glc_ (some 23) (enters_of Try.func45 (by kernel_rfl) rfl) #[.int .i64 (rd x8_1 0)] #[.pointer (some ⟨g2, 0, none⟩), .pointer (some ⟨g3, 0, none⟩)] #[.int .i64 (rd x8_1 0), .pointer (some ⟨g2, 0, none⟩), .pointer (some ⟨g3, 0, none⟩)] ?_; (with_reducible refine (impl_GreedyCover_1.calls k1 (rd x8_1 0) g2 A2_0 c2_0 l2_0 g3 A3_0 c3_0 l3_0 t292 _ ?side1 ?side2 ?side3 ?side4 ?side5 ?side6 A11.out).mono ?_); (case side1 => exact (lK BK2.out)); (case side2 => exact lC (Kd.C_below HR2_0.out HB.out)); (case side3 => exact HC2_0.out); (case side4 => exact (lK BK3.out)); (case side5 => exact lC (Kd.C_below HR3_0.out HB.out)); (case side6 => exact HC3_0.out); rintro e w15 ⟨rfl, hb⟩; refine ⟨_, rfl, ?_⟩; have n0_ := Aside0.mk (Kd.R_below (lR HO_7.out) hb); have n1_ := Aside0.mk (Kd.R_below (lR HO_8.out) hb); have n2_ := Aside0.mk (blk_below (lK BK2.out) hb); have n3_ := Aside0.mk (blk_below (lK BK3.out) hb); have n4_ := Aside0.mk (below_step lB hb); clear HO_7; clear HO_8; clear BK2; clear BK3; clear HB; have HO_7 := n0_; have HO_8 := n1_; have BK2 := n2_; have BK3 := n3_; have HB := n4_; clear n0_ n1_ n2_ n3_ n4_; (try clear hb); (try clear hb2); (try clear hk); (try clear hi)) | ((with_reducible refine gate_builtin (b := .append) (xs := #[.tmp 24, .tmp 28]) rfl ?_); at_builtin; refine Kd.R_append k63 (w0 := w) w.heap.size rfl (.tmp 24) (.tmp 28) 25 63 (.agg #[(.int .i64 0), (.int .i64 0)]) 16 rfl Try.underlying25 info63 rfl (by decide) (by omega) u7 x7_1 (⟨rd x8_1 0, t292⟩ : S63) [.int .i64 (rd x8_1 0), .int .i64 t292] (fun _ => True) (fun _ => False) rfl rfl ?aP (fun _ hk => hk.elim) ?aF ?aO ?aB ?aS ?aL ?_; (case aP => exact k63_mkM _ _ _ (⟨rd x8_1 0, t292⟩ : S63)); (case aB => exact lB); (case aF => exact (fun _ _ => trivial)); (case aO => exact (lR HO_7.out)); (case aS => exact (below_size lB)); (case aL => have := LMc12.out; omega); intro v294 w16 ho hb hg hat; rw [← Ny293.out] at ho; have n0_ := Aside0.mk (Kd.R_over' (lR HO_8.out) (Kd.R_typed (lR HO_7.out)) (by decide) hg); have n1_ := Aside0.mk (blk_grown (lK BK2.out) hg (Kd.R_ne HO_7.out BK2.out (by decide))); have n2_ := Aside0.mk (blk_grown (lK BK3.out) hg (Kd.R_ne HO_7.out BK3.out (by decide))); have n3_ := Aside0.mk (hb); have n4_ := Aside0.mk (ho); clear HO_8; clear BK2; clear BK3; clear HB; clear HO_7; have HO_8 := n0_; have BK2 := n1_; have BK3 := n2_; have HB := n3_; have HO295 := n4_; clear n0_ n1_ n2_ n3_ n4_; clear ho hb hg hat))
       go_ret
       exact ⟨_, lE, lR HO295.out, lB⟩
      ·rw [if_neg c13] at H
       have c13b0 : decide (t292 < 0) = false := decide_eq_false c13
       clear c13
       by_cases c17 : 0 ≤ t292
       ·rw [if_pos c17] at H
        have c17b0 : decide (0 ≤ t292) = true := decide_eq_true c17
        clear c17
        by_cases c18 : t292 < (l1.length : Int)
        ·rw [if_pos c18] at H
         have c18b0 : decide (t292 < (l1.length : Int)) = true := decide_eq_true c18
         clear c18
         replace H := Option.bind_eq_some_iff.mp H
         obtain ⟨⟨t297, t300⟩, A190, H⟩ := H
         replace H : (if 1 ≤ (x8_1.length : Int) then ((some (x8_1.drop 1 : List Int)).bind fun y301 => (if t297.length + y301.length < 17592186044416 then (impl_lay_45.l0 k1 l0 l1 y293 (t297 ++ y301) l2_0 l3_0) else (none))) else (none)) = some r := H
         have A19 := Aside0.mk A190
         clear A190
         by_cases c20 : 1 ≤ (x8_1.length : Int)
         ·rw [if_pos c20] at H
          have c20b0 := eq_true c20
          have c20b1 : decide (1 ≤ (x8_1.length : Int)) = true := decide_eq_true c20
          clear c20
          obtain ⟨y301, hy301⟩ : ∃ y_ : List Int, y_ = (x8_1.drop 1) := ⟨_, rfl⟩
          replace H : (if t297.length + y301.length < 17592186044416 then (impl_lay_45.l0 k1 l0 l1 y293 (t297 ++ y301) l2_0 l3_0) else (none)) = some r := by first | (rw [hy301]; with_reducible exact H) | (have H2_ := (Option.bind_some _ _).symm.trans H; rw [hy301]; with_reducible exact H2_) | (have H2_ := (Option.bind_some _ _).symm.trans H; with_reducible exact H2_) | with_reducible exact H | (rw [hy301]; exact H) | exact H
          have Ny301 := Aside0.mk hy301
          clear hy301
          by_cases c21 : t297.length + y301.length < 17592186044416
          ·rw [if_pos c21] at H
           have LMc21 := Aside0.mk c21
           clear c21
           obtain ⟨y305, hy305⟩ : ∃ y_ : List Int, y_ = (t297 ++ y301) := ⟨_, rfl⟩
           replace H : (impl_lay_45.l0 k1 l0 l1 y293 y305 l2_0 l3_0) = some r := by first | (rw [hy305]; with_reducible exact H) | (have H2_ := (Option.bind_some _ _).symm.trans H; rw [hy305]; with_reducible exact H2_) | (have H2_ := (Option.bind_some _ _).symm.trans H; with_reducible exact H2_) | with_reducible exact H | (rw [hy305]; exact H) | exact H
           have Ny305 := Aside0.mk hy305
           clear hy305
           have H' := Aside0.mk H
           clear H
           obtain ⟨Ao22, co22, eo22⟩ := Kd.R_slice HO_8.out
           subst eo22
           have p291 : 0 ≤ (0 : Int) := (by omega)
           have q291 : 0 < (x8_1.length : Int) := lD
           obtain ⟨ad291, e291, hx291_0⟩ := Kd.at_int (Kd.R_reads' HO_8.out).2.2 0 p291 q291
           cases e291
           have qi291 : (0 < x8_1.length) = True := eq_true (by omega)
           (try rw [show ((0 : Int)).toNat = 0 from rfl] at hx291_0)
           (try rw [Addr.add_zero'] at hx291_0)
           replace p291 := eq_true p291
           replace q291 := eq_true q291
           go_wp2_with (first | ((with_reducible refine gate_val rfl ?_); refine glc_ (some 23) (enters_of Try.func45 (by kernel_rfl) rfl) #[.int .i64 (rd x8_1 0)] #[.pointer (some ⟨g2, 0, none⟩), .pointer (some ⟨g3, 0, none⟩)] #[.int .i64 (rd x8_1 0), .pointer (some ⟨g2, 0, none⟩), .pointer (some ⟨g3, 0, none⟩)] ?_; (with_reducible refine (impl_GreedyCover_1.calls k1 (rd x8_1 0) g2 A2_0 c2_0 l2_0 g3 A3_0 c3_0 l3_0 t292 _ ?side1 ?side2 ?side3 ?side4 ?side5 ?side6 A11.out).mono ?_); (case side1 => exact (lK BK2.out)); (case side2 => exact lC (Kd.C_below HR2_0.out HB.out)); (case side3 => exact HC2_0.out); (case side4 => exact (lK BK3.out)); (case side5 => exact lC (Kd.C_below HR3_0.out HB.out)); (case side6 => exact HC3_0.out); rintro e w23 ⟨rfl, hb⟩; refine ⟨_, rfl, ?_⟩; have n0_ := Aside0.mk (Kd.R_below (lR HO_7.out) hb); have n1_ := Aside0.mk (Kd.R_below (lR HO_8.out) hb); have n2_ := Aside0.mk (blk_below (lK BK2.out) hb); have n3_ := Aside0.mk (blk_below (lK BK3.out) hb); have n4_ := Aside0.mk (below_step lB hb); clear HO_7; clear HO_8; clear BK2; clear BK3; clear HB; have HO_7 := n0_; have HO_8 := n1_; have BK2 := n2_; have BK3 := n3_; have HB := n4_; clear n0_ n1_ n2_ n3_ n4_; (try clear hb); (try clear hb2); (try clear hk); (try clear hi)) | ((with_reducible refine gate_builtin (b := .append) (xs := #[.tmp 24, .tmp 28]) rfl ?_); at_builtin; refine Kd.R_append k63 (w0 := w) w.heap.size rfl (.tmp 24) (.tmp 28) 25 63 (.agg #[(.int .i64 0), (.int .i64 0)]) 16 rfl Try.underlying25 info63 rfl (by decide) (by omega) u7 x7_1 (⟨rd x8_1 0, t292⟩ : S63) [.int .i64 (rd x8_1 0), .int .i64 t292] (fun _ => True) (fun _ => False) rfl rfl ?aP (fun _ hk => hk.elim) ?aF ?aO ?aB ?aS ?aL ?_; (case aP => exact k63_mkM _ _ _ (⟨rd x8_1 0, t292⟩ : S63)); (case aB => exact lB); (case aF => exact (fun _ _ => trivial)); (case aO => exact (lR HO_7.out)); (case aS => exact (below_size lB)); (case aL => have := LMc12.out; omega); intro v294 w24 ho hb hg hat; rw [← Ny293.out] at ho; have n0_ := Aside0.mk (Kd.R_over' (lR HO_8.out) (Kd.R_typed (lR HO_7.out)) (by decide) hg); have n1_ := Aside0.mk (blk_grown (lK BK2.out) hg (Kd.R_ne HO_7.out BK2.out (by decide))); have n2_ := Aside0.mk (blk_grown (lK BK3.out) hg (Kd.R_ne HO_7.out BK3.out (by decide))); have n3_ := Aside0.mk (hb); have n4_ := Aside0.mk (ho); clear HO_8; clear BK2; clear BK3; clear HB; clear HO_7; have HO_8 := n0_; have BK2 := n1_; have BK3 := n2_; have HB := n3_; have HO295 := n4_; clear n0_ n1_ n2_ n3_ n4_; clear ho hb hg hat; have p296 : 0 ≤ (t292 : Int) := lD; have q296 : t292 < (l1.length : Int) := lD; obtain ⟨ad296, A296_0, c296_0, e296, hx296_0, hx296_1, hl296_0, hi296_0⟩ := at_T57 HR1.out t292 p296 q296; cases e296; replace hx296_0 := pw_cell_below HB.out hx296_0; replace hx296_1 := pw_cell_below HB.out hx296_1; have HR296_0 := Aside0.mk hi296_0; have HC296_0 := Aside0.mk hl296_0; clear hi296_0 hl296_0; replace p296 := eq_true p296; replace q296 := eq_true q296) | ((with_reducible refine gate_callee (f := 46) rfl ?_); refine gl_ (some 39) (Try.func46) #[.slice A0 l0.length c0, .int .i64 (rd x8_1 0), .agg #[.slice A296_0 ((rd_T57 l1 t292).f0).length c296_0, .int .i64 ((rd_T57 l1 t292).f1)]] ?_; (with_reducible refine (impl_fits.calls k1 _ _ l0 (rd x8_1 0) _ _ ((rd_T57 l1 t292).f0) ((rd_T57 l1 t292).f1) t297 t300 _ ?side1 ?side2 ?side3 ?side4 A19.out).mono ?_); (case side1 => exact lC (Kd.C_below HR0.out HB.out)); (case side2 => exact HC0.out); (case side3 => exact lC (Kd.C_below HR296_0.out HB.out)); (case side4 => exact HC296_0.out); rintro e w25 ⟨v298, rfl, ho0, hb⟩; refine ⟨_, rfl, ?_⟩; have n0_ := Aside0.mk (Kd.R_elder' (lR HO_8.out) (Kd.R_base ho0) hb); have n1_ := Aside0.mk (Kd.R_below (lR HO295.out) hb); have n2_ := Aside0.mk (Kd.R_lower (Kd.R_new' ho0 (Kd.R_lt (lR HO_8.out))) (below_size lB)); have n3_ := Aside0.mk (blk_below (lK BK2.out) hb); have n4_ := Aside0.mk (blk_below (lK BK3.out) hb); have n5_ := Aside0.mk (below_step lB hb); clear HO_8; clear HO295; clear BK2; clear BK3; clear HB; have HO_8 := n0_; have HO295 := n1_; have HO299 := n2_; have BK2 := n3_; have BK3 := n4_; have HB := n5_; clear n0_ n1_ n2_ n3_ n4_ n5_; (try clear hb); (try clear hb2); (try clear hk); (try clear hi); (try clear ho0); have q26 : (1 : Int) ≤ ((x8_1.length : Int) : Int) := lD; obtain ⟨i026, hi026, _, hsz26, _⟩ := info_parts info3; have hroom26 : x8_1.length ≤ co22 := (Kd.R_reads' HO_8.out).2.1; have hC26 : Kd.C (Kd.int .i64) _ (some ad291) x8_1.length x8_1 := (Kd.R_reads' HO_8.out).2.2; have hcut26 := cut_from (P := Try.prog) 22 3 .i64 Try.underlying22 hi026 1 hsz26 (some ad291) x8_1.length co22 1 (by omega) q26; have hr26 := Kd.C_drop (m := (1 : Int).toNat) (c := co22) hC26 (by omega) hroom26; obtain ⟨A26, hA26⟩ : ∃ A1, A1 = (if co22 = (1 : Int).toNat then (some ad291) else ((some ad291) : Option Addr).map (·.add ((1 : Int).toNat * 1))) := ⟨_, rfl⟩; obtain ⟨c26, hc26⟩ : ∃ c1, c1 = co22 - (1 : Int).toNat := ⟨_, rfl⟩; have hy26 : y301.length = x8_1.length - (1 : Int).toNat := (by rw [Ny301.out, List.length_drop] <;> omega); rw [show (x8_1).drop (1 : Int).toNat = y301 from Ny301.out.symm] at hr26; replace hr26 : Kd.C (Kd.int .i64) _ A26 y301.length y301 := (by rw [hA26]; exact hr26); rw [← hy26, ← hA26, ← hc26] at hcut26; have HR304 := Aside0.mk hr26; have HC304 := Aside0.mk (show y301.length ≤ c26 from by rw [hy26, hc26]; exact Nat.sub_le_sub_right hroom26 _); clear hr26 hC26 hroom26 hi026 hsz26 hc26; have KY26 := Aside0.mk hy26; have KA26 := Aside0.mk hA26; clear hy26 hA26; have KL26 := Aside0.mk (show 1 ≤ x8_1.length from by omega); replace q26 := eq_true q26) | ((with_reducible refine gate_builtin (b := .append) (xs := #[.tmp 42, .tmp 44]) rfl ?_); at_builtin; refine Kd.R_append_rows (Kd.int .i64) (w0 := w) w.heap.size rfl (.tmp 42) (.tmp 44) 22 3 (.int .i64 0) 8 rfl Try.underlying22 info3 rfl (by decide) (by omega) v298 t297 y301 _ _ _ (fun k_ => some k_ ≠ (.slice (some ad291) x8_1.length co22 : Value).ownBlock) (fun _ => False) rfl rfl ?aO ?aR (fun _ _ h => h) (fun _ h => h.elim) ?aF ?aB ?aS ?aL ?_; (case aR => repeat (first | exact (by repeat (first | (with_reducible exact HR304.out) | (with_reducible refine Kd.C_alloc ?_ _) | (with_reducible refine Kd.C_drewN ?_ _) | (with_reducible refine Kd.C_drew ?_) | exact HR304.out)) | (with_reducible refine Kd.C_alloc ?_ _) | (with_reducible refine Kd.C_drewN ?_ _) | (with_reducible refine Kd.C_drew ?_))); (case aB => exact lB); (case aF => exact (fun k_ hk => Kd.fresh' (Kd.R_lt (lR HO_8.out)) k_ hk)); (case aO => exact (by (with_reducible repeat (first | apply Kd.R_alloc | apply Kd.R_drewN | apply Kd.R_drew)); exact Kd.R_mono HO299.out (fun _ hk => hk.2))); (case aS => exact (below_size lB)); (case aL => have := LMc21.out; omega); intro v306 w27 ho hb hg hat; rw [← Ny305.out] at ho; have n0_ := Aside0.mk (Kd.R_after (ok := (fun _ => True)) (lR HO_8.out) hg hat); have n1_ := Aside0.mk (blk_grown (lK BK2.out) hg (Kd.R_ne HO299.out BK2.out (by decide))); have n2_ := Aside0.mk (blk_grown (lK BK3.out) hg (Kd.R_ne HO299.out BK3.out (by decide))); have n3_ := Aside0.mk (Kd.R_over' (lR HO295.out) (Kd.R_typed (lR HO299.out)) (by decide) hg); have n4_ := Aside0.mk (hb); have n5_ := Aside0.mk ((show Kd.C (Kd.int .i64) w27 A26 y301.length y301 from by rw [Ny301.out, KA26.out]; exact Kd.C_drop (m := 1) (c := co22) ((Kd.R_reads' (Kd.R_after (ok := (fun _ => True)) (lR HO_8.out) hg hat)).2.2) KL26.out ((Kd.R_reads' (Kd.R_after (ok := (fun _ => True)) (lR HO_8.out) hg hat)).2.1))); have n6_ := Aside0.mk (ho); clear HO_8; clear BK2; clear BK3; clear HO295; clear HB; clear HR304; clear HO299; have HO_8 := n0_; have BK2 := n1_; have BK3 := n2_; have HO295 := n3_; have HB := n4_; have HR304 := n5_; have HO307 := n6_; clear n0_ n1_ n2_ n3_ n4_ n5_ n6_; clear ho hb hg hat))
           go_roundg k1
           case measure => have := HK1.out; omega
           case rel => exact ⟨(y293), (y305), H', ⟨by have := HK1.out; omega⟩, ⟨lR HO295.out⟩, ⟨by (with_reducible repeat (first | apply Kd.R_alloc | apply Kd.R_drewN | apply Kd.R_drew)); exact Kd.R_mono HO307.out (fun _ hk => trivial)⟩, ⟨lK BK2.out⟩, ⟨lK BK3.out⟩, ⟨lB⟩⟩
          ·rw [if_neg c21] at H
           exact absurd H (by simp)
         ·rw [if_neg c20] at H
          exact absurd H (by simp)
        ·rw [if_neg c18] at H
         exact absurd H (by simp)
       ·rw [if_neg c17] at H
        exact absurd H (by simp)
     ·rw [if_neg c12] at H
      exact absurd H (by simp)
    ·rw [if_neg c10] at H
     exact absurd H (by simp)
   ·rw [if_neg c9] at H
    have c9b0 : decide (0 < (x8_1.length : Int)) = false := decide_eq_false c9
    have c9b1 : decide (0 < x8_1.length) = false := decide_eq_false (by omega)
    clear c9
    obtain rfl := Option.some.inj H
    obtain ⟨Ao28, co28, eo28⟩ := Kd.R_slice HO_8.out
    subst eo28
    first | (go_wp2; go_ret; exact ⟨_, lE, lR HO_7.out, lB⟩) | (exfalso; simp only [decide_eq_false_iff_not, decide_eq_true_eq] at *; omega)

/-! ### impl_BestCover: function 10 -/
def impl_BestCover.j0 : Nat → List Int → List (S57) → Bool → Option ((List (S63)) × Int × Bool)
 | 0, _, _, _ => none
 | k + 1, x0, x1, x16 => if x16 = true then (some (([] : List (S63)), 0, false)) else ((impl_covers.f k x0 x1).bind fun bt310 => (if 0 < (bt310.2.length : Int) then (if (rd bt310.2 0) < 0 then (some (([] : List (S63)), 0, false)) else ((impl_lay_39.f k x0 x1 bt310.2).bind fun t318 => (if 0 < (bt310.1.length : Int) then (some (t318, rd bt310.1 0, true)) else (none)))) else (none)))
def impl_BestCover.f (k : Nat) (l0 : List Int) (l1 : List (S57)) : Option ((List (S63)) × Int × Bool) := (impl_isTree.f k l0).bind fun t308 => (if t308 = true then ((impl_arePatterns.f k l1).bind fun t309 => (impl_BestCover.j0 k l0 l1 (!t309))) else (impl_BestCover.j0 k l0 l1 true))
theorem impl_BestCover.mono_l : ∀ k, (∀ y0 y1 y2, LeO (impl_BestCover.j0 k y0 y1 y2) (impl_BestCover.j0 (k + 1) y0 y1 y2))
 | 0 => fun _ _ _ r h => by simp [impl_BestCover.j0] at h
 | k + 1 => by
  have ih0 := impl_BestCover.mono_l k
  ·intro y0 y1 y2
   unfold impl_BestCover.j0
   repeat' first
   | with_reducible apply ih0
   | with_reducible apply impl_arePatterns.mono
   | with_reducible apply impl_covers.mono
   | with_reducible apply impl_isTree.mono
   | with_reducible apply impl_lay_39.mono
   | (with_reducible exact LeO.refl _)
   | (with_reducible exact LeO.none _)
   | (with_reducible refine LeO.ite ?_ ?_)
   | (with_reducible refine LeO.bind ?_ (fun _ => ?_))
   | apply ih0
   | apply impl_arePatterns.mono
   | apply impl_covers.mono
   | apply impl_isTree.mono
   | apply impl_lay_39.mono
   | exact LeO.none _
   | refine LeO.ite ?_ ?_
   | refine LeO.bind ?_ (fun _ => ?_)
theorem impl_BestCover.mono : ∀ a0 a1 k, LeO (impl_BestCover.f k a0 a1) (impl_BestCover.f (k + 1) a0 a1) := by
 intro a0 a1 k
 have ih0 := impl_BestCover.mono_l k
 unfold impl_BestCover.f
 repeat' first
   | with_reducible apply ih0
   | with_reducible apply impl_arePatterns.mono
   | with_reducible apply impl_covers.mono
   | with_reducible apply impl_isTree.mono
   | with_reducible apply impl_lay_39.mono
   | (with_reducible exact LeO.refl _)
   | (with_reducible exact LeO.none _)
   | (with_reducible refine LeO.ite ?_ ?_)
   | (with_reducible refine LeO.bind ?_ (fun _ => ?_))
   | apply ih0
   | apply impl_arePatterns.mono
   | apply impl_covers.mono
   | apply impl_isTree.mono
   | apply impl_lay_39.mono
   | exact LeO.none _
   | refine LeO.ite ?_ ?_
   | refine LeO.bind ?_ (fun _ => ?_)
def impl_BestCover.T6 : Bool × List (List Nat × List Nat) := (true, [([], []), ([], []), ([], []), ([0, 1, 2], [0, 1, 2]), ([], []), ([4], [4]), ([5], [5]), ([3, 3, 0, 1, 2, 3], [3]), ([6, 7, 0, 1, 2, 3, 4, 5, 6, 7], [6]), ([8, 0, 1, 2, 3, 4, 5, 6, 7, 8], [])])
def impl_BestCover.B6 : List Nat := [0, 0, 0, 7, 0, 16, 48, 15, 255, 511]
theorem impl_BestCover.tab6 : rtab .any (opsOf Try.f10 6) = impl_BestCover.T6 := by kernel_rfl
theorem impl_BestCover.bits6 : waitsOk impl_BestCover.T6.2 impl_BestCover.B6 = true := by kernel_rfl
set_option maxHeartbeats 8000000 in
set_option maxRecDepth 100000 in
theorem impl_BestCover.calls (k : Nat) (A0 : Option Addr) (c0 : Nat) (l0 : List Int) (A1 : Option Addr) (c1 : Nat) (l1 : List (S57)) (r1 : List (S63)) (r2 : Int) (r3 : Bool) (w : World) (hr0 : Kd.C (Kd.int .i64) w A0 l0.length l0) (hc0 : l0.length ≤ c0) (hr1 : Kd.C k57 w A1 l1.length l1) (hc1 : l1.length ≤ c1) (h : impl_BestCover.f k l0 l1 = some (r1, r2, r3)) :
  Calls Try.prog 10 #[.slice A0 l0.length c0, .slice A1 l1.length c1] w fun e w' => ∃ v0_ : Value, e = .returned (.tuple #[v0_, .int .i64 r2, .bool r3]) ∧ Kd.R k63 63 w' w.heap.size (fun _ => True) v0_ r1 ∧ Below w.heap.size w w' := by
 have HR0 := Aside0.mk hr0
 have HC0 := Aside0.mk hc0
 clear hr0 hc0
 have HR1 := Aside0.mk hr1
 have HC1 := Aside0.mk hc1
 clear hr1 hc1
 have HB := Aside0.mk (Below.refl w.heap.size w)
 have H : ((impl_isTree.f k l0).bind fun t308 => (if t308 = true then ((impl_arePatterns.f k l1).bind fun t309 => (impl_BestCover.j0 k l0 l1 (!t309))) else (impl_BestCover.j0 k l0 l1 true))) = some (r1, r2, r3) := h
 clear h
 have HC3 := Aside0.mk H
 clear H
 go_enter Try.func10, Try.ntmps10
 go_upto_region 1 with (fail)
 go_cut [16] (fun v16 wc => ∃ (kq : Nat) (x16_2 : Bool), v16 = .bool x16_2 ∧ Aside0 (impl_BestCover.j0 kq l0 l1 x16_2 = some (r1, r2, r3)) ∧ Aside0 (kq ≤ k) ∧ Aside0 (Below w.heap.size w wc))
 case first =>
  have H := HC3.out
  clear HC3
  replace H := lO H
  obtain ⟨t308, A4, H⟩ := H
  by_cases c5 : t308 = true
  ·subst c5
   rw [if_pos rfl] at H
   replace H := lO H
   obtain ⟨t309, A6, H⟩ := H
   have H' := Aside0.mk H
   clear H
   go_wp2_with (first | ((with_reducible refine gate_callee (f := 35) rfl ?_); refine gl_ (some 10) (Try.func35) #[.slice A0 l0.length c0] ?_; (with_reducible refine (impl_isTree.calls k _ _ l0 true _ ?side1 ?side2 A4.out).mono ?_); (case side1 => exact lC (Kd.C_below HR0.out HB.out)); (case side2 => exact HC0.out); rintro e w' ⟨rfl, ⟨nd, rfl⟩⟩; refine ⟨_, rfl, ?_⟩) | (go_at_call 36; (with_reducible refine (impl_arePatterns.calls k _ _ l1 t309 _ ?side1 ?side2 A6.out).mono ?_); (case side1 => repeat (first | exact (Kd.C_below HR1.out lB) | (with_reducible refine Kd.C_alloc ?_ _) | (with_reducible refine Kd.C_drewN ?_ _) | (with_reducible refine Kd.C_drew ?_))); (case side2 => exact HC1.out); rintro e w7 ⟨rfl, hb⟩; have n0_ := Aside0.mk (below_step lB hb); clear HB; have HB := n0_; clear n0_; (try clear hb); (try clear hb2); (try clear hk); (try clear hi)))
   go_meet
   case rel => exact ⟨_, (!t309), lF, H', ⟨lN⟩, ⟨lB⟩⟩
  ·replace c5 := Bool.eq_false_iff.mpr c5
   subst c5
   rw [if_neg (show ¬ (false = true) by decide)] at H
   have H' := Aside0.mk H
   clear H
   go_wp2_with (first | ((with_reducible refine gate_callee (f := 35) rfl ?_); refine gl_ (some 10) (Try.func35) #[.slice A0 l0.length c0] ?_; (with_reducible refine (impl_isTree.calls k _ _ l0 false _ ?side1 ?side2 A4.out).mono ?_); (case side1 => exact lC (Kd.C_below HR0.out HB.out)); (case side2 => exact HC0.out); rintro e w' ⟨rfl, ⟨nd, rfl⟩⟩; refine ⟨_, rfl, ?_⟩))
   go_meet
   case rel => exact ⟨_, (true), lF, H', ⟨lN⟩, ⟨lB⟩⟩
 case rest =>
  clear HC3
  try clear c1
  try clear p2
  try clear c3
  try clear c5
  obtain ⟨kq, x16_2, rfl, HA, HJ2, HB⟩ := hcut
  cases kq with
  | zero => exact absurd HA.out (by simp [impl_BestCover.j0])
  | succ kj2 =>
   have H := HA.out
   clear HA
   simp only [impl_BestCover.j0] at H
   by_cases c8 : x16_2 = true
   ·subst c8
    rw [if_pos rfl] at H
    simp only [Option.some.injEq, Prod.mk.injEq] at H
    obtain ⟨rfl, rfl, rfl⟩ := H
    go_wp2
    go_ret3
    exact ⟨_, lE, by first | exact Kd.R_nil _ _ _ _ _ | exact Kd.N_nil _ _ _ _ _ | exact Kd.V_nil _ _ _ _ _ | exact Kd.Q_nil _ _ _ _ _ | exact Kd.S_nil _ _ _ _ _, lB⟩
   ·replace c8 := Bool.eq_false_iff.mpr c8
    subst c8
    rw [if_neg (show ¬ (false = true) by decide)] at H
    replace H := Option.bind_eq_some_iff.mp H
    obtain ⟨⟨t310, t311⟩, A90, H⟩ := H
    replace H : (if 0 < (t311.length : Int) then (if (rd t311 0) < 0 then (some (([] : List (S63)), 0, false)) else ((impl_lay_39.f kj2 l0 l1 t311).bind fun t318 => (if 0 < (t310.length : Int) then (some (t318, rd t310 0, true)) else (none)))) else (none)) = some (r1, r2, r3) := H
    have A9 := Aside0.mk A90
    clear A90
    by_cases c10 : 0 < (t311.length : Int)
    ·rw [if_pos c10] at H
     have c10b0 : decide (0 < (t311.length : Int)) = true := decide_eq_true c10
     have c10b1 : decide (0 < t311.length) = true := decide_eq_true (by omega)
     clear c10
     by_cases c11 : (rd t311 0) < 0
     ·rw [if_pos c11] at H
      have c11b0 : decide ((rd t311 0) < 0) = true := decide_eq_true c11
      clear c11
      simp only [Option.some.injEq, Prod.mk.injEq] at H
      obtain ⟨rfl, rfl, rfl⟩ := H
      go_wp2_with (first | ((with_reducible refine gate_callee (f := 37) rfl ?_); refine gl_ (some 20) (Try.func37) #[.slice A0 l0.length c0, .slice A1 l1.length c1] ?_; (with_reducible refine (impl_covers.calls kj2 _ _ l0 _ _ l1 t310 t311 _ ?side1 ?side2 ?side3 ?side4 A9.out).mono ?_); (case side1 => exact lC (Kd.C_below HR0.out HB.out)); (case side2 => exact HC0.out); (case side3 => exact lC (Kd.C_below HR1.out HB.out)); (case side4 => exact HC1.out); rintro e w12 ⟨v312, v314, rfl, ho0, ho1, hb⟩; refine ⟨_, rfl, ?_⟩; have n0_ := Aside0.mk (Kd.R_lower ho0 (below_size lB)); have n1_ := Aside0.mk (Kd.R_lower ho1 (below_size lB)); have n2_ := Aside0.mk (below_step lB hb); clear HB; have HO313 := n0_; have HO315 := n1_; have HB := n2_; clear n0_ n1_ n2_; (try clear hb); (try clear hb2); (try clear hk); (try clear hi); (try clear ho0); (try clear ho1)) | ((with_reducible refine gate_dst (N := 8) rfl ?_); refine bxe 8 #[.slice none 0 0] 22 ?_; intro gb316 hg w13 hbox hb; have n0_ := Aside0.mk (Kd.R_below (lR HO313.out) hb); have n1_ := Aside0.mk (Kd.R_below (lR HO315.out) hb); have n2_ := Aside0.mk (below_step lB hb); have n3_ := Aside0.mk (hbox); have n4_ := lG w hg; have n5_ := lG w hg; clear HO313; clear HO315; clear HB; have HO313 := n0_; have HO315 := n1_; have HB := n2_; have BK316 := n3_; have GW316 := n4_; have GE316 := n5_; clear n0_ n1_ n2_ n3_ n4_ n5_; clear hb hbox hg; obtain ⟨Ao14, co14, eo14⟩ := Kd.R_slice HO315.out; subst eo14; obtain ⟨hcz15_0, hfz15_0⟩ := bk1 BK316.out; have p317 : 0 ≤ (0 : Int) := (by omega); have q317 : 0 < (t311.length : Int) := lD; obtain ⟨ad317, e317, hx317_0⟩ := Kd.at_int (Kd.R_reads' HO315.out).2.2 0 p317 q317; cases e317; have qi317 : (0 < t311.length) = True := eq_true (by omega); (try rw [show ((0 : Int)).toNat = 0 from rfl] at hx317_0); (try rw [Addr.add_zero'] at hx317_0); have hn317_0 : ad317.block ≠ gb316 := Kd.own_blk (Kd.R_ne HO315.out BK316.out (by decide)); replace hx317_0 := (cell_far (p := ⟨gb316, 0, none⟩) (by first | (rw [add_block]; exact hn317_0) | (show (Addr.add _ _).block ≠ _; rw [add_block]; exact hn317_0) | exact hn317_0) (.slice (some ad317) t311.length co14)).trans hx317_0; clear hn317_0; replace p317 := eq_true p317; replace q317 := eq_true q317))
      go_ret3
      exact ⟨_, lE, by first | exact Kd.R_nil _ _ _ _ _ | exact Kd.N_nil _ _ _ _ _ | exact Kd.V_nil _ _ _ _ _ | exact Kd.Q_nil _ _ _ _ _ | exact Kd.S_nil _ _ _ _ _, lB⟩
     ·rw [if_neg c11] at H
      have c11b0 : decide ((rd t311 0) < 0) = false := decide_eq_false c11
      clear c11
      replace H := lO H
      obtain ⟨t318, A16, H⟩ := H
      by_cases c17 : 0 < (t310.length : Int)
      ·rw [if_pos c17] at H
       have c17b0 : decide (0 < (t310.length : Int)) = true := decide_eq_true c17
       have c17b1 : decide (0 < t310.length) = true := decide_eq_true (by omega)
       clear c17
       simp only [Option.some.injEq, Prod.mk.injEq] at H
       obtain ⟨rfl, rfl, rfl⟩ := H
       try go_wp2_with (first | ((with_reducible refine gate_callee (f := 37) rfl ?_); refine gl_ (some 20) (Try.func37) #[.slice A0 l0.length c0, .slice A1 l1.length c1] ?_; (with_reducible refine (impl_covers.calls kj2 _ _ l0 _ _ l1 t310 t311 _ ?side1 ?side2 ?side3 ?side4 A9.out).mono ?_); (case side1 => exact lC (Kd.C_below HR0.out HB.out)); (case side2 => exact HC0.out); (case side3 => exact lC (Kd.C_below HR1.out HB.out)); (case side4 => exact HC1.out); rintro e w18 ⟨v312, v314, rfl, ho0, ho1, hb⟩; refine ⟨_, rfl, ?_⟩; have n0_ := Aside0.mk (Kd.R_lower ho0 (below_size lB)); have n1_ := Aside0.mk (Kd.R_lower ho1 (below_size lB)); have n2_ := Aside0.mk (below_step lB hb); clear HB; have HO313 := n0_; have HO315 := n1_; have HB := n2_; clear n0_ n1_ n2_; (try clear hb); (try clear hb2); (try clear hk); (try clear hi); (try clear ho0); (try clear ho1)) | ((with_reducible refine gate_dst (N := 8) rfl ?_); refine bxe 8 #[.slice none 0 0] 22 ?_; intro gb316 hg w19 hbox hb; have n0_ := Aside0.mk (Kd.R_below (lR HO313.out) hb); have n1_ := Aside0.mk (Kd.R_below (lR HO315.out) hb); have n2_ := Aside0.mk (below_step lB hb); have n3_ := Aside0.mk (hbox); have n4_ := lG w hg; have n5_ := lG w hg; clear HO313; clear HO315; clear HB; have HO313 := n0_; have HO315 := n1_; have HB := n2_; have BK316 := n3_; have GW316 := n4_; have GE316 := n5_; clear n0_ n1_ n2_ n3_ n4_ n5_; clear hb hbox hg; obtain ⟨Ao20, co20, eo20⟩ := Kd.R_slice HO315.out; subst eo20; obtain ⟨hcz21_0, hfz21_0⟩ := bk1 BK316.out; have p317 : 0 ≤ (0 : Int) := (by omega); have q317 : 0 < (t311.length : Int) := lD; obtain ⟨ad317, e317, hx317_0⟩ := Kd.at_int (Kd.R_reads' HO315.out).2.2 0 p317 q317; cases e317; have qi317 : (0 < t311.length) = True := eq_true (by omega); (try rw [show ((0 : Int)).toNat = 0 from rfl] at hx317_0); (try rw [Addr.add_zero'] at hx317_0); have hn317_0 : ad317.block ≠ gb316 := Kd.own_blk (Kd.R_ne HO315.out BK316.out (by decide)); replace hx317_0 := (cell_far (p := ⟨gb316, 0, none⟩) (by first | (rw [add_block]; exact hn317_0) | (show (Addr.add _ _).block ≠ _; rw [add_block]; exact hn317_0) | exact hn317_0) (.slice (some ad317) t311.length co20)).trans hx317_0; clear hn317_0; replace p317 := eq_true p317; replace q317 := eq_true q317))
       have n0_ : Aside0 (Kd.R (Kd.int .i64) 3 (w19.setCell ⟨gb316, 0, none⟩ (.slice (some ad317) t311.length co20)) w.heap.size (fun k_ => some k_ ≠ (.slice (some ad317) t311.length co20 : Value).ownBlock) v312 t310) := ⟨by (with_reducible repeat (first | apply Kd.R_alloc | apply Kd.R_drewN | apply Kd.R_drew)); exact Kd.R_mono (Kd.R_far (p := ⟨gb316, 0, none⟩) (Kd.R_types HO313.out BK316.out (by decide)) (fun _ hk => hk.2) (.slice (some ad317) t311.length co20)) (fun _ hk => hk.1)⟩
       have n1_ : Aside0 (Kd.R (Kd.int .i64) 3 (w19.setCell ⟨gb316, 0, none⟩ (.slice (some ad317) t311.length co20)) w.heap.size (fun k_ => some k_ ≠ (v312 : Value).ownBlock) (.slice (some ad317) t311.length co20) t311) := ⟨by (with_reducible repeat (first | apply Kd.R_alloc | apply Kd.R_drewN | apply Kd.R_drew)); exact Kd.R_mono (Kd.R_far (p := ⟨gb316, 0, none⟩) (Kd.R_types HO315.out BK316.out (by decide)) (fun _ hk => hk.2) (.slice (some ad317) t311.length co20)) (fun _ hk => hk.1)⟩
       have n2_ : Aside0 ((w19.setCell ⟨gb316, 0, none⟩ (.slice (some ad317) t311.length co20)).heap[gb316]? = some (.cells #[.slice (some ad317) t311.length co20] 22 (0, 0))) := ⟨by (with_reducible repeat first | apply bN | apply bD | apply bA); refine blk_put (cs := #[.slice none 0 0]) ?_ 0 _ rfl; (with_reducible repeat first | apply bN | apply bD | apply bA); exact BK316.out⟩
       have n3_ : Aside0 (Below w.heap.size w (w19.setCell ⟨gb316, 0, none⟩ (.slice (some ad317) t311.length co20))) := ⟨lB⟩
       (try clear HO313)
       (try clear HO315)
       (try clear BK316)
       (try clear HB)
       generalize (w19.setCell ⟨gb316, 0, none⟩ (.slice (some ad317) t311.length co20)) = w22 at n0_ n1_ n2_ n3_ ⊢
       have HO313 := n0_
       have HO315 := n1_
       have BK316 := n2_
       have HB := n3_
       clear n0_ n1_ n2_ n3_
       have n0_ := Aside0.mk (Kd.R_drew HO313.out)
       have n1_ := Aside0.mk (Kd.R_drew HO315.out)
       have n2_ := Aside0.mk (blk_drew BK316.out)
       have n3_ := Aside0.mk (below_drew1 HB.out)
       clear HO313
       clear HO315
       clear BK316
       clear HB
       have HO313 := n0_
       have HO315 := n1_
       have BK316 := n2_
       have HB := n3_
       clear n0_ n1_ n2_ n3_
       obtain ⟨Ao24, co24, eo24⟩ := Kd.R_slice HO313.out
       (first | subst eo24 | (injection eo24 with f1_ f2_ f3_; have f4_ := f1_.symm; have f5_ := f3_.symm; clear f1_ f2_ f3_; subst f4_; subst f5_))
       have p321 : 0 ≤ (0 : Int) := (by omega)
       have q321 : 0 < (t310.length : Int) := lD
       obtain ⟨ad321, e321, hx321_0⟩ := Kd.at_int (Kd.R_reads' HO313.out).2.2 0 p321 q321
       cases e321
       have qi321 : (0 < t310.length) = True := eq_true (by omega)
       (try rw [show ((0 : Int)).toNat = 0 from rfl] at hx321_0)
       (try rw [Addr.add_zero'] at hx321_0)
       replace p321 := eq_true p321
       replace q321 := eq_true q321
       refine start_ (n := 10) (S := fun w' => w'.cell? ad321 = some (.int .i64 (rd t310 0))) (ds := []) (bs 10 0) kR rfl kR (hx321_0) (fun hHeld => ?_); refine with_tabW impl_BestCover.tab6 impl_BestCover.bits6 (fun HT_ HW_ => ?_)
       generalize w22.drew = w23 at HO313 HO315 BK316 HB hx321_0 hHeld ⊢
       refine pur_ 0 27 (bs 10 1) (any_of HT_.out kR) ?_
       refine pur_ 1 28 (bs 10 3) (any_of HT_.out kR) ?_
       refine pur_ 2 29 (bs 10 7) (any_of HT_.out kR) ?_
       refine pur_ 4 31 (bs 10 23) (any_of HT_.out kR) ?_
       refine pur_ 5 32 (bs 10 55) (any_of HT_.out kR) ?_
       refine tak_ 6 33 (bs 10 119) (take_ofW HT_.out HW_.out kR) hHeld ?_
       refine one_ (i := 3) (N := some 30) (bs 10 127) rfl rfl (one_of HT_.out (by kernel_rfl)) (by decide) (fun K hK => ?_)
       refine goes_ Try.func38 (by kernel_rfl) rfl #[.slice A0 l0.length c0, .slice A1 l1.length c1, .func (.func 39) #[] #[.pointer (some ⟨gb316, 0, none⟩)]] (by rfl) rfl rfl (by (try simp only [List.map_toArray, List.map_cons, List.map_nil]); first | done | rfl | (simp only [List.length_drop, List.length_take]; rfl)) ?_
       with_reducible refine (impl_lay_39.calls kj2 _ _ l0 _ _ l1 gb316 (some ad317) co20 t311 t318 _ ?side1 ?side2 ?side3 ?side4 ?side5 ?side6 ?side7 A16.out).mono ?_
       (case side1 => exact lC (Kd.C_below HR0.out HB.out))
       (case side2 => exact HC0.out)
       (case side3 => exact lC (Kd.C_below HR1.out HB.out))
       (case side4 => exact HC1.out)
       (case side5 => exact (lK BK316.out))
       (case side6 => repeat (first | exact (Kd.R_reads' HO315.out).2.2 | (with_reducible refine Kd.C_alloc ?_ _) | (with_reducible refine Kd.C_drewN ?_ _) | (with_reducible refine Kd.C_drew ?_)))
       (case side7 => exact (Kd.R_reads' HO315.out).2.1)
       rintro e w25 ⟨v319, rfl, ho0, hb⟩
       have HS0_ := (hb.cell (World.block_lt_of_cell? _ _ (hHeld))).trans (hHeld)
       refine ⟨_, rfl, ?_⟩
       have n0_ := Aside0.mk (Kd.R_below (lR HO313.out) hb)
       have n1_ := Aside0.mk (Kd.R_below (lR HO315.out) hb)
       have n2_ := Aside0.mk (Kd.R_lower ho0 (below_size lB))
       have n3_ := Aside0.mk (blk_below (lK BK316.out) hb)
       have n4_ := Aside0.mk (below_step lB hb)
       clear HO313
       clear HO315
       clear BK316
       clear HB
       have HO313 := n0_
       have HO315 := n1_
       have HO320 := n2_
       have BK316 := n3_
       have HB := n4_
       clear n0_ n1_ n2_ n3_ n4_
       (try clear hb)
       (try clear hb2)
       (try clear hk)
       (try clear hi)
       (try clear ho0)
       refine hK.out _ _ (HS0_) (fun hHeld => ?_)
       clear hK K
       refine norm_ (a' := ?_) ?_ ?_
       rotate_left
       ·show Act.put _ (some 30) _ = _
        simp only [Act.put, List.setIfInBounds_toArray, List.set_cons_zero, List.set_cons_succ, i64_w, i32_w]
        rfl
       refine pur_ 7 4 (bs 10 255) (any_of HT_.out kR) ?_
       refine pur_ 8 5 (bs 10 511) (any_of HT_.out kR) ?_
       refine pur_ 9 6 (bs 10 1023) (any_of HT_.out kR) ?_
       refine done_ (done_of HT_.out (by kernel_rfl)) ?_
       try go_wp2
       go_ret3
       exact ⟨_, lE, lR HO320.out, lB⟩
      ·rw [if_neg c17] at H
       exact absurd H (by simp)
    ·rw [if_neg c10] at H
     exact absurd H (by simp)

/-! ### laws_eqPiece: function 40 -/
def laws_eqPiece.f (a0_0 : Int) (a0_1 : Int) (a1_0 : Int) (a1_1 : Int) : Option (Bool) := if a0_0 = a1_0 then (if a0_1 = a1_1 then (some true) else (some false)) else (some false)
set_option maxHeartbeats 8000000 in
set_option maxRecDepth 100000 in
theorem laws_eqPiece.calls (a0_0 : Int) (a0_1 : Int) (a1_0 : Int) (a1_1 : Int) (r : Bool) (w : World) (h : laws_eqPiece.f a0_0 a0_1 a1_0 a1_1 = some r) :
  Calls Try.prog 40 #[.agg #[.int .i64 a0_0, .int .i64 a0_1], .agg #[.int .i64 a1_0, .int .i64 a1_1]] w fun e w' => e = .returned (.bool r) ∧ Below w.heap.size w w' := by
 have hu63 := Try.underlying63
 have HB := Aside0.mk (Below.refl w.heap.size w)
 have H : (if a0_0 = a1_0 then (if a0_1 = a1_1 then (some true) else (some false)) else (some false)) = some r := h
 clear h
 by_cases c3 : a0_0 = a1_0
 ·rw [if_pos c3] at H
  have c3b0 : (a0_0 == a1_0) = true := beq_iff_eq.mpr c3
  have c3b1 : (a0_0 != a1_0) = false := bne_eq_false_iff_eq.mpr c3
  clear c3
  by_cases c4 : a0_1 = a1_1
  ·rw [if_pos c4] at H
   have c4b0 : (a0_1 == a1_1) = true := beq_iff_eq.mpr c4
   have c4b1 : (a0_1 != a1_1) = false := bne_eq_false_iff_eq.mpr c4
   clear c4
   obtain rfl := Option.some.inj H
   go_enter Try.func40, Try.ntmps40
   go_wp2_with (first | ((with_reducible refine gate_dst (N := 2) rfl ?_); refine bxe 2 #[.int .i64 a0_0, .int .i64 a0_1] 63 ?_; intro gb322 hg w5 hbox hb; have n0_ := Aside0.mk (below_step lB hb); have n1_ := Aside0.mk (hbox); have n2_ := lG w hg; have n3_ := lG w hg; clear HB; have HB := n0_; have BK322 := n1_; have GW322 := n2_; have GE322 := n3_; clear n0_ n1_ n2_ n3_; clear hb hbox hg) | ((with_reducible refine gate_dst (N := 3) rfl ?_); refine bxe 3 #[.int .i64 a1_0, .int .i64 a1_1] 63 ?_; intro gb323 hg w6 hbox hb; have n0_ := Aside0.mk (blk_below (lK BK322.out) hb); have n1_ := Aside0.mk (below_step lB hb); have n2_ := Aside0.mk (hbox); have n3_ := lG w hg; have n4_ := lG w hg; have n5_ := Aside0.mk ((by rw [hg]; exact Nat.ne_of_lt (blk_lt (lK BK322.out)) : gb322 ≠ gb323)); have n6_ := Aside0.mk ((by rw [hg]; exact Nat.ne_of_gt (blk_lt (lK BK322.out)) : gb323 ≠ gb322)); clear BK322; clear HB; have BK322 := n0_; have HB := n1_; have BK323 := n2_; have GW323 := n3_; have GE323 := n4_; have NB322_323 := n5_; have NB323_322 := n6_; clear n0_ n1_ n2_ n3_ n4_ n5_ n6_; clear hb hbox hg; have hnb7 := NB322_323.out; have hnc7 := NB323_322.out; obtain ⟨hcz8_0, hfz8_0, hcz8_1, hfz8_1⟩ := bk2 BK322.out; obtain ⟨hcz9_0, hfz9_0, hcz9_1, hfz9_1⟩ := bk2 BK323.out))
   go_ret
   exact ⟨lE, lB⟩
  ·rw [if_neg c4] at H
   have c4b0 : (a0_1 == a1_1) = false := beq_eq_false_iff_ne.mpr c4
   have c4b1 : (a0_1 != a1_1) = true := bne_iff_ne.mpr c4
   obtain rfl := Option.some.inj H
   go_enter Try.func40, Try.ntmps40
   go_wp2_with (first | ((with_reducible refine gate_dst (N := 2) rfl ?_); refine bxe 2 #[.int .i64 a0_0, .int .i64 a0_1] 63 ?_; intro gb322 hg w10 hbox hb; have n0_ := Aside0.mk (below_step lB hb); have n1_ := Aside0.mk (hbox); have n2_ := lG w hg; have n3_ := lG w hg; clear HB; have HB := n0_; have BK322 := n1_; have GW322 := n2_; have GE322 := n3_; clear n0_ n1_ n2_ n3_; clear hb hbox hg) | ((with_reducible refine gate_dst (N := 3) rfl ?_); refine bxe 3 #[.int .i64 a1_0, .int .i64 a1_1] 63 ?_; intro gb323 hg w11 hbox hb; have n0_ := Aside0.mk (blk_below (lK BK322.out) hb); have n1_ := Aside0.mk (below_step lB hb); have n2_ := Aside0.mk (hbox); have n3_ := lG w hg; have n4_ := lG w hg; have n5_ := Aside0.mk ((by rw [hg]; exact Nat.ne_of_lt (blk_lt (lK BK322.out)) : gb322 ≠ gb323)); have n6_ := Aside0.mk ((by rw [hg]; exact Nat.ne_of_gt (blk_lt (lK BK322.out)) : gb323 ≠ gb322)); clear BK322; clear HB; have BK322 := n0_; have HB := n1_; have BK323 := n2_; have GW323 := n3_; have GE323 := n4_; have NB322_323 := n5_; have NB323_322 := n6_; clear n0_ n1_ n2_ n3_ n4_ n5_ n6_; clear hb hbox hg; have hnb12 := NB322_323.out; have hnc12 := NB323_322.out; obtain ⟨hcz13_0, hfz13_0, hcz13_1, hfz13_1⟩ := bk2 BK322.out; obtain ⟨hcz14_0, hfz14_0, hcz14_1, hfz14_1⟩ := bk2 BK323.out))
   go_ret
   exact ⟨lE, lB⟩
 ·rw [if_neg c3] at H
  have c3b0 : (a0_0 == a1_0) = false := beq_eq_false_iff_ne.mpr c3
  have c3b1 : (a0_0 != a1_0) = true := bne_iff_ne.mpr c3
  obtain rfl := Option.some.inj H
  go_enter Try.func40, Try.ntmps40
  go_wp2_with (first | ((with_reducible refine gate_dst (N := 2) rfl ?_); refine bxe 2 #[.int .i64 a0_0, .int .i64 a0_1] 63 ?_; intro gb322 hg w15 hbox hb; have n0_ := Aside0.mk (below_step lB hb); have n1_ := Aside0.mk (hbox); have n2_ := lG w hg; have n3_ := lG w hg; clear HB; have HB := n0_; have BK322 := n1_; have GW322 := n2_; have GE322 := n3_; clear n0_ n1_ n2_ n3_; clear hb hbox hg) | ((with_reducible refine gate_dst (N := 3) rfl ?_); refine bxe 3 #[.int .i64 a1_0, .int .i64 a1_1] 63 ?_; intro gb323 hg w16 hbox hb; have n0_ := Aside0.mk (blk_below (lK BK322.out) hb); have n1_ := Aside0.mk (below_step lB hb); have n2_ := Aside0.mk (hbox); have n3_ := lG w hg; have n4_ := lG w hg; have n5_ := Aside0.mk ((by rw [hg]; exact Nat.ne_of_lt (blk_lt (lK BK322.out)) : gb322 ≠ gb323)); have n6_ := Aside0.mk ((by rw [hg]; exact Nat.ne_of_gt (blk_lt (lK BK322.out)) : gb323 ≠ gb322)); clear BK322; clear HB; have BK322 := n0_; have HB := n1_; have BK323 := n2_; have GW323 := n3_; have GE323 := n4_; have NB322_323 := n5_; have NB323_322 := n6_; clear n0_ n1_ n2_ n3_ n4_ n5_ n6_; clear hb hbox hg; have hnb17 := NB322_323.out; have hnc17 := NB323_322.out; obtain ⟨hcz18_0, hfz18_0, hcz18_1, hfz18_1⟩ := bk2 BK322.out; obtain ⟨hcz19_0, hfz19_0, hcz19_1, hfz19_1⟩ := bk2 BK323.out))
  go_ret
  exact ⟨lE, lB⟩

end Go.Proofs.Ytfdbdbihhgabpaa.Q
