-- Written by the program wip/tools/pr.py of this claim's session, over the kit's print.py.
import Derived.Test.YtfdbdbihhgabpaaQx0
import Derived.Test.YtfdbdbihhgabpaaQx4
import Derived.Test.YtfdbdbihhgabpaaQx5
import Derived.Test.YtfdbdbihhgabpaaQx6
namespace Go.Proofs.Ytfdbdbihhgabpaa.Q
open Go.RowKit Go.Proofs.YtfdbdbihhgabpaaW.PrintWords Go.Proofs.YtfdbdbihhgabpaaW.PrintLast Go.Proofs.YtfdbdbihhgabpaaW.PrintMore
attribute [local go_sem] max2_int min2_int max_two min_two max_three min_three max_four min_four   -- for this text's walks alone
set_option linter.unusedVariables false
set_option linter.unusedSimpArgs false

/-! ### impl_GreedyCover_1: function 45 -/
def impl_GreedyCover_1.l0 : Nat → Int → Int → Int → List (S57) → Int → Int → List Int → Option (Int)
 | 0, _, _, _, _, _, _, _ => none
 | k + 1, x0, x5, x6, x11, x12, x13, x3000 => if x13 < x12 then (if 0 ≤ x13 then (if x13 < (x11.length : Int) then ((impl_fits.f k x3000 x0 ((rd_T57 x11 x13).f0) ((rd_T57 x11 x13).f1)).bind fun bt232 => (if bt232.2 = true then ((impl_Pattern_size.f k ((rd_T57 x11 x13).f0) ((rd_T57 x11 x13).f1)).bind fun t236 => (if t236 > x6 then ((impl_Pattern_size.f k ((rd_T57 x11 x13).f0) ((rd_T57 x11 x13).f1)).bind fun t237 => (impl_GreedyCover_1.l0 k x0 x13 t237 x11 x12 (wrap64 (x13 + 1)) x3000)) else (impl_GreedyCover_1.l0 k x0 x5 x6 x11 x12 (wrap64 (x13 + 1)) x3000))) else (impl_GreedyCover_1.l0 k x0 x5 x6 x11 x12 (wrap64 (x13 + 1)) x3000))) else (none)) else (none)) else (some x5)
def impl_GreedyCover_1.f (k : Nat) (a0 : Int) (l1_0 : List (S57)) (l2_0 : List Int) : Option (Int) := impl_GreedyCover_1.l0 k a0 (-1) 0 l1_0 (l1_0.length : Int) 0 l2_0
theorem impl_GreedyCover_1.mono_l : ∀ k, (∀ y0 y1 y2 y3 y4 y5 y6, LeO (impl_GreedyCover_1.l0 k y0 y1 y2 y3 y4 y5 y6) (impl_GreedyCover_1.l0 (k + 1) y0 y1 y2 y3 y4 y5 y6))
 | 0 => fun _ _ _ _ _ _ _ r h => by simp [impl_GreedyCover_1.l0] at h
 | k + 1 => by
  have ih0 := impl_GreedyCover_1.mono_l k
  ·intro y0 y1 y2 y3 y4 y5 y6
   unfold impl_GreedyCover_1.l0
   repeat' first
   | with_reducible apply ih0
   | with_reducible apply impl_Pattern_size.mono
   | with_reducible apply impl_fits.mono
   | (with_reducible exact LeO.refl _)
   | (with_reducible exact LeO.none _)
   | (with_reducible refine LeO.ite ?_ ?_)
   | (with_reducible refine LeO.bind ?_ (fun _ => ?_))
   | apply ih0
   | apply impl_Pattern_size.mono
   | apply impl_fits.mono
   | exact LeO.none _
   | refine LeO.ite ?_ ?_
   | refine LeO.bind ?_ (fun _ => ?_)
theorem impl_GreedyCover_1.mono : ∀ a0 a1 a2 k, LeO (impl_GreedyCover_1.f k a0 a1 a2) (impl_GreedyCover_1.f (k + 1) a0 a1 a2) := by
 intro a0 a1 a2 k
 have ih0 := impl_GreedyCover_1.mono_l k
 unfold impl_GreedyCover_1.f
 repeat' first
   | with_reducible apply ih0
   | with_reducible apply impl_Pattern_size.mono
   | with_reducible apply impl_fits.mono
   | (with_reducible exact LeO.refl _)
   | (with_reducible exact LeO.none _)
   | (with_reducible refine LeO.ite ?_ ?_)
   | (with_reducible refine LeO.bind ?_ (fun _ => ?_))
   | apply ih0
   | apply impl_Pattern_size.mono
   | apply impl_fits.mono
   | exact LeO.none _
   | refine LeO.ite ?_ ?_
   | refine LeO.bind ?_ (fun _ => ?_)
set_option maxHeartbeats 8000000 in
set_option maxRecDepth 100000 in
theorem impl_GreedyCover_1.calls (k : Nat) (a0 : Int) (g1 : Nat) (A1_0 : Option Addr) (c1_0 : Nat) (l1_0 : List (S57)) (g2 : Nat) (A2_0 : Option Addr) (c2_0 : Nat) (l2_0 : List Int) (r : Int) (w : World) (hb1 : w.heap[g1]? = some (.cells #[.slice A1_0 l1_0.length c1_0] 29 (0, 0))) (hr1_0 : Kd.C k57 w A1_0 l1_0.length l1_0) (hc1_0 : l1_0.length ≤ c1_0) (hb2 : w.heap[g2]? = some (.cells #[.slice A2_0 l2_0.length c2_0] 22 (0, 0))) (hr2_0 : Kd.C (Kd.int .i64) w A2_0 l2_0.length l2_0) (hc2_0 : l2_0.length ≤ c2_0) (h : impl_GreedyCover_1.f k a0 l1_0 l2_0 = some r) :
  Calls Try.prog 45 #[.int .i64 a0, .pointer (some ⟨g1, 0, none⟩), .pointer (some ⟨g2, 0, none⟩)] w fun e w' => e = .returned (.int .i64 r) ∧ Below w.heap.size w w' := by
 have hu57 := Try.underlying57
 have HR1_0 := Aside0.mk hr1_0
 have HC1_0 := Aside0.mk hc1_0
 clear hr1_0 hc1_0
 have HR2_0 := Aside0.mk hr2_0
 have HC2_0 := Aside0.mk hc2_0
 clear hr2_0 hc2_0
 have BK1 := Aside0.mk hb1
 clear hb1
 have BK2 := Aside0.mk hb2
 clear hb2
 have HB := Aside0.mk (Below.refl w.heap.size w)
 have H : (impl_GreedyCover_1.l0 k a0 (-1) 0 l1_0 (l1_0.length : Int) 0 l2_0) = some r := h
 clear h
 have H' := Aside0.mk H
 clear H
 obtain ⟨hcz4_0, hfz4_0⟩ := bk1 BK1.out
 go_enter Try.func45, Try.ntmps45
 go_wp2
 go_loopg [5, 6, 13] k (fun kq v5 v6 v13 w' => ∃ (x5_1 : Int) (x6_1 : Int) (x13_1 : Int), v5 = .int .i64 x5_1 ∧ v6 = .int .i64 x6_1 ∧ v13 = .int .i64 x13_1 ∧ Aside0 (impl_GreedyCover_1.l0 kq a0 x5_1 x6_1 l1_0 (l1_0.length : Int) x13_1 l2_0 = some r) ∧ Aside0 (kq ≤ k) ∧ Aside0 (w'.heap[g1]? = some (.cells #[(.slice A1_0 l1_0.length c1_0)] 29 (0, 0))) ∧ Aside0 (w'.heap[g2]? = some (.cells #[(.slice A2_0 l2_0.length c2_0)] 22 (0, 0))) ∧ Aside0 (Below w.heap.size w w'))
 case atStart => exact ⟨((-1)), (0), (0), lF, lF, lF, H', ⟨Nat.le_refl _⟩, ⟨lK BK1.out⟩, ⟨lK BK2.out⟩, ⟨lB⟩⟩
 case round =>
  clear H'
  try clear c1
  try clear c2
  try clear p2
  try clear c4
  try clear hcz4_0 hfz4_0
  obtain ⟨x5_1, x6_1, x13_1, rfl, rfl, rfl, HA, HK1, BK1, BK2, HB⟩ := hrel
  cases gk with
  | zero => exact absurd HA.out (by simp [impl_GreedyCover_1.l0])
  | succ k1 =>
   have H := HA.out
   clear HA
   simp only [impl_GreedyCover_1.l0] at H
   by_cases c5 : x13_1 < (l1_0.length : Int)
   ·rw [if_pos c5] at H
    have c5b0 : decide (x13_1 < (l1_0.length : Int)) = true := decide_eq_true c5
    clear c5
    by_cases c6 : 0 ≤ x13_1
    ·rw [if_pos c6] at H
     have c6b0 : decide (0 ≤ x13_1) = true := decide_eq_true c6
     clear c6
     by_cases c7 : x13_1 < (l1_0.length : Int)
     ·rw [if_pos c7] at H
      have c7b0 : decide (x13_1 < (l1_0.length : Int)) = true := decide_eq_true c7
      clear c7
      replace H := Option.bind_eq_some_iff.mp H
      obtain ⟨⟨t232, t235⟩, A80, H⟩ := H
      replace H : (if t235 = true then ((impl_Pattern_size.f k1 ((rd_T57 l1_0 x13_1).f0) ((rd_T57 l1_0 x13_1).f1)).bind fun t236 => (if t236 > x6_1 then ((impl_Pattern_size.f k1 ((rd_T57 l1_0 x13_1).f0) ((rd_T57 l1_0 x13_1).f1)).bind fun t237 => (impl_GreedyCover_1.l0 k1 a0 x13_1 t237 l1_0 (l1_0.length : Int) (wrap64 (x13_1 + 1)) l2_0)) else (impl_GreedyCover_1.l0 k1 a0 x5_1 x6_1 l1_0 (l1_0.length : Int) (wrap64 (x13_1 + 1)) l2_0))) else (impl_GreedyCover_1.l0 k1 a0 x5_1 x6_1 l1_0 (l1_0.length : Int) (wrap64 (x13_1 + 1)) l2_0)) = some r := H
      have A8 := Aside0.mk A80
      clear A80
      by_cases c9 : t235 = true
      ·subst c9
       rw [if_pos rfl] at H
       replace H := lO H
       obtain ⟨t236, A10, H⟩ := H
       by_cases c11 : t236 > x6_1
       ·rw [if_pos c11] at H
        have c11b0 : decide (x6_1 < t236) = true := decide_eq_true c11
        clear c11
        replace H := lO H
        obtain ⟨t237, A12, H⟩ := H
        have H' := Aside0.mk H
        clear H
        have p230 : 0 ≤ (x13_1 : Int) := lD
        have q230 : x13_1 < (l1_0.length : Int) := lD
        obtain ⟨ad230, A230_0, c230_0, e230, hx230_0, hx230_1, hl230_0, hi230_0⟩ := at_T57 HR1_0.out x13_1 p230 q230
        cases e230
        replace hx230_0 := pw_cell_below HB.out hx230_0
        replace hx230_1 := pw_cell_below HB.out hx230_1
        have HR230_0 := Aside0.mk hi230_0
        have HC230_0 := Aside0.mk hl230_0
        clear hi230_0 hl230_0
        replace p230 := eq_true p230
        replace q230 := eq_true q230
        go_wp2_with (first | ((with_reducible refine gate_dst (N := 8) rfl ?_); refine bxe 8 #[.slice none 0 0, .int .i64 0] 57 ?_; intro gb231 hg w13 hbox hb; have n0_ := Aside0.mk (blk_below (lK BK1.out) hb); have n1_ := Aside0.mk (blk_below (lK BK2.out) hb); have n2_ := Aside0.mk (below_step lB hb); have n3_ := Aside0.mk (hbox); have n4_ := lG w hg; have n5_ := lG w hg; have n6_ := Aside0.mk ((by rw [hg]; exact Nat.ne_of_lt (blk_lt (lK BK1.out)) : g1 ≠ gb231)); have n7_ := Aside0.mk ((by rw [hg]; exact Nat.ne_of_gt (blk_lt (lK BK1.out)) : gb231 ≠ g1)); have n8_ := Aside0.mk ((by rw [hg]; exact Nat.ne_of_lt (blk_lt (lK BK2.out)) : g2 ≠ gb231)); have n9_ := Aside0.mk ((by rw [hg]; exact Nat.ne_of_gt (blk_lt (lK BK2.out)) : gb231 ≠ g2)); clear BK1; clear BK2; clear HB; have BK1 := n0_; have BK2 := n1_; have HB := n2_; have BK231 := n3_; have GW231 := n4_; have GE231 := n5_; have NB1_231 := n6_; have NB231_1 := n7_; have NB2_231 := n8_; have NB231_2 := n9_; clear n0_ n1_ n2_ n3_ n4_ n5_ n6_ n7_ n8_ n9_; clear hb hbox hg; have hnb14 := NB231_1.out; have hnc14 := NB1_231.out; have hnb15 := NB231_2.out; have hnc15 := NB2_231.out; obtain ⟨hcz16_0, hfz16_0, hcz16_1, hfz16_1⟩ := bk2 BK231.out; obtain ⟨hcz17_0, hfz17_0⟩ := bk1 BK2.out) | ((with_reducible refine gate_callee (f := 46) rfl ?_); refine gl_ (some 22) (Try.func46) #[.slice A2_0 l2_0.length c2_0, .int .i64 a0, .agg #[.slice A230_0 ((rd_T57 l1_0 x13_1).f0).length c230_0, .int .i64 ((rd_T57 l1_0 x13_1).f1)]] ?_; (with_reducible refine (impl_fits.calls k1 _ _ l2_0 a0 _ _ ((rd_T57 l1_0 x13_1).f0) ((rd_T57 l1_0 x13_1).f1) t232 true _ ?side1 ?side2 ?side3 ?side4 A8.out).mono ?_); (case side1 => exact Kd.C_below HR2_0.out lB); (case side2 => exact HC2_0.out); (case side3 => exact Kd.C_below HR230_0.out lB); (case side4 => exact HC230_0.out); rintro e w18 ⟨v233, rfl, ho0, hb⟩; refine ⟨_, rfl, ?_⟩; have n0_ := Aside0.mk (Kd.R_lower ho0 (below_size lB)); have n1_ := Aside0.mk (blk_below (lJ BK1.out) hb); have n2_ := Aside0.mk (blk_below (lJ BK2.out) hb); have n3_ := Aside0.mk (blk_below (g := gb231) (o := .cells #[.slice A230_0 ((rd_T57 l1_0 x13_1).f0).length c230_0, .int .i64 ((rd_T57 l1_0 x13_1).f1)] 57 (0, 0)) (by (with_reducible repeat first | apply bN | apply bD | apply bA); refine blk_put (cs := #[.slice A230_0 ((rd_T57 l1_0 x13_1).f0).length c230_0, .int .i64 0]) ?_ 1 _ rfl; (with_reducible repeat first | apply bN | apply bD | apply bA); refine blk_put (cs := #[.slice none 0 0, .int .i64 0]) ?_ 0 _ rfl; (with_reducible repeat first | apply bN | apply bD | apply bA); exact BK231.out) hb); have n4_ := Aside0.mk (below_step lB hb); clear BK1; clear BK2; clear BK231; clear HB; have HO234 := n0_; have BK1 := n1_; have BK2 := n2_; have BK231 := n3_; have HB := n4_; clear n0_ n1_ n2_ n3_ n4_; (try clear hb); (try clear hb2); (try clear hk); (try clear hi); (try clear ho0); obtain ⟨hcz19_0, hfz19_0, hcz19_1, hfz19_1⟩ := bk2 BK231.out) | (go_at_call 47; (with_reducible refine (impl_Pattern_size.calls k1 _ _ ((rd_T57 l1_0 x13_1).f0) ((rd_T57 l1_0 x13_1).f1) t236 _ ?side1 ?side2 A10.out).mono ?_); (case side1 => exact lC (Kd.C_below HR230_0.out HB.out)); (case side2 => exact HC230_0.out); rintro e w20 ⟨rfl, hb⟩; have n0_ := Aside0.mk (Kd.R_below (lR HO234.out) hb); have n1_ := Aside0.mk (blk_below (lK BK1.out) hb); have n2_ := Aside0.mk (blk_below (lK BK2.out) hb); have n3_ := Aside0.mk (blk_below (lK BK231.out) hb); have n4_ := Aside0.mk (below_step lB hb); clear HO234; clear BK1; clear BK2; clear BK231; clear HB; have HO234 := n0_; have BK1 := n1_; have BK2 := n2_; have BK231 := n3_; have HB := n4_; clear n0_ n1_ n2_ n3_ n4_; (try clear hb); (try clear hb2); (try clear hk); (try clear hi); obtain ⟨hcz21_0, hfz21_0, hcz21_1, hfz21_1⟩ := bk2 BK231.out) | ((with_reducible refine gate_callee (f := 47) rfl ?_); refine gl_ (some 34) (Try.func47) #[.agg #[.slice A230_0 ((rd_T57 l1_0 x13_1).f0).length c230_0, .int .i64 ((rd_T57 l1_0 x13_1).f1)]] ?_; (with_reducible refine (impl_Pattern_size.calls k1 _ _ ((rd_T57 l1_0 x13_1).f0) ((rd_T57 l1_0 x13_1).f1) t237 _ ?side1 ?side2 A12.out).mono ?_); (case side1 => exact lC (Kd.C_below HR230_0.out HB.out)); (case side2 => exact HC230_0.out); rintro e w22 ⟨rfl, hb⟩; refine ⟨_, rfl, ?_⟩; have n0_ := Aside0.mk (Kd.R_below (lR HO234.out) hb); have n1_ := Aside0.mk (blk_below (lK BK1.out) hb); have n2_ := Aside0.mk (blk_below (lK BK2.out) hb); have n3_ := Aside0.mk (blk_below (lK BK231.out) hb); have n4_ := Aside0.mk (below_step lB hb); clear HO234; clear BK1; clear BK2; clear BK231; clear HB; have HO234 := n0_; have BK1 := n1_; have BK2 := n2_; have BK231 := n3_; have HB := n4_; clear n0_ n1_ n2_ n3_ n4_; (try clear hb); (try clear hb2); (try clear hk); (try clear hi)))
        go_roundg k1
        case measure => have := HK1.out; omega
        case rel => exact ⟨(x13_1), (t237), (wrap64 (x13_1 + 1)), lF, lF, lF, H', ⟨by have := HK1.out; omega⟩, ⟨lK BK1.out⟩, ⟨lK BK2.out⟩, ⟨lB⟩⟩
       ·rw [if_neg c11] at H
        have c11b0 : decide (x6_1 < t236) = false := decide_eq_false c11
        clear c11
        have H' := Aside0.mk H
        clear H
        have p230 : 0 ≤ (x13_1 : Int) := lD
        have q230 : x13_1 < (l1_0.length : Int) := lD
        obtain ⟨ad230, A230_0, c230_0, e230, hx230_0, hx230_1, hl230_0, hi230_0⟩ := at_T57 HR1_0.out x13_1 p230 q230
        cases e230
        replace hx230_0 := pw_cell_below HB.out hx230_0
        replace hx230_1 := pw_cell_below HB.out hx230_1
        have HR230_0 := Aside0.mk hi230_0
        have HC230_0 := Aside0.mk hl230_0
        clear hi230_0 hl230_0
        replace p230 := eq_true p230
        replace q230 := eq_true q230
        go_wp2_with (first | ((with_reducible refine gate_dst (N := 8) rfl ?_); refine bxe 8 #[.slice none 0 0, .int .i64 0] 57 ?_; intro gb231 hg w23 hbox hb; have n0_ := Aside0.mk (blk_below (lK BK1.out) hb); have n1_ := Aside0.mk (blk_below (lK BK2.out) hb); have n2_ := Aside0.mk (below_step lB hb); have n3_ := Aside0.mk (hbox); have n4_ := lG w hg; have n5_ := lG w hg; have n6_ := Aside0.mk ((by rw [hg]; exact Nat.ne_of_lt (blk_lt (lK BK1.out)) : g1 ≠ gb231)); have n7_ := Aside0.mk ((by rw [hg]; exact Nat.ne_of_gt (blk_lt (lK BK1.out)) : gb231 ≠ g1)); have n8_ := Aside0.mk ((by rw [hg]; exact Nat.ne_of_lt (blk_lt (lK BK2.out)) : g2 ≠ gb231)); have n9_ := Aside0.mk ((by rw [hg]; exact Nat.ne_of_gt (blk_lt (lK BK2.out)) : gb231 ≠ g2)); clear BK1; clear BK2; clear HB; have BK1 := n0_; have BK2 := n1_; have HB := n2_; have BK231 := n3_; have GW231 := n4_; have GE231 := n5_; have NB1_231 := n6_; have NB231_1 := n7_; have NB2_231 := n8_; have NB231_2 := n9_; clear n0_ n1_ n2_ n3_ n4_ n5_ n6_ n7_ n8_ n9_; clear hb hbox hg; have hnb24 := NB231_1.out; have hnc24 := NB1_231.out; have hnb25 := NB231_2.out; have hnc25 := NB2_231.out; obtain ⟨hcz26_0, hfz26_0, hcz26_1, hfz26_1⟩ := bk2 BK231.out; obtain ⟨hcz27_0, hfz27_0⟩ := bk1 BK2.out) | ((with_reducible refine gate_callee (f := 46) rfl ?_); refine gl_ (some 22) (Try.func46) #[.slice A2_0 l2_0.length c2_0, .int .i64 a0, .agg #[.slice A230_0 ((rd_T57 l1_0 x13_1).f0).length c230_0, .int .i64 ((rd_T57 l1_0 x13_1).f1)]] ?_; (with_reducible refine (impl_fits.calls k1 _ _ l2_0 a0 _ _ ((rd_T57 l1_0 x13_1).f0) ((rd_T57 l1_0 x13_1).f1) t232 true _ ?side1 ?side2 ?side3 ?side4 A8.out).mono ?_); (case side1 => exact Kd.C_below HR2_0.out lB); (case side2 => exact HC2_0.out); (case side3 => exact Kd.C_below HR230_0.out lB); (case side4 => exact HC230_0.out); rintro e w28 ⟨v233, rfl, ho0, hb⟩; refine ⟨_, rfl, ?_⟩; have n0_ := Aside0.mk (Kd.R_lower ho0 (below_size lB)); have n1_ := Aside0.mk (blk_below (lJ BK1.out) hb); have n2_ := Aside0.mk (blk_below (lJ BK2.out) hb); have n3_ := Aside0.mk (blk_below (g := gb231) (o := .cells #[.slice A230_0 ((rd_T57 l1_0 x13_1).f0).length c230_0, .int .i64 ((rd_T57 l1_0 x13_1).f1)] 57 (0, 0)) (by (with_reducible repeat first | apply bN | apply bD | apply bA); refine blk_put (cs := #[.slice A230_0 ((rd_T57 l1_0 x13_1).f0).length c230_0, .int .i64 0]) ?_ 1 _ rfl; (with_reducible repeat first | apply bN | apply bD | apply bA); refine blk_put (cs := #[.slice none 0 0, .int .i64 0]) ?_ 0 _ rfl; (with_reducible repeat first | apply bN | apply bD | apply bA); exact BK231.out) hb); have n4_ := Aside0.mk (below_step lB hb); clear BK1; clear BK2; clear BK231; clear HB; have HO234 := n0_; have BK1 := n1_; have BK2 := n2_; have BK231 := n3_; have HB := n4_; clear n0_ n1_ n2_ n3_ n4_; (try clear hb); (try clear hb2); (try clear hk); (try clear hi); (try clear ho0); obtain ⟨hcz29_0, hfz29_0, hcz29_1, hfz29_1⟩ := bk2 BK231.out) | (go_at_call 47; (with_reducible refine (impl_Pattern_size.calls k1 _ _ ((rd_T57 l1_0 x13_1).f0) ((rd_T57 l1_0 x13_1).f1) t236 _ ?side1 ?side2 A10.out).mono ?_); (case side1 => exact lC (Kd.C_below HR230_0.out HB.out)); (case side2 => exact HC230_0.out); rintro e w30 ⟨rfl, hb⟩; have n0_ := Aside0.mk (Kd.R_below (lR HO234.out) hb); have n1_ := Aside0.mk (blk_below (lK BK1.out) hb); have n2_ := Aside0.mk (blk_below (lK BK2.out) hb); have n3_ := Aside0.mk (blk_below (lK BK231.out) hb); have n4_ := Aside0.mk (below_step lB hb); clear HO234; clear BK1; clear BK2; clear BK231; clear HB; have HO234 := n0_; have BK1 := n1_; have BK2 := n2_; have BK231 := n3_; have HB := n4_; clear n0_ n1_ n2_ n3_ n4_; (try clear hb); (try clear hb2); (try clear hk); (try clear hi)))
        go_roundg k1
        case measure => have := HK1.out; omega
        case rel => exact ⟨(x5_1), (x6_1), (wrap64 (x13_1 + 1)), lF, lF, lF, H', ⟨by have := HK1.out; omega⟩, ⟨lK BK1.out⟩, ⟨lK BK2.out⟩, ⟨lB⟩⟩
      ·replace c9 := Bool.eq_false_iff.mpr c9
       subst c9
       rw [if_neg (show ¬ (false = true) by decide)] at H
       have H' := Aside0.mk H
       clear H
       have p230 : 0 ≤ (x13_1 : Int) := lD
       have q230 : x13_1 < (l1_0.length : Int) := lD
       obtain ⟨ad230, A230_0, c230_0, e230, hx230_0, hx230_1, hl230_0, hi230_0⟩ := at_T57 HR1_0.out x13_1 p230 q230
       cases e230
       replace hx230_0 := pw_cell_below HB.out hx230_0
       replace hx230_1 := pw_cell_below HB.out hx230_1
       have HR230_0 := Aside0.mk hi230_0
       have HC230_0 := Aside0.mk hl230_0
       clear hi230_0 hl230_0
       replace p230 := eq_true p230
       replace q230 := eq_true q230
       go_wp2_with (first | ((with_reducible refine gate_dst (N := 8) rfl ?_); refine bxe 8 #[.slice none 0 0, .int .i64 0] 57 ?_; intro gb231 hg w31 hbox hb; have n0_ := Aside0.mk (blk_below (lK BK1.out) hb); have n1_ := Aside0.mk (blk_below (lK BK2.out) hb); have n2_ := Aside0.mk (below_step lB hb); have n3_ := Aside0.mk (hbox); have n4_ := lG w hg; have n5_ := lG w hg; have n6_ := Aside0.mk ((by rw [hg]; exact Nat.ne_of_lt (blk_lt (lK BK1.out)) : g1 ≠ gb231)); have n7_ := Aside0.mk ((by rw [hg]; exact Nat.ne_of_gt (blk_lt (lK BK1.out)) : gb231 ≠ g1)); have n8_ := Aside0.mk ((by rw [hg]; exact Nat.ne_of_lt (blk_lt (lK BK2.out)) : g2 ≠ gb231)); have n9_ := Aside0.mk ((by rw [hg]; exact Nat.ne_of_gt (blk_lt (lK BK2.out)) : gb231 ≠ g2)); clear BK1; clear BK2; clear HB; have BK1 := n0_; have BK2 := n1_; have HB := n2_; have BK231 := n3_; have GW231 := n4_; have GE231 := n5_; have NB1_231 := n6_; have NB231_1 := n7_; have NB2_231 := n8_; have NB231_2 := n9_; clear n0_ n1_ n2_ n3_ n4_ n5_ n6_ n7_ n8_ n9_; clear hb hbox hg; have hnb32 := NB231_1.out; have hnc32 := NB1_231.out; have hnb33 := NB231_2.out; have hnc33 := NB2_231.out; obtain ⟨hcz34_0, hfz34_0, hcz34_1, hfz34_1⟩ := bk2 BK231.out; obtain ⟨hcz35_0, hfz35_0⟩ := bk1 BK2.out) | ((with_reducible refine gate_callee (f := 46) rfl ?_); refine gl_ (some 22) (Try.func46) #[.slice A2_0 l2_0.length c2_0, .int .i64 a0, .agg #[.slice A230_0 ((rd_T57 l1_0 x13_1).f0).length c230_0, .int .i64 ((rd_T57 l1_0 x13_1).f1)]] ?_; (with_reducible refine (impl_fits.calls k1 _ _ l2_0 a0 _ _ ((rd_T57 l1_0 x13_1).f0) ((rd_T57 l1_0 x13_1).f1) t232 false _ ?side1 ?side2 ?side3 ?side4 A8.out).mono ?_); (case side1 => exact Kd.C_below HR2_0.out lB); (case side2 => exact HC2_0.out); (case side3 => exact Kd.C_below HR230_0.out lB); (case side4 => exact HC230_0.out); rintro e w36 ⟨v233, rfl, ho0, hb⟩; refine ⟨_, rfl, ?_⟩; have n0_ := Aside0.mk (Kd.R_lower ho0 (below_size lB)); have n1_ := Aside0.mk (blk_below (lJ BK1.out) hb); have n2_ := Aside0.mk (blk_below (lJ BK2.out) hb); have n3_ := Aside0.mk (blk_below (g := gb231) (o := .cells #[.slice A230_0 ((rd_T57 l1_0 x13_1).f0).length c230_0, .int .i64 ((rd_T57 l1_0 x13_1).f1)] 57 (0, 0)) (by (with_reducible repeat first | apply bN | apply bD | apply bA); refine blk_put (cs := #[.slice A230_0 ((rd_T57 l1_0 x13_1).f0).length c230_0, .int .i64 0]) ?_ 1 _ rfl; (with_reducible repeat first | apply bN | apply bD | apply bA); refine blk_put (cs := #[.slice none 0 0, .int .i64 0]) ?_ 0 _ rfl; (with_reducible repeat first | apply bN | apply bD | apply bA); exact BK231.out) hb); have n4_ := Aside0.mk (below_step lB hb); clear BK1; clear BK2; clear BK231; clear HB; have HO234 := n0_; have BK1 := n1_; have BK2 := n2_; have BK231 := n3_; have HB := n4_; clear n0_ n1_ n2_ n3_ n4_; (try clear hb); (try clear hb2); (try clear hk); (try clear hi); (try clear ho0)))
       go_roundg k1
       case measure => have := HK1.out; omega
       case rel => exact ⟨(x5_1), (x6_1), (wrap64 (x13_1 + 1)), lF, lF, lF, H', ⟨by have := HK1.out; omega⟩, ⟨lK BK1.out⟩, ⟨lK BK2.out⟩, ⟨lB⟩⟩
     ·rw [if_neg c7] at H
      exact absurd H (by simp)
    ·rw [if_neg c6] at H
     exact absurd H (by simp)
   ·rw [if_neg c5] at H
    have c5b0 : decide (x13_1 < (l1_0.length : Int)) = false := decide_eq_false c5
    clear c5
    obtain rfl := Option.some.inj H
    first | (go_wp2; go_ret; exact ⟨lE, lB⟩) | (exfalso; simp only [decide_eq_false_iff_not, decide_eq_true_eq] at *; omega)

/-! ### impl_lay_39: function 38, handed 39 -/
def impl_lay_39.l0 : Nat → List Int → List (S57) → List (S63) → List Int → List Int → Option ((List (S63)))
 | 0, _, _, _, _, _ => none
 | k + 1, x0, x1, x7, x8, x3000 => if (x8.length : Int) > 0 then (if 0 < (x8.length : Int) then ((impl_BestCover_1.f (rd x8 0) x3000).bind fun t245 => (if x7.length < 8796093022208 then ((some (x7 ++ [(⟨rd x8 0, t245⟩ : S63)] : List (S63))).bind fun y246 => (if t245 < 0 then (some y246) else (if 0 ≤ t245 then (if t245 < (x1.length : Int) then ((impl_fits.f k x0 (rd x8 0) ((rd_T57 x1 t245).f0) ((rd_T57 x1 t245).f1)).bind fun bt250 => (if 1 ≤ (x8.length : Int) then ((some (x8.drop 1 : List Int)).bind fun y254 => (if bt250.1.length + y254.length < 17592186044416 then (impl_lay_39.l0 k x0 x1 y246 (bt250.1 ++ y254) x3000) else (none))) else (none))) else (none)) else (none)))) else (none))) else (none)) else (some x7)
def impl_lay_39.f (k : Nat) (l0 : List Int) (l1 : List (S57)) (l2_0 : List Int) : Option ((List (S63))) := impl_lay_39.l0 k l0 l1 (([] : List (S63))) (([0] : List Int)) l2_0
theorem impl_lay_39.mono_l : ∀ k, (∀ y0 y1 y2 y3 y4, LeO (impl_lay_39.l0 k y0 y1 y2 y3 y4) (impl_lay_39.l0 (k + 1) y0 y1 y2 y3 y4))
 | 0 => fun _ _ _ _ _ r h => by simp [impl_lay_39.l0] at h
 | k + 1 => by
  have ih0 := impl_lay_39.mono_l k
  ·intro y0 y1 y2 y3 y4
   unfold impl_lay_39.l0
   repeat' first
   | with_reducible apply ih0
   | with_reducible apply impl_fits.mono
   | (with_reducible exact LeO.refl _)
   | (with_reducible exact LeO.none _)
   | (with_reducible refine LeO.ite ?_ ?_)
   | (with_reducible refine LeO.bind ?_ (fun _ => ?_))
   | apply ih0
   | apply impl_fits.mono
   | exact LeO.none _
   | refine LeO.ite ?_ ?_
   | refine LeO.bind ?_ (fun _ => ?_)
theorem impl_lay_39.mono : ∀ a0 a1 a2 k, LeO (impl_lay_39.f k a0 a1 a2) (impl_lay_39.f (k + 1) a0 a1 a2) := by
 intro a0 a1 a2 k
 have ih0 := impl_lay_39.mono_l k
 unfold impl_lay_39.f
 repeat' first
   | with_reducible apply ih0
   | with_reducible apply impl_fits.mono
   | (with_reducible exact LeO.refl _)
   | (with_reducible exact LeO.none _)
   | (with_reducible refine LeO.ite ?_ ?_)
   | (with_reducible refine LeO.bind ?_ (fun _ => ?_))
   | apply ih0
   | apply impl_fits.mono
   | exact LeO.none _
   | refine LeO.ite ?_ ?_
   | refine LeO.bind ?_ (fun _ => ?_)
set_option maxHeartbeats 8000000 in
set_option maxRecDepth 100000 in
theorem impl_lay_39.calls (k : Nat) (A0 : Option Addr) (c0 : Nat) (l0 : List Int) (A1 : Option Addr) (c1 : Nat) (l1 : List (S57)) (g2 : Nat) (A2_0 : Option Addr) (c2_0 : Nat) (l2_0 : List Int) (r : List (S63)) (w : World) (hr0 : Kd.C (Kd.int .i64) w A0 l0.length l0) (hc0 : l0.length ≤ c0) (hr1 : Kd.C k57 w A1 l1.length l1) (hc1 : l1.length ≤ c1) (hb2 : w.heap[g2]? = some (.cells #[.slice A2_0 l2_0.length c2_0] 22 (0, 0))) (hr2_0 : Kd.C (Kd.int .i64) w A2_0 l2_0.length l2_0) (hc2_0 : l2_0.length ≤ c2_0) (h : impl_lay_39.f k l0 l1 l2_0 = some r) :
  Calls Try.prog 38 #[.slice A0 l0.length c0, .slice A1 l1.length c1, .func (.func 39) #[] #[.pointer (some ⟨g2, 0, none⟩)]] w fun e w' => ∃ v0_ : Value, e = .returned (v0_) ∧ Kd.R k63 63 w' w.heap.size (fun _ => True) v0_ r ∧ Below w.heap.size w w' := by
 have hu63 := Try.underlying63
 have hu57 := Try.underlying57
 have HR0 := Aside0.mk hr0
 have HC0 := Aside0.mk hc0
 clear hr0 hc0
 have HR1 := Aside0.mk hr1
 have HC1 := Aside0.mk hc1
 clear hr1 hc1
 have HR2_0 := Aside0.mk hr2_0
 have HC2_0 := Aside0.mk hc2_0
 clear hr2_0 hc2_0
 have BK2 := Aside0.mk hb2
 clear hb2
 have HB := Aside0.mk (Below.refl w.heap.size w)
 have H : (impl_lay_39.l0 k l0 l1 (([] : List (S63))) (([0] : List Int)) l2_0) = some r := h
 clear h
 obtain ⟨y238, hy238⟩ : ∃ y_ : List (S63), y_ = (([] : List (S63))) := ⟨_, rfl⟩
 replace H : (impl_lay_39.l0 k l0 l1 y238 (([0] : List Int)) l2_0) = some r := by first | (rw [hy238]; with_reducible exact H) | (have H2_ := (Option.bind_some _ _).symm.trans H; rw [hy238]; with_reducible exact H2_) | (have H2_ := (Option.bind_some _ _).symm.trans H; with_reducible exact H2_) | with_reducible exact H | (rw [hy238]; exact H) | exact H
 have Ny238 := Aside0.mk hy238
 clear hy238
 obtain ⟨y241, hy241⟩ : ∃ y_ : List Int, y_ = (([0] : List Int)) := ⟨_, rfl⟩
 replace H : (impl_lay_39.l0 k l0 l1 y238 y241 l2_0) = some r := by first | (rw [hy241]; with_reducible exact H) | (have H2_ := (Option.bind_some _ _).symm.trans H; rw [hy241]; with_reducible exact H2_) | (have H2_ := (Option.bind_some _ _).symm.trans H; with_reducible exact H2_) | with_reducible exact H | (rw [hy241]; exact H) | exact H
 have Ny241 := Aside0.mk hy241
 clear hy241
 have H' := Aside0.mk H
 clear H
 go_enter Try.func38, Try.ntmps38
 go_wp2_with (first | ((with_reducible refine gate_dst (N := 13) rfl ?_); refine Kd.R_lit k63 _ 63 ?hg (N := 13) ?hd (xs := ([] : List (S63))) (inner := []) (ok := fun _ => True) (okp := fun _ => True) ?hr ?hp (fun _ hk => hk) trivial (Below.refl _ _) (Nat.le_refl _) (by simp) ?_; (case hd => rfl); (case hg => rfl); (case hr => first | (go_simp; done) | (go_simp; rfl)); (case hp => exact (Reps.none _ _)); intro v239 w4 ho5 hb hg_ hnew_; clear hg_ hnew_; (first | rw [← Ny238.out] at ho5 | (simp only [Int.reduceToNat] at ho5; rw [← Ny238.out] at ho5)); have n0_ := Aside0.mk (Kd.R_lower ho5 (below_size lB)); have n1_ := Aside0.mk (blk_below (lK BK2.out) hb); have n2_ := Aside0.mk (below_step lB hb); clear BK2; clear HB; have HO240 := n0_; have BK2 := n1_; have HB := n2_; clear n0_ n1_ n2_; clear hb ho5) | ((with_reducible refine gate_dst (N := 14) rfl ?_); refine Kd.R_lit (Kd.int .i64) _ 3 ?hg (N := 14) ?hd (xs := ([0] : List Int)) (inner := [.int .i64 0]) (ok := fun _ => True) (okp := fun _ => True) ?hr ?hp (fun _ hk => hk) trivial (Below.refl _ _) (Nat.le_refl _) (by simp) ?_; (case hd => rfl); (case hg => rfl); (case hr => first | (go_simp; done) | (go_simp; rfl)); (case hp => exact (Reps.one (show Kd.M (Kd.int .i64) _ _ _ 0 [.int .i64 0] from rfl) (Reps.none _ _))); intro v242 w6 ho7 hb hg_ hnew_; clear hg_ hnew_; (first | rw [← Ny241.out] at ho7 | (simp only [Int.reduceToNat] at ho7; rw [← Ny241.out] at ho7)); have n0_ := Aside0.mk (Kd.R_below (lR HO240.out) hb); have n1_ := Aside0.mk (Kd.R_lower ho7 (below_size lB)); have n2_ := Aside0.mk (blk_below (lK BK2.out) hb); have n3_ := Aside0.mk (below_step lB hb); clear HO240; clear BK2; clear HB; have HO240 := n0_; have HO243 := n1_; have BK2 := n2_; have HB := n3_; clear n0_ n1_ n2_ n3_; clear hb ho7))
 go_loopg [7, 8] k (fun kq v7 v8 w' => ∃ (x7_1 : List (S63)) (x8_1 : List Int), Aside0 (impl_lay_39.l0 kq l0 l1 x7_1 x8_1 l2_0 = some r) ∧ Aside0 (kq ≤ k) ∧ Aside0 (Kd.R k63 63 w' w.heap.size (fun _ => True) v7 x7_1) ∧ Aside0 (Kd.R (Kd.int .i64) 3 w' w.heap.size (fun _ => True) v8 x8_1) ∧ Aside0 (w'.heap[g2]? = some (.cells #[(.slice A2_0 l2_0.length c2_0)] 22 (0, 0))) ∧ Aside0 (Below w.heap.size w w'))
 case atStart => exact ⟨(y238), (y241), H', ⟨Nat.le_refl _⟩, ⟨lR HO240.out⟩, ⟨lR HO243.out⟩, ⟨lK BK2.out⟩, ⟨lB⟩⟩
 case round =>
  clear H'
  try clear c1
  try clear c2
  try clear p2
  try clear c3
  obtain ⟨x7_1, x8_1, HA, HK1, HO_7, HO_8, BK2, HB⟩ := hrel
  cases gk with
  | zero => exact absurd HA.out (by simp [impl_lay_39.l0])
  | succ k1 =>
   have H := HA.out
   clear HA
   simp only [impl_lay_39.l0] at H
   by_cases c8 : (x8_1.length : Int) > 0
   ·rw [if_pos c8] at H
    have c8b0 : decide (0 < (x8_1.length : Int)) = true := decide_eq_true c8
    have c8b1 : decide (0 < x8_1.length) = true := decide_eq_true (by omega)
    clear c8
    by_cases c9 : 0 < (x8_1.length : Int)
    ·rw [if_pos c9] at H
     have c9b0 : decide (0 < (x8_1.length : Int)) = true := decide_eq_true c9
     have c9b1 : decide (0 < x8_1.length) = true := decide_eq_true (by omega)
     clear c9
     replace H := lO H
     obtain ⟨t245, A10, H⟩ := H
     by_cases c11 : x7_1.length < 8796093022208
     ·rw [if_pos c11] at H
      have LMc11 := Aside0.mk c11
      clear c11
      obtain ⟨y246, hy246⟩ : ∃ y_ : List (S63), y_ = (x7_1 ++ [(⟨rd x8_1 0, t245⟩ : S63)]) := ⟨_, rfl⟩
      replace H : (if t245 < 0 then (some y246) else (if 0 ≤ t245 then (if t245 < (l1.length : Int) then ((impl_fits.f k1 l0 (rd x8_1 0) ((rd_T57 l1 t245).f0) ((rd_T57 l1 t245).f1)).bind fun bt250 => (if 1 ≤ (x8_1.length : Int) then ((some (x8_1.drop 1 : List Int)).bind fun y254 => (if bt250.1.length + y254.length < 17592186044416 then (impl_lay_39.l0 k1 l0 l1 y246 (bt250.1 ++ y254) l2_0) else (none))) else (none))) else (none)) else (none))) = some r := by first | (rw [hy246]; with_reducible exact H) | (have H2_ := (Option.bind_some _ _).symm.trans H; rw [hy246]; with_reducible exact H2_) | (have H2_ := (Option.bind_some _ _).symm.trans H; with_reducible exact H2_) | with_reducible exact H | (rw [hy246]; exact H) | exact H
      have Ny246 := Aside0.mk hy246
      clear hy246
      by_cases c12 : t245 < 0
      ·rw [if_pos c12] at H
       have c12b0 : decide (t245 < 0) = true := decide_eq_true c12
       clear c12
       obtain rfl := Option.some.inj H
       obtain ⟨Ao13, co13, eo13⟩ := Kd.R_slice HO_8.out
       subst eo13
       have p244 : 0 ≤ (0 : Int) := (by omega)
       have q244 : 0 < (x8_1.length : Int) := lD
       obtain ⟨ad244, e244, hx244_0⟩ := Kd.at_int (Kd.R_reads' HO_8.out).2.2 0 p244 q244
       cases e244
       have qi244 : (0 < x8_1.length) = True := eq_true (by omega)
       (try rw [show ((0 : Int)).toNat = 0 from rfl] at hx244_0)
       (try rw [Addr.add_zero'] at hx244_0)
       replace p244 := eq_true p244
       replace q244 := eq_true q244
       go_wp2_with (first | ((with_reducible refine gate_val rfl ?_); refine glc_ (some 23) (enters_of Try.func39 (by kernel_rfl) rfl) #[.int .i64 (rd x8_1 0)] #[.pointer (some ⟨g2, 0, none⟩)] #[.int .i64 (rd x8_1 0), .pointer (some ⟨g2, 0, none⟩)] ?_; (with_reducible refine (impl_BestCover_1.calls (rd x8_1 0) g2 A2_0 c2_0 l2_0 t245 _ ?side1 ?side2 ?side3 A10.out).mono ?_); (case side1 => exact (lK BK2.out)); (case side2 => exact lC (Kd.C_below HR2_0.out HB.out)); (case side3 => exact HC2_0.out); rintro e w' ⟨rfl, ⟨nd, rfl⟩⟩; refine ⟨_, rfl, ?_⟩) | ((with_reducible refine gate_builtin (b := .append) (xs := #[.tmp 24, .tmp 28]) rfl ?_); at_builtin; refine Kd.R_append k63 (w0 := w) w.heap.size rfl (.tmp 24) (.tmp 28) 25 63 (.agg #[(.int .i64 0), (.int .i64 0)]) 16 rfl Try.underlying25 info63 rfl (by decide) (by omega) u7 x7_1 (⟨rd x8_1 0, t245⟩ : S63) [.int .i64 (rd x8_1 0), .int .i64 t245] (fun _ => True) (fun _ => False) rfl rfl ?aP (fun _ hk => hk.elim) ?aF ?aO ?aB ?aS ?aL ?_; (case aP => exact k63_mkM _ _ _ (⟨rd x8_1 0, t245⟩ : S63)); (case aB => exact lB); (case aF => exact (fun _ _ => trivial)); (case aO => exact (lR HO_7.out)); (case aS => exact (below_size lB)); (case aL => have := LMc11.out; omega); intro v247 w14 ho hb hg hat; rw [← Ny246.out] at ho; have n0_ := Aside0.mk (Kd.R_over' (lR HO_8.out) (Kd.R_typed (lR HO_7.out)) (by decide) hg); have n1_ := Aside0.mk (blk_grown (lK BK2.out) hg (Kd.R_ne HO_7.out BK2.out (by decide))); have n2_ := Aside0.mk (hb); have n3_ := Aside0.mk (ho); clear HO_8; clear BK2; clear HB; clear HO_7; have HO_8 := n0_; have BK2 := n1_; have HB := n2_; have HO248 := n3_; clear n0_ n1_ n2_ n3_; clear ho hb hg hat))
       go_ret
       exact ⟨_, lE, lR HO248.out, lB⟩
      ·rw [if_neg c12] at H
       have c12b0 : decide (t245 < 0) = false := decide_eq_false c12
       clear c12
       by_cases c15 : 0 ≤ t245
       ·rw [if_pos c15] at H
        have c15b0 : decide (0 ≤ t245) = true := decide_eq_true c15
        clear c15
        by_cases c16 : t245 < (l1.length : Int)
        ·rw [if_pos c16] at H
         have c16b0 : decide (t245 < (l1.length : Int)) = true := decide_eq_true c16
         clear c16
         replace H := Option.bind_eq_some_iff.mp H
         obtain ⟨⟨t250, t253⟩, A170, H⟩ := H
         replace H : (if 1 ≤ (x8_1.length : Int) then ((some (x8_1.drop 1 : List Int)).bind fun y254 => (if t250.length + y254.length < 17592186044416 then (impl_lay_39.l0 k1 l0 l1 y246 (t250 ++ y254) l2_0) else (none))) else (none)) = some r := H
         have A17 := Aside0.mk A170
         clear A170
         by_cases c18 : 1 ≤ (x8_1.length : Int)
         ·rw [if_pos c18] at H
          have c18b0 := eq_true c18
          have c18b1 : decide (1 ≤ (x8_1.length : Int)) = true := decide_eq_true c18
          clear c18
          obtain ⟨y254, hy254⟩ : ∃ y_ : List Int, y_ = (x8_1.drop 1) := ⟨_, rfl⟩
          replace H : (if t250.length + y254.length < 17592186044416 then (impl_lay_39.l0 k1 l0 l1 y246 (t250 ++ y254) l2_0) else (none)) = some r := by first | (rw [hy254]; with_reducible exact H) | (have H2_ := (Option.bind_some _ _).symm.trans H; rw [hy254]; with_reducible exact H2_) | (have H2_ := (Option.bind_some _ _).symm.trans H; with_reducible exact H2_) | with_reducible exact H | (rw [hy254]; exact H) | exact H
          have Ny254 := Aside0.mk hy254
          clear hy254
          by_cases c19 : t250.length + y254.length < 17592186044416
          ·rw [if_pos c19] at H
           have LMc19 := Aside0.mk c19
           clear c19
           obtain ⟨y258, hy258⟩ : ∃ y_ : List Int, y_ = (t250 ++ y254) := ⟨_, rfl⟩
           replace H : (impl_lay_39.l0 k1 l0 l1 y246 y258 l2_0) = some r := by first | (rw [hy258]; with_reducible exact H) | (have H2_ := (Option.bind_some _ _).symm.trans H; rw [hy258]; with_reducible exact H2_) | (have H2_ := (Option.bind_some _ _).symm.trans H; with_reducible exact H2_) | with_reducible exact H | (rw [hy258]; exact H) | exact H
           have Ny258 := Aside0.mk hy258
           clear hy258
           have H' := Aside0.mk H
           clear H
           obtain ⟨Ao20, co20, eo20⟩ := Kd.R_slice HO_8.out
           subst eo20
           have p244 : 0 ≤ (0 : Int) := (by omega)
           have q244 : 0 < (x8_1.length : Int) := lD
           obtain ⟨ad244, e244, hx244_0⟩ := Kd.at_int (Kd.R_reads' HO_8.out).2.2 0 p244 q244
           cases e244
           have qi244 : (0 < x8_1.length) = True := eq_true (by omega)
           (try rw [show ((0 : Int)).toNat = 0 from rfl] at hx244_0)
           (try rw [Addr.add_zero'] at hx244_0)
           replace p244 := eq_true p244
           replace q244 := eq_true q244
           go_wp2_with (first | ((with_reducible refine gate_val rfl ?_); refine glc_ (some 23) (enters_of Try.func39 (by kernel_rfl) rfl) #[.int .i64 (rd x8_1 0)] #[.pointer (some ⟨g2, 0, none⟩)] #[.int .i64 (rd x8_1 0), .pointer (some ⟨g2, 0, none⟩)] ?_; (with_reducible refine (impl_BestCover_1.calls (rd x8_1 0) g2 A2_0 c2_0 l2_0 t245 _ ?side1 ?side2 ?side3 A10.out).mono ?_); (case side1 => exact (lK BK2.out)); (case side2 => exact lC (Kd.C_below HR2_0.out HB.out)); (case side3 => exact HC2_0.out); rintro e w' ⟨rfl, ⟨nd, rfl⟩⟩; refine ⟨_, rfl, ?_⟩) | ((with_reducible refine gate_builtin (b := .append) (xs := #[.tmp 24, .tmp 28]) rfl ?_); at_builtin; refine Kd.R_append k63 (w0 := w) w.heap.size rfl (.tmp 24) (.tmp 28) 25 63 (.agg #[(.int .i64 0), (.int .i64 0)]) 16 rfl Try.underlying25 info63 rfl (by decide) (by omega) u7 x7_1 (⟨rd x8_1 0, t245⟩ : S63) [.int .i64 (rd x8_1 0), .int .i64 t245] (fun _ => True) (fun _ => False) rfl rfl ?aP (fun _ hk => hk.elim) ?aF ?aO ?aB ?aS ?aL ?_; (case aP => exact k63_mkM _ _ _ (⟨rd x8_1 0, t245⟩ : S63)); (case aB => exact lB); (case aF => exact (fun _ _ => trivial)); (case aO => exact (lR HO_7.out)); (case aS => exact (below_size lB)); (case aL => have := LMc11.out; omega); intro v247 w21 ho hb hg hat; rw [← Ny246.out] at ho; have n0_ := Aside0.mk (Kd.R_over' (lR HO_8.out) (Kd.R_typed (lR HO_7.out)) (by decide) hg); have n1_ := Aside0.mk (blk_grown (lK BK2.out) hg (Kd.R_ne HO_7.out BK2.out (by decide))); have n2_ := Aside0.mk (hb); have n3_ := Aside0.mk (ho); clear HO_8; clear BK2; clear HB; clear HO_7; have HO_8 := n0_; have BK2 := n1_; have HB := n2_; have HO248 := n3_; clear n0_ n1_ n2_ n3_; clear ho hb hg hat; have p249 : 0 ≤ (t245 : Int) := lD; have q249 : t245 < (l1.length : Int) := lD; obtain ⟨ad249, A249_0, c249_0, e249, hx249_0, hx249_1, hl249_0, hi249_0⟩ := at_T57 HR1.out t245 p249 q249; cases e249; replace hx249_0 := pw_cell_below HB.out hx249_0; replace hx249_1 := pw_cell_below HB.out hx249_1; have HR249_0 := Aside0.mk hi249_0; have HC249_0 := Aside0.mk hl249_0; clear hi249_0 hl249_0; replace p249 := eq_true p249; replace q249 := eq_true q249) | ((with_reducible refine gate_callee (f := 46) rfl ?_); refine gl_ (some 39) (Try.func46) #[.slice A0 l0.length c0, .int .i64 (rd x8_1 0), .agg #[.slice A249_0 ((rd_T57 l1 t245).f0).length c249_0, .int .i64 ((rd_T57 l1 t245).f1)]] ?_; (with_reducible refine (impl_fits.calls k1 _ _ l0 (rd x8_1 0) _ _ ((rd_T57 l1 t245).f0) ((rd_T57 l1 t245).f1) t250 t253 _ ?side1 ?side2 ?side3 ?side4 A17.out).mono ?_); (case side1 => exact lC (Kd.C_below HR0.out HB.out)); (case side2 => exact HC0.out); (case side3 => exact lC (Kd.C_below HR249_0.out HB.out)); (case side4 => exact HC249_0.out); rintro e w22 ⟨v251, rfl, ho0, hb⟩; refine ⟨_, rfl, ?_⟩; have n0_ := Aside0.mk (Kd.R_elder' (lR HO_8.out) (Kd.R_base ho0) hb); have n1_ := Aside0.mk (Kd.R_below (lR HO248.out) hb); have n2_ := Aside0.mk (Kd.R_lower (Kd.R_new' ho0 (Kd.R_lt (lR HO_8.out))) (below_size lB)); have n3_ := Aside0.mk (blk_below (lK BK2.out) hb); have n4_ := Aside0.mk (below_step lB hb); clear HO_8; clear HO248; clear BK2; clear HB; have HO_8 := n0_; have HO248 := n1_; have HO252 := n2_; have BK2 := n3_; have HB := n4_; clear n0_ n1_ n2_ n3_ n4_; (try clear hb); (try clear hb2); (try clear hk); (try clear hi); (try clear ho0); have q23 : (1 : Int) ≤ ((x8_1.length : Int) : Int) := lD; obtain ⟨i023, hi023, _, hsz23, _⟩ := info_parts info3; have hroom23 : x8_1.length ≤ co20 := (Kd.R_reads' HO_8.out).2.1; have hC23 : Kd.C (Kd.int .i64) _ (some ad244) x8_1.length x8_1 := (Kd.R_reads' HO_8.out).2.2; have hcut23 := cut_from (P := Try.prog) 22 3 .i64 Try.underlying22 hi023 1 hsz23 (some ad244) x8_1.length co20 1 (by omega) q23; have hr23 := Kd.C_drop (m := (1 : Int).toNat) (c := co20) hC23 (by omega) hroom23; obtain ⟨A23, hA23⟩ : ∃ A1, A1 = (if co20 = (1 : Int).toNat then (some ad244) else ((some ad244) : Option Addr).map (·.add ((1 : Int).toNat * 1))) := ⟨_, rfl⟩; obtain ⟨c23, hc23⟩ : ∃ c1, c1 = co20 - (1 : Int).toNat := ⟨_, rfl⟩; have hy23 : y254.length = x8_1.length - (1 : Int).toNat := (by rw [Ny254.out, List.length_drop] <;> omega); rw [show (x8_1).drop (1 : Int).toNat = y254 from Ny254.out.symm] at hr23; replace hr23 : Kd.C (Kd.int .i64) _ A23 y254.length y254 := (by rw [hA23]; exact hr23); rw [← hy23, ← hA23, ← hc23] at hcut23; have HR257 := Aside0.mk hr23; have HC257 := Aside0.mk (show y254.length ≤ c23 from by rw [hy23, hc23]; exact Nat.sub_le_sub_right hroom23 _); clear hr23 hC23 hroom23 hi023 hsz23 hc23; have KY23 := Aside0.mk hy23; have KA23 := Aside0.mk hA23; clear hy23 hA23; have KL23 := Aside0.mk (show 1 ≤ x8_1.length from by omega); replace q23 := eq_true q23) | ((with_reducible refine gate_builtin (b := .append) (xs := #[.tmp 42, .tmp 44]) rfl ?_); at_builtin; refine Kd.R_append_rows (Kd.int .i64) (w0 := w) w.heap.size rfl (.tmp 42) (.tmp 44) 22 3 (.int .i64 0) 8 rfl Try.underlying22 info3 rfl (by decide) (by omega) v251 t250 y254 _ _ _ (fun k_ => some k_ ≠ (.slice (some ad244) x8_1.length co20 : Value).ownBlock) (fun _ => False) rfl rfl ?aO ?aR (fun _ _ h => h) (fun _ h => h.elim) ?aF ?aB ?aS ?aL ?_; (case aR => repeat (first | exact (by repeat (first | (with_reducible exact HR257.out) | (with_reducible refine Kd.C_alloc ?_ _) | (with_reducible refine Kd.C_drewN ?_ _) | (with_reducible refine Kd.C_drew ?_) | exact HR257.out)) | (with_reducible refine Kd.C_alloc ?_ _) | (with_reducible refine Kd.C_drewN ?_ _) | (with_reducible refine Kd.C_drew ?_))); (case aB => exact lB); (case aF => exact (fun k_ hk => Kd.fresh' (Kd.R_lt (lR HO_8.out)) k_ hk)); (case aO => exact (by (with_reducible repeat (first | apply Kd.R_alloc | apply Kd.R_drewN | apply Kd.R_drew)); exact Kd.R_mono HO252.out (fun _ hk => hk.2))); (case aS => exact (below_size lB)); (case aL => have := LMc19.out; omega); intro v259 w24 ho hb hg hat; rw [← Ny258.out] at ho; have n0_ := Aside0.mk (Kd.R_after (ok := (fun _ => True)) (lR HO_8.out) hg hat); have n1_ := Aside0.mk (blk_grown (lK BK2.out) hg (Kd.R_ne HO252.out BK2.out (by decide))); have n2_ := Aside0.mk (Kd.R_over' (lR HO248.out) (Kd.R_typed (lR HO252.out)) (by decide) hg); have n3_ := Aside0.mk (hb); have n4_ := Aside0.mk ((show Kd.C (Kd.int .i64) w24 A23 y254.length y254 from by rw [Ny254.out, KA23.out]; exact Kd.C_drop (m := 1) (c := co20) ((Kd.R_reads' (Kd.R_after (ok := (fun _ => True)) (lR HO_8.out) hg hat)).2.2) KL23.out ((Kd.R_reads' (Kd.R_after (ok := (fun _ => True)) (lR HO_8.out) hg hat)).2.1))); have n5_ := Aside0.mk (ho); clear HO_8; clear BK2; clear HO248; clear HB; clear HR257; clear HO252; have HO_8 := n0_; have BK2 := n1_; have HO248 := n2_; have HB := n3_; have HR257 := n4_; have HO260 := n5_; clear n0_ n1_ n2_ n3_ n4_ n5_; clear ho hb hg hat))
           go_roundg k1
           case measure => have := HK1.out; omega
           case rel => exact ⟨(y246), (y258), H', ⟨by have := HK1.out; omega⟩, ⟨lR HO248.out⟩, ⟨by (with_reducible repeat (first | apply Kd.R_alloc | apply Kd.R_drewN | apply Kd.R_drew)); exact Kd.R_mono HO260.out (fun _ hk => trivial)⟩, ⟨lK BK2.out⟩, ⟨lB⟩⟩
          ·rw [if_neg c19] at H
           exact absurd H (by simp)
         ·rw [if_neg c18] at H
          exact absurd H (by simp)
        ·rw [if_neg c16] at H
         exact absurd H (by simp)
       ·rw [if_neg c15] at H
        exact absurd H (by simp)
     ·rw [if_neg c11] at H
      exact absurd H (by simp)
    ·rw [if_neg c9] at H
     exact absurd H (by simp)
   ·rw [if_neg c8] at H
    have c8b0 : decide (0 < (x8_1.length : Int)) = false := decide_eq_false c8
    have c8b1 : decide (0 < x8_1.length) = false := decide_eq_false (by omega)
    clear c8
    obtain rfl := Option.some.inj H
    obtain ⟨Ao25, co25, eo25⟩ := Kd.R_slice HO_8.out
    subst eo25
    first | (go_wp2; go_ret; exact ⟨_, lE, lR HO_7.out, lB⟩) | (exfalso; simp only [decide_eq_false_iff_not, decide_eq_true_eq] at *; omega)

/-! ### impl_lay_45: function 38, handed 45 -/
def impl_lay_45.l0 : Nat → List Int → List (S57) → List (S63) → List Int → List (S57) → List Int → Option ((List (S63)))
 | 0, _, _, _, _, _, _ => none
 | k + 1, x0, x1, x7, x8, x3000, x4000 => if (x8.length : Int) > 0 then (if 0 < (x8.length : Int) then ((impl_GreedyCover_1.f k (rd x8 0) x3000 x4000).bind fun t268 => (if x7.length < 8796093022208 then ((some (x7 ++ [(⟨rd x8 0, t268⟩ : S63)] : List (S63))).bind fun y269 => (if t268 < 0 then (some y269) else (if 0 ≤ t268 then (if t268 < (x1.length : Int) then ((impl_fits.f k x0 (rd x8 0) ((rd_T57 x1 t268).f0) ((rd_T57 x1 t268).f1)).bind fun bt273 => (if 1 ≤ (x8.length : Int) then ((some (x8.drop 1 : List Int)).bind fun y277 => (if bt273.1.length + y277.length < 17592186044416 then (impl_lay_45.l0 k x0 x1 y269 (bt273.1 ++ y277) x3000 x4000) else (none))) else (none))) else (none)) else (none)))) else (none))) else (none)) else (some x7)
def impl_lay_45.f (k : Nat) (l0 : List Int) (l1 : List (S57)) (l2_0 : List (S57)) (l3_0 : List Int) : Option ((List (S63))) := impl_lay_45.l0 k l0 l1 (([] : List (S63))) (([0] : List Int)) l2_0 l3_0
theorem impl_lay_45.mono_l : ∀ k, (∀ y0 y1 y2 y3 y4 y5, LeO (impl_lay_45.l0 k y0 y1 y2 y3 y4 y5) (impl_lay_45.l0 (k + 1) y0 y1 y2 y3 y4 y5))
 | 0 => fun _ _ _ _ _ _ r h => by simp [impl_lay_45.l0] at h
 | k + 1 => by
  have ih0 := impl_lay_45.mono_l k
  ·intro y0 y1 y2 y3 y4 y5
   unfold impl_lay_45.l0
   repeat' first
   | with_reducible apply ih0
   | with_reducible apply impl_GreedyCover_1.mono
   | with_reducible apply impl_fits.mono
   | (with_reducible exact LeO.refl _)
   | (with_reducible exact LeO.none _)
   | (with_reducible refine LeO.ite ?_ ?_)
   | (with_reducible refine LeO.bind ?_ (fun _ => ?_))
   | apply ih0
   | apply impl_GreedyCover_1.mono
   | apply impl_fits.mono
   | exact LeO.none _
   | refine LeO.ite ?_ ?_
   | refine LeO.bind ?_ (fun _ => ?_)
theorem impl_lay_45.mono : ∀ a0 a1 a2 a3 k, LeO (impl_lay_45.f k a0 a1 a2 a3) (impl_lay_45.f (k + 1) a0 a1 a2 a3) := by
 intro a0 a1 a2 a3 k
 have ih0 := impl_lay_45.mono_l k
 unfold impl_lay_45.f
 repeat' first
   | with_reducible apply ih0
   | with_reducible apply impl_GreedyCover_1.mono
   | with_reducible apply impl_fits.mono
   | (with_reducible exact LeO.refl _)
   | (with_reducible exact LeO.none _)
   | (with_reducible refine LeO.ite ?_ ?_)
   | (with_reducible refine LeO.bind ?_ (fun _ => ?_))
   | apply ih0
   | apply impl_GreedyCover_1.mono
   | apply impl_fits.mono
   | exact LeO.none _
   | refine LeO.ite ?_ ?_
   | refine LeO.bind ?_ (fun _ => ?_)
set_option maxHeartbeats 8000000 in
set_option maxRecDepth 100000 in
theorem impl_lay_45.calls (k : Nat) (A0 : Option Addr) (c0 : Nat) (l0 : List Int) (A1 : Option Addr) (c1 : Nat) (l1 : List (S57)) (g2 : Nat) (A2_0 : Option Addr) (c2_0 : Nat) (l2_0 : List (S57)) (g3 : Nat) (A3_0 : Option Addr) (c3_0 : Nat) (l3_0 : List Int) (r : List (S63)) (w : World) (hr0 : Kd.C (Kd.int .i64) w A0 l0.length l0) (hc0 : l0.length ≤ c0) (hr1 : Kd.C k57 w A1 l1.length l1) (hc1 : l1.length ≤ c1) (hb2 : w.heap[g2]? = some (.cells #[.slice A2_0 l2_0.length c2_0] 29 (0, 0))) (hr2_0 : Kd.C k57 w A2_0 l2_0.length l2_0) (hc2_0 : l2_0.length ≤ c2_0) (hb3 : w.heap[g3]? = some (.cells #[.slice A3_0 l3_0.length c3_0] 22 (0, 0))) (hr3_0 : Kd.C (Kd.int .i64) w A3_0 l3_0.length l3_0) (hc3_0 : l3_0.length ≤ c3_0) (h : impl_lay_45.f k l0 l1 l2_0 l3_0 = some r) :
  Calls Try.prog 38 #[.slice A0 l0.length c0, .slice A1 l1.length c1, .func (.func 45) #[] #[.pointer (some ⟨g2, 0, none⟩), .pointer (some ⟨g3, 0, none⟩)]] w fun e w' => ∃ v0_ : Value, e = .returned (v0_) ∧ Kd.R k63 63 w' w.heap.size (fun _ => True) v0_ r ∧ Below w.heap.size w w' := by
 have hu63 := Try.underlying63
 have hu57 := Try.underlying57
 have HR0 := Aside0.mk hr0
 have HC0 := Aside0.mk hc0
 clear hr0 hc0
 have HR1 := Aside0.mk hr1
 have HC1 := Aside0.mk hc1
 clear hr1 hc1
 have HR2_0 := Aside0.mk hr2_0
 have HC2_0 := Aside0.mk hc2_0
 clear hr2_0 hc2_0
 have HR3_0 := Aside0.mk hr3_0
 have HC3_0 := Aside0.mk hc3_0
 clear hr3_0 hc3_0
 have BK2 := Aside0.mk hb2
 clear hb2
 have BK3 := Aside0.mk hb3
 clear hb3
 have HB := Aside0.mk (Below.refl w.heap.size w)
 have H : (impl_lay_45.l0 k l0 l1 (([] : List (S63))) (([0] : List Int)) l2_0 l3_0) = some r := h
 clear h
 obtain ⟨y261, hy261⟩ : ∃ y_ : List (S63), y_ = (([] : List (S63))) := ⟨_, rfl⟩
 replace H : (impl_lay_45.l0 k l0 l1 y261 (([0] : List Int)) l2_0 l3_0) = some r := by first | (rw [hy261]; with_reducible exact H) | (have H2_ := (Option.bind_some _ _).symm.trans H; rw [hy261]; with_reducible exact H2_) | (have H2_ := (Option.bind_some _ _).symm.trans H; with_reducible exact H2_) | with_reducible exact H | (rw [hy261]; exact H) | exact H
 have Ny261 := Aside0.mk hy261
 clear hy261
 obtain ⟨y264, hy264⟩ : ∃ y_ : List Int, y_ = (([0] : List Int)) := ⟨_, rfl⟩
 replace H : (impl_lay_45.l0 k l0 l1 y261 y264 l2_0 l3_0) = some r := by first | (rw [hy264]; with_reducible exact H) | (have H2_ := (Option.bind_some _ _).symm.trans H; rw [hy264]; with_reducible exact H2_) | (have H2_ := (Option.bind_some _ _).symm.trans H; with_reducible exact H2_) | with_reducible exact H | (rw [hy264]; exact H) | exact H
 have Ny264 := Aside0.mk hy264
 clear hy264
 have H' := Aside0.mk H
 clear H
 go_enter Try.func38, Try.ntmps38
 go_wp2_with (first | ((with_reducible refine gate_dst (N := 13) rfl ?_); refine Kd.R_lit k63 _ 63 ?hg (N := 13) ?hd (xs := ([] : List (S63))) (inner := []) (ok := fun _ => True) (okp := fun _ => True) ?hr ?hp (fun _ hk => hk) trivial (Below.refl _ _) (Nat.le_refl _) (by simp) ?_; (case hd => rfl); (case hg => rfl); (case hr => first | (go_simp; done) | (go_simp; rfl)); (case hp => exact (Reps.none _ _)); intro v262 w5 ho6 hb hg_ hnew_; clear hg_ hnew_; (first | rw [← Ny261.out] at ho6 | (simp only [Int.reduceToNat] at ho6; rw [← Ny261.out] at ho6)); have n0_ := Aside0.mk (Kd.R_lower ho6 (below_size lB)); have n1_ := Aside0.mk (blk_below (lK BK2.out) hb); have n2_ := Aside0.mk (blk_below (lK BK3.out) hb); have n3_ := Aside0.mk (below_step lB hb); clear BK2; clear BK3; clear HB; have HO263 := n0_; have BK2 := n1_; have BK3 := n2_; have HB := n3_; clear n0_ n1_ n2_ n3_; clear hb ho6) | ((with_reducible refine gate_dst (N := 14) rfl ?_); refine Kd.R_lit (Kd.int .i64) _ 3 ?hg (N := 14) ?hd (xs := ([0] : List Int)) (inner := [.int .i64 0]) (ok := fun _ => True) (okp := fun _ => True) ?hr ?hp (fun _ hk => hk) trivial (Below.refl _ _) (Nat.le_refl _) (by simp) ?_; (case hd => rfl); (case hg => rfl); (case hr => first | (go_simp; done) | (go_simp; rfl)); (case hp => exact (Reps.one (show Kd.M (Kd.int .i64) _ _ _ 0 [.int .i64 0] from rfl) (Reps.none _ _))); intro v265 w7 ho8 hb hg_ hnew_; clear hg_ hnew_; (first | rw [← Ny264.out] at ho8 | (simp only [Int.reduceToNat] at ho8; rw [← Ny264.out] at ho8)); have n0_ := Aside0.mk (Kd.R_below (lR HO263.out) hb); have n1_ := Aside0.mk (Kd.R_lower ho8 (below_size lB)); have n2_ := Aside0.mk (blk_below (lK BK2.out) hb); have n3_ := Aside0.mk (blk_below (lK BK3.out) hb); have n4_ := Aside0.mk (below_step lB hb); clear HO263; clear BK2; clear BK3; clear HB; have HO263 := n0_; have HO266 := n1_; have BK2 := n2_; have BK3 := n3_; have HB := n4_; clear n0_ n1_ n2_ n3_ n4_; clear hb ho8))
 go_loopg [7, 8] k (fun kq v7 v8 w' => ∃ (x7_1 : List (S63)) (x8_1 : List Int), Aside0 (impl_lay_45.l0 kq l0 l1 x7_1 x8_1 l2_0 l3_0 = some r) ∧ Aside0 (kq ≤ k) ∧ Aside0 (Kd.R k63 63 w' w.heap.size (fun _ => True) v7 x7_1) ∧ Aside0 (Kd.R (Kd.int .i64) 3 w' w.heap.size (fun _ => True) v8 x8_1) ∧ Aside0 (w'.heap[g2]? = some (.cells #[(.slice A2_0 l2_0.length c2_0)] 29 (0, 0))) ∧ Aside0 (w'.heap[g3]? = some (.cells #[(.slice A3_0 l3_0.length c3_0)] 22 (0, 0))) ∧ Aside0 (Below w.heap.size w w'))
 case atStart => exact ⟨(y261), (y264), H', ⟨Nat.le_refl _⟩, ⟨lR HO263.out⟩, ⟨lR HO266.out⟩, ⟨lK BK2.out⟩, ⟨lK BK3.out⟩, ⟨lB⟩⟩
 case round =>
  clear H'
  try clear c1
  try clear c2
  try clear p2
  try clear c3
  obtain ⟨x7_1, x8_1, HA, HK1, HO_7, HO_8, BK2, BK3, HB⟩ := hrel
  cases gk with
  | zero => exact absurd HA.out (by simp [impl_lay_45.l0])
  | succ k1 =>
   have H := HA.out
   clear HA
   simp only [impl_lay_45.l0] at H
   by_cases c9 : (x8_1.length : Int) > 0
   ·rw [if_pos c9] at H
    have c9b0 : decide (0 < (x8_1.length : Int)) = true := decide_eq_true c9
    have c9b1 : decide (0 < x8_1.length) = true := decide_eq_true (by omega)
    clear c9
    by_cases c10 : 0 < (x8_1.length : Int)
    ·rw [if_pos c10] at H
     have c10b0 : decide (0 < (x8_1.length : Int)) = true := decide_eq_true c10
     have c10b1 : decide (0 < x8_1.length) = true := decide_eq_true (by omega)
     clear c10
     replace H := lO H
     obtain ⟨t268, A11, H⟩ := H
     by_cases c12 : x7_1.length < 8796093022208
     ·rw [if_pos c12] at H
      have LMc12 := Aside0.mk c12
      clear c12
      obtain ⟨y269, hy269⟩ : ∃ y_ : List (S63), y_ = (x7_1 ++ [(⟨rd x8_1 0, t268⟩ : S63)]) := ⟨_, rfl⟩
      replace H : (if t268 < 0 then (some y269) else (if 0 ≤ t268 then (if t268 < (l1.length : Int) then ((impl_fits.f k1 l0 (rd x8_1 0) ((rd_T57 l1 t268).f0) ((rd_T57 l1 t268).f1)).bind fun bt273 => (if 1 ≤ (x8_1.length : Int) then ((some (x8_1.drop 1 : List Int)).bind fun y277 => (if bt273.1.length + y277.length < 17592186044416 then (impl_lay_45.l0 k1 l0 l1 y269 (bt273.1 ++ y277) l2_0 l3_0) else (none))) else (none))) else (none)) else (none))) = some r := by first | (rw [hy269]; with_reducible exact H) | (have H2_ := (Option.bind_some _ _).symm.trans H; rw [hy269]; with_reducible exact H2_) | (have H2_ := (Option.bind_some _ _).symm.trans H; with_reducible exact H2_) | with_reducible exact H | (rw [hy269]; exact H) | exact H
      have Ny269 := Aside0.mk hy269
      clear hy269
      by_cases c13 : t268 < 0
      ·rw [if_pos c13] at H
       have c13b0 : decide (t268 < 0) = true := decide_eq_true c13
       clear c13
       obtain rfl := Option.some.inj H
       obtain ⟨Ao14, co14, eo14⟩ := Kd.R_slice HO_8.out
       subst eo14
       have p267 : 0 ≤ (0 : Int) := (by omega)
       have q267 : 0 < (x8_1.length : Int) := lD
       obtain ⟨ad267, e267, hx267_0⟩ := Kd.at_int (Kd.R_reads' HO_8.out).2.2 0 p267 q267
       cases e267
       have qi267 : (0 < x8_1.length) = True := eq_true (by omega)
       (try rw [show ((0 : Int)).toNat = 0 from rfl] at hx267_0)
       (try rw [Addr.add_zero'] at hx267_0)
       replace p267 := eq_true p267
       replace q267 := eq_true q267
       go_wp2_with (first | ((with_reducible refine gate_val rfl ?_); refine glc_ (some 23) (enters_of Try.func45 (by kernel_rfl) rfl) #[.int .i64 (rd x8_1 0)] #[.pointer (some ⟨g2, 0, none⟩), .pointer (some ⟨g3, 0, none⟩)] #[.int .i64 (rd x8_1 0), .pointer (some ⟨g2, 0, none⟩), .pointer (some ⟨g3, 0, none⟩)] ?_; (with_reducible refine (impl_GreedyCover_1.calls k1 (rd x8_1 0) g2 A2_0 c2_0 l2_0 g3 A3_0 c3_0 l3_0 t268 _ ?side1 ?side2 ?side3 ?side4 ?side5 ?side6 A11.out).mono ?_); (case side1 => exact (lK BK2.out)); (case side2 => exact lC (Kd.C_below HR2_0.out HB.out)); (case side3 => exact HC2_0.out); (case side4 => exact (lK BK3.out)); (case side5 => exact lC (Kd.C_below HR3_0.out HB.out)); (case side6 => exact HC3_0.out); rintro e w15 ⟨rfl, hb⟩; refine ⟨_, rfl, ?_⟩; have n0_ := Aside0.mk (Kd.R_below (lR HO_7.out) hb); have n1_ := Aside0.mk (Kd.R_below (lR HO_8.out) hb); have n2_ := Aside0.mk (blk_below (lK BK2.out) hb); have n3_ := Aside0.mk (blk_below (lK BK3.out) hb); have n4_ := Aside0.mk (below_step lB hb); clear HO_7; clear HO_8; clear BK2; clear BK3; clear HB; have HO_7 := n0_; have HO_8 := n1_; have BK2 := n2_; have BK3 := n3_; have HB := n4_; clear n0_ n1_ n2_ n3_ n4_; (try clear hb); (try clear hb2); (try clear hk); (try clear hi)) | ((with_reducible refine gate_builtin (b := .append) (xs := #[.tmp 24, .tmp 28]) rfl ?_); at_builtin; refine Kd.R_append k63 (w0 := w) w.heap.size rfl (.tmp 24) (.tmp 28) 25 63 (.agg #[(.int .i64 0), (.int .i64 0)]) 16 rfl Try.underlying25 info63 rfl (by decide) (by omega) u7 x7_1 (⟨rd x8_1 0, t268⟩ : S63) [.int .i64 (rd x8_1 0), .int .i64 t268] (fun _ => True) (fun _ => False) rfl rfl ?aP (fun _ hk => hk.elim) ?aF ?aO ?aB ?aS ?aL ?_; (case aP => exact k63_mkM _ _ _ (⟨rd x8_1 0, t268⟩ : S63)); (case aB => exact lB); (case aF => exact (fun _ _ => trivial)); (case aO => exact (lR HO_7.out)); (case aS => exact (below_size lB)); (case aL => have := LMc12.out; omega); intro v270 w16 ho hb hg hat; rw [← Ny269.out] at ho; have n0_ := Aside0.mk (Kd.R_over' (lR HO_8.out) (Kd.R_typed (lR HO_7.out)) (by decide) hg); have n1_ := Aside0.mk (blk_grown (lK BK2.out) hg (Kd.R_ne HO_7.out BK2.out (by decide))); have n2_ := Aside0.mk (blk_grown (lK BK3.out) hg (Kd.R_ne HO_7.out BK3.out (by decide))); have n3_ := Aside0.mk (hb); have n4_ := Aside0.mk (ho); clear HO_8; clear BK2; clear BK3; clear HB; clear HO_7; have HO_8 := n0_; have BK2 := n1_; have BK3 := n2_; have HB := n3_; have HO271 := n4_; clear n0_ n1_ n2_ n3_ n4_; clear ho hb hg hat))
       go_ret
       exact ⟨_, lE, lR HO271.out, lB⟩
      ·rw [if_neg c13] at H
       have c13b0 : decide (t268 < 0) = false := decide_eq_false c13
       clear c13
       by_cases c17 : 0 ≤ t268
       ·rw [if_pos c17] at H
        have c17b0 : decide (0 ≤ t268) = true := decide_eq_true c17
        clear c17
        by_cases c18 : t268 < (l1.length : Int)
        ·rw [if_pos c18] at H
         have c18b0 : decide (t268 < (l1.length : Int)) = true := decide_eq_true c18
         clear c18
         replace H := Option.bind_eq_some_iff.mp H
         obtain ⟨⟨t273, t276⟩, A190, H⟩ := H
         replace H : (if 1 ≤ (x8_1.length : Int) then ((some (x8_1.drop 1 : List Int)).bind fun y277 => (if t273.length + y277.length < 17592186044416 then (impl_lay_45.l0 k1 l0 l1 y269 (t273 ++ y277) l2_0 l3_0) else (none))) else (none)) = some r := H
         have A19 := Aside0.mk A190
         clear A190
         by_cases c20 : 1 ≤ (x8_1.length : Int)
         ·rw [if_pos c20] at H
          have c20b0 := eq_true c20
          have c20b1 : decide (1 ≤ (x8_1.length : Int)) = true := decide_eq_true c20
          clear c20
          obtain ⟨y277, hy277⟩ : ∃ y_ : List Int, y_ = (x8_1.drop 1) := ⟨_, rfl⟩
          replace H : (if t273.length + y277.length < 17592186044416 then (impl_lay_45.l0 k1 l0 l1 y269 (t273 ++ y277) l2_0 l3_0) else (none)) = some r := by first | (rw [hy277]; with_reducible exact H) | (have H2_ := (Option.bind_some _ _).symm.trans H; rw [hy277]; with_reducible exact H2_) | (have H2_ := (Option.bind_some _ _).symm.trans H; with_reducible exact H2_) | with_reducible exact H | (rw [hy277]; exact H) | exact H
          have Ny277 := Aside0.mk hy277
          clear hy277
          by_cases c21 : t273.length + y277.length < 17592186044416
          ·rw [if_pos c21] at H
           have LMc21 := Aside0.mk c21
           clear c21
           obtain ⟨y281, hy281⟩ : ∃ y_ : List Int, y_ = (t273 ++ y277) := ⟨_, rfl⟩
           replace H : (impl_lay_45.l0 k1 l0 l1 y269 y281 l2_0 l3_0) = some r := by first | (rw [hy281]; with_reducible exact H) | (have H2_ := (Option.bind_some _ _).symm.trans H; rw [hy281]; with_reducible exact H2_) | (have H2_ := (Option.bind_some _ _).symm.trans H; with_reducible exact H2_) | with_reducible exact H | (rw [hy281]; exact H) | exact H
           have Ny281 := Aside0.mk hy281
           clear hy281
           have H' := Aside0.mk H
           clear H
           obtain ⟨Ao22, co22, eo22⟩ := Kd.R_slice HO_8.out
           subst eo22
           have p267 : 0 ≤ (0 : Int) := (by omega)
           have q267 : 0 < (x8_1.length : Int) := lD
           obtain ⟨ad267, e267, hx267_0⟩ := Kd.at_int (Kd.R_reads' HO_8.out).2.2 0 p267 q267
           cases e267
           have qi267 : (0 < x8_1.length) = True := eq_true (by omega)
           (try rw [show ((0 : Int)).toNat = 0 from rfl] at hx267_0)
           (try rw [Addr.add_zero'] at hx267_0)
           replace p267 := eq_true p267
           replace q267 := eq_true q267
           go_wp2_with (first | ((with_reducible refine gate_val rfl ?_); refine glc_ (some 23) (enters_of Try.func45 (by kernel_rfl) rfl) #[.int .i64 (rd x8_1 0)] #[.pointer (some ⟨g2, 0, none⟩), .pointer (some ⟨g3, 0, none⟩)] #[.int .i64 (rd x8_1 0), .pointer (some ⟨g2, 0, none⟩), .pointer (some ⟨g3, 0, none⟩)] ?_; (with_reducible refine (impl_GreedyCover_1.calls k1 (rd x8_1 0) g2 A2_0 c2_0 l2_0 g3 A3_0 c3_0 l3_0 t268 _ ?side1 ?side2 ?side3 ?side4 ?side5 ?side6 A11.out).mono ?_); (case side1 => exact (lK BK2.out)); (case side2 => exact lC (Kd.C_below HR2_0.out HB.out)); (case side3 => exact HC2_0.out); (case side4 => exact (lK BK3.out)); (case side5 => exact lC (Kd.C_below HR3_0.out HB.out)); (case side6 => exact HC3_0.out); rintro e w23 ⟨rfl, hb⟩; refine ⟨_, rfl, ?_⟩; have n0_ := Aside0.mk (Kd.R_below (lR HO_7.out) hb); have n1_ := Aside0.mk (Kd.R_below (lR HO_8.out) hb); have n2_ := Aside0.mk (blk_below (lK BK2.out) hb); have n3_ := Aside0.mk (blk_below (lK BK3.out) hb); have n4_ := Aside0.mk (below_step lB hb); clear HO_7; clear HO_8; clear BK2; clear BK3; clear HB; have HO_7 := n0_; have HO_8 := n1_; have BK2 := n2_; have BK3 := n3_; have HB := n4_; clear n0_ n1_ n2_ n3_ n4_; (try clear hb); (try clear hb2); (try clear hk); (try clear hi)) | ((with_reducible refine gate_builtin (b := .append) (xs := #[.tmp 24, .tmp 28]) rfl ?_); at_builtin; refine Kd.R_append k63 (w0 := w) w.heap.size rfl (.tmp 24) (.tmp 28) 25 63 (.agg #[(.int .i64 0), (.int .i64 0)]) 16 rfl Try.underlying25 info63 rfl (by decide) (by omega) u7 x7_1 (⟨rd x8_1 0, t268⟩ : S63) [.int .i64 (rd x8_1 0), .int .i64 t268] (fun _ => True) (fun _ => False) rfl rfl ?aP (fun _ hk => hk.elim) ?aF ?aO ?aB ?aS ?aL ?_; (case aP => exact k63_mkM _ _ _ (⟨rd x8_1 0, t268⟩ : S63)); (case aB => exact lB); (case aF => exact (fun _ _ => trivial)); (case aO => exact (lR HO_7.out)); (case aS => exact (below_size lB)); (case aL => have := LMc12.out; omega); intro v270 w24 ho hb hg hat; rw [← Ny269.out] at ho; have n0_ := Aside0.mk (Kd.R_over' (lR HO_8.out) (Kd.R_typed (lR HO_7.out)) (by decide) hg); have n1_ := Aside0.mk (blk_grown (lK BK2.out) hg (Kd.R_ne HO_7.out BK2.out (by decide))); have n2_ := Aside0.mk (blk_grown (lK BK3.out) hg (Kd.R_ne HO_7.out BK3.out (by decide))); have n3_ := Aside0.mk (hb); have n4_ := Aside0.mk (ho); clear HO_8; clear BK2; clear BK3; clear HB; clear HO_7; have HO_8 := n0_; have BK2 := n1_; have BK3 := n2_; have HB := n3_; have HO271 := n4_; clear n0_ n1_ n2_ n3_ n4_; clear ho hb hg hat; have p272 : 0 ≤ (t268 : Int) := lD; have q272 : t268 < (l1.length : Int) := lD; obtain ⟨ad272, A272_0, c272_0, e272, hx272_0, hx272_1, hl272_0, hi272_0⟩ := at_T57 HR1.out t268 p272 q272; cases e272; replace hx272_0 := pw_cell_below HB.out hx272_0; replace hx272_1 := pw_cell_below HB.out hx272_1; have HR272_0 := Aside0.mk hi272_0; have HC272_0 := Aside0.mk hl272_0; clear hi272_0 hl272_0; replace p272 := eq_true p272; replace q272 := eq_true q272) | ((with_reducible refine gate_callee (f := 46) rfl ?_); refine gl_ (some 39) (Try.func46) #[.slice A0 l0.length c0, .int .i64 (rd x8_1 0), .agg #[.slice A272_0 ((rd_T57 l1 t268).f0).length c272_0, .int .i64 ((rd_T57 l1 t268).f1)]] ?_; (with_reducible refine (impl_fits.calls k1 _ _ l0 (rd x8_1 0) _ _ ((rd_T57 l1 t268).f0) ((rd_T57 l1 t268).f1) t273 t276 _ ?side1 ?side2 ?side3 ?side4 A19.out).mono ?_); (case side1 => exact lC (Kd.C_below HR0.out HB.out)); (case side2 => exact HC0.out); (case side3 => exact lC (Kd.C_below HR272_0.out HB.out)); (case side4 => exact HC272_0.out); rintro e w25 ⟨v274, rfl, ho0, hb⟩; refine ⟨_, rfl, ?_⟩; have n0_ := Aside0.mk (Kd.R_elder' (lR HO_8.out) (Kd.R_base ho0) hb); have n1_ := Aside0.mk (Kd.R_below (lR HO271.out) hb); have n2_ := Aside0.mk (Kd.R_lower (Kd.R_new' ho0 (Kd.R_lt (lR HO_8.out))) (below_size lB)); have n3_ := Aside0.mk (blk_below (lK BK2.out) hb); have n4_ := Aside0.mk (blk_below (lK BK3.out) hb); have n5_ := Aside0.mk (below_step lB hb); clear HO_8; clear HO271; clear BK2; clear BK3; clear HB; have HO_8 := n0_; have HO271 := n1_; have HO275 := n2_; have BK2 := n3_; have BK3 := n4_; have HB := n5_; clear n0_ n1_ n2_ n3_ n4_ n5_; (try clear hb); (try clear hb2); (try clear hk); (try clear hi); (try clear ho0); have q26 : (1 : Int) ≤ ((x8_1.length : Int) : Int) := lD; obtain ⟨i026, hi026, _, hsz26, _⟩ := info_parts info3; have hroom26 : x8_1.length ≤ co22 := (Kd.R_reads' HO_8.out).2.1; have hC26 : Kd.C (Kd.int .i64) _ (some ad267) x8_1.length x8_1 := (Kd.R_reads' HO_8.out).2.2; have hcut26 := cut_from (P := Try.prog) 22 3 .i64 Try.underlying22 hi026 1 hsz26 (some ad267) x8_1.length co22 1 (by omega) q26; have hr26 := Kd.C_drop (m := (1 : Int).toNat) (c := co22) hC26 (by omega) hroom26; obtain ⟨A26, hA26⟩ : ∃ A1, A1 = (if co22 = (1 : Int).toNat then (some ad267) else ((some ad267) : Option Addr).map (·.add ((1 : Int).toNat * 1))) := ⟨_, rfl⟩; obtain ⟨c26, hc26⟩ : ∃ c1, c1 = co22 - (1 : Int).toNat := ⟨_, rfl⟩; have hy26 : y277.length = x8_1.length - (1 : Int).toNat := (by rw [Ny277.out, List.length_drop] <;> omega); rw [show (x8_1).drop (1 : Int).toNat = y277 from Ny277.out.symm] at hr26; replace hr26 : Kd.C (Kd.int .i64) _ A26 y277.length y277 := (by rw [hA26]; exact hr26); rw [← hy26, ← hA26, ← hc26] at hcut26; have HR280 := Aside0.mk hr26; have HC280 := Aside0.mk (show y277.length ≤ c26 from by rw [hy26, hc26]; exact Nat.sub_le_sub_right hroom26 _); clear hr26 hC26 hroom26 hi026 hsz26 hc26; have KY26 := Aside0.mk hy26; have KA26 := Aside0.mk hA26; clear hy26 hA26; have KL26 := Aside0.mk (show 1 ≤ x8_1.length from by omega); replace q26 := eq_true q26) | ((with_reducible refine gate_builtin (b := .append) (xs := #[.tmp 42, .tmp 44]) rfl ?_); at_builtin; refine Kd.R_append_rows (Kd.int .i64) (w0 := w) w.heap.size rfl (.tmp 42) (.tmp 44) 22 3 (.int .i64 0) 8 rfl Try.underlying22 info3 rfl (by decide) (by omega) v274 t273 y277 _ _ _ (fun k_ => some k_ ≠ (.slice (some ad267) x8_1.length co22 : Value).ownBlock) (fun _ => False) rfl rfl ?aO ?aR (fun _ _ h => h) (fun _ h => h.elim) ?aF ?aB ?aS ?aL ?_; (case aR => repeat (first | exact (by repeat (first | (with_reducible exact HR280.out) | (with_reducible refine Kd.C_alloc ?_ _) | (with_reducible refine Kd.C_drewN ?_ _) | (with_reducible refine Kd.C_drew ?_) | exact HR280.out)) | (with_reducible refine Kd.C_alloc ?_ _) | (with_reducible refine Kd.C_drewN ?_ _) | (with_reducible refine Kd.C_drew ?_))); (case aB => exact lB); (case aF => exact (fun k_ hk => Kd.fresh' (Kd.R_lt (lR HO_8.out)) k_ hk)); (case aO => exact (by (with_reducible repeat (first | apply Kd.R_alloc | apply Kd.R_drewN | apply Kd.R_drew)); exact Kd.R_mono HO275.out (fun _ hk => hk.2))); (case aS => exact (below_size lB)); (case aL => have := LMc21.out; omega); intro v282 w27 ho hb hg hat; rw [← Ny281.out] at ho; have n0_ := Aside0.mk (Kd.R_after (ok := (fun _ => True)) (lR HO_8.out) hg hat); have n1_ := Aside0.mk (blk_grown (lK BK2.out) hg (Kd.R_ne HO275.out BK2.out (by decide))); have n2_ := Aside0.mk (blk_grown (lK BK3.out) hg (Kd.R_ne HO275.out BK3.out (by decide))); have n3_ := Aside0.mk (Kd.R_over' (lR HO271.out) (Kd.R_typed (lR HO275.out)) (by decide) hg); have n4_ := Aside0.mk (hb); have n5_ := Aside0.mk ((show Kd.C (Kd.int .i64) w27 A26 y277.length y277 from by rw [Ny277.out, KA26.out]; exact Kd.C_drop (m := 1) (c := co22) ((Kd.R_reads' (Kd.R_after (ok := (fun _ => True)) (lR HO_8.out) hg hat)).2.2) KL26.out ((Kd.R_reads' (Kd.R_after (ok := (fun _ => True)) (lR HO_8.out) hg hat)).2.1))); have n6_ := Aside0.mk (ho); clear HO_8; clear BK2; clear BK3; clear HO271; clear HB; clear HR280; clear HO275; have HO_8 := n0_; have BK2 := n1_; have BK3 := n2_; have HO271 := n3_; have HB := n4_; have HR280 := n5_; have HO283 := n6_; clear n0_ n1_ n2_ n3_ n4_ n5_ n6_; clear ho hb hg hat))
           go_roundg k1
           case measure => have := HK1.out; omega
           case rel => exact ⟨(y269), (y281), H', ⟨by have := HK1.out; omega⟩, ⟨lR HO271.out⟩, ⟨by (with_reducible repeat (first | apply Kd.R_alloc | apply Kd.R_drewN | apply Kd.R_drew)); exact Kd.R_mono HO283.out (fun _ hk => trivial)⟩, ⟨lK BK2.out⟩, ⟨lK BK3.out⟩, ⟨lB⟩⟩
          ·rw [if_neg c21] at H
           exact absurd H (by simp)
         ·rw [if_neg c20] at H
          exact absurd H (by simp)
        ·rw [if_neg c18] at H
         exact absurd H (by simp)
       ·rw [if_neg c17] at H
        exact absurd H (by simp)
     ·rw [if_neg c12] at H
      exact absurd H (by simp)
    ·rw [if_neg c10] at H
     exact absurd H (by simp)
   ·rw [if_neg c9] at H
    have c9b0 : decide (0 < (x8_1.length : Int)) = false := decide_eq_false c9
    have c9b1 : decide (0 < x8_1.length) = false := decide_eq_false (by omega)
    clear c9
    obtain rfl := Option.some.inj H
    obtain ⟨Ao28, co28, eo28⟩ := Kd.R_slice HO_8.out
    subst eo28
    first | (go_wp2; go_ret; exact ⟨_, lE, lR HO_7.out, lB⟩) | (exfalso; simp only [decide_eq_false_iff_not, decide_eq_true_eq] at *; omega)

/-! ### impl_BestCover: function 10 -/
def impl_BestCover.j0 : Nat → List Int → List (S57) → Bool → Option ((List (S63)) × Int × Bool)
 | 0, _, _, _ => none
 | k + 1, x0, x1, x16 => if x16 = true then (some (([] : List (S63)), 0, false)) else ((impl_covers.f k x0 x1).bind fun bt286 => (if 0 < (bt286.2.length : Int) then (if (rd bt286.2 0) < 0 then (some (([] : List (S63)), 0, false)) else ((impl_lay_39.f k x0 x1 bt286.2).bind fun t294 => (if 0 < (bt286.1.length : Int) then (some (t294, rd bt286.1 0, true)) else (none)))) else (none)))
def impl_BestCover.f (k : Nat) (l0 : List Int) (l1 : List (S57)) : Option ((List (S63)) × Int × Bool) := (impl_isTree.f k l0).bind fun t284 => (if t284 = true then ((impl_arePatterns.f k l1).bind fun t285 => (impl_BestCover.j0 k l0 l1 (!t285))) else (impl_BestCover.j0 k l0 l1 true))
theorem impl_BestCover.mono_l : ∀ k, (∀ y0 y1 y2, LeO (impl_BestCover.j0 k y0 y1 y2) (impl_BestCover.j0 (k + 1) y0 y1 y2))
 | 0 => fun _ _ _ r h => by simp [impl_BestCover.j0] at h
 | k + 1 => by
  have ih0 := impl_BestCover.mono_l k
  ·intro y0 y1 y2
   unfold impl_BestCover.j0
   repeat' first
   | with_reducible apply ih0
   | with_reducible apply impl_arePatterns.mono
   | with_reducible apply impl_covers.mono
   | with_reducible apply impl_isTree.mono
   | with_reducible apply impl_lay_39.mono
   | (with_reducible exact LeO.refl _)
   | (with_reducible exact LeO.none _)
   | (with_reducible refine LeO.ite ?_ ?_)
   | (with_reducible refine LeO.bind ?_ (fun _ => ?_))
   | apply ih0
   | apply impl_arePatterns.mono
   | apply impl_covers.mono
   | apply impl_isTree.mono
   | apply impl_lay_39.mono
   | exact LeO.none _
   | refine LeO.ite ?_ ?_
   | refine LeO.bind ?_ (fun _ => ?_)
theorem impl_BestCover.mono : ∀ a0 a1 k, LeO (impl_BestCover.f k a0 a1) (impl_BestCover.f (k + 1) a0 a1) := by
 intro a0 a1 k
 have ih0 := impl_BestCover.mono_l k
 unfold impl_BestCover.f
 repeat' first
   | with_reducible apply ih0
   | with_reducible apply impl_arePatterns.mono
   | with_reducible apply impl_covers.mono
   | with_reducible apply impl_isTree.mono
   | with_reducible apply impl_lay_39.mono
   | (with_reducible exact LeO.refl _)
   | (with_reducible exact LeO.none _)
   | (with_reducible refine LeO.ite ?_ ?_)
   | (with_reducible refine LeO.bind ?_ (fun _ => ?_))
   | apply ih0
   | apply impl_arePatterns.mono
   | apply impl_covers.mono
   | apply impl_isTree.mono
   | apply impl_lay_39.mono
   | exact LeO.none _
   | refine LeO.ite ?_ ?_
   | refine LeO.bind ?_ (fun _ => ?_)
def impl_BestCover.T6 : Bool × List (List Nat × List Nat) := (true, [([], []), ([], []), ([], []), ([0, 1, 2], [0, 1, 2]), ([], []), ([4], [4]), ([5], [5]), ([3, 3, 0, 1, 2, 3], [3]), ([6, 7, 0, 1, 2, 3, 4, 5, 6, 7], [6]), ([8, 0, 1, 2, 3, 4, 5, 6, 7, 8], [])])
def impl_BestCover.B6 : List Nat := [0, 0, 0, 7, 0, 16, 48, 15, 255, 511]
theorem impl_BestCover.tab6 : rtab .any (opsOf Try.f10 6) = impl_BestCover.T6 := by kernel_rfl
theorem impl_BestCover.bits6 : waitsOk impl_BestCover.T6.2 impl_BestCover.B6 = true := by kernel_rfl
set_option maxHeartbeats 8000000 in
set_option maxRecDepth 100000 in
theorem impl_BestCover.calls (k : Nat) (A0 : Option Addr) (c0 : Nat) (l0 : List Int) (A1 : Option Addr) (c1 : Nat) (l1 : List (S57)) (r1 : List (S63)) (r2 : Int) (r3 : Bool) (w : World) (hr0 : Kd.C (Kd.int .i64) w A0 l0.length l0) (hc0 : l0.length ≤ c0) (hr1 : Kd.C k57 w A1 l1.length l1) (hc1 : l1.length ≤ c1) (h : impl_BestCover.f k l0 l1 = some (r1, r2, r3)) :
  Calls Try.prog 10 #[.slice A0 l0.length c0, .slice A1 l1.length c1] w fun e w' => ∃ v0_ : Value, e = .returned (.tuple #[v0_, .int .i64 r2, .bool r3]) ∧ Kd.R k63 63 w' w.heap.size (fun _ => True) v0_ r1 ∧ Below w.heap.size w w' := by
 have HR0 := Aside0.mk hr0
 have HC0 := Aside0.mk hc0
 clear hr0 hc0
 have HR1 := Aside0.mk hr1
 have HC1 := Aside0.mk hc1
 clear hr1 hc1
 have HB := Aside0.mk (Below.refl w.heap.size w)
 have H : ((impl_isTree.f k l0).bind fun t284 => (if t284 = true then ((impl_arePatterns.f k l1).bind fun t285 => (impl_BestCover.j0 k l0 l1 (!t285))) else (impl_BestCover.j0 k l0 l1 true))) = some (r1, r2, r3) := h
 clear h
 have HC3 := Aside0.mk H
 clear H
 go_enter Try.func10, Try.ntmps10
 go_upto_region 1 with (fail)
 go_cut [16] (fun v16 wc => ∃ (kq : Nat) (x16_2 : Bool), v16 = .bool x16_2 ∧ Aside0 (impl_BestCover.j0 kq l0 l1 x16_2 = some (r1, r2, r3)) ∧ Aside0 (kq ≤ k) ∧ Aside0 (Below w.heap.size w wc))
 case first =>
  have H := HC3.out
  clear HC3
  replace H := lO H
  obtain ⟨t284, A4, H⟩ := H
  by_cases c5 : t284 = true
  ·subst c5
   rw [if_pos rfl] at H
   replace H := lO H
   obtain ⟨t285, A6, H⟩ := H
   have H' := Aside0.mk H
   clear H
   go_wp2_with (first | ((with_reducible refine gate_callee (f := 35) rfl ?_); refine gl_ (some 10) (Try.func35) #[.slice A0 l0.length c0] ?_; (with_reducible refine (impl_isTree.calls k _ _ l0 true _ ?side1 ?side2 A4.out).mono ?_); (case side1 => exact lC (Kd.C_below HR0.out HB.out)); (case side2 => exact HC0.out); rintro e w' ⟨rfl, ⟨nd, rfl⟩⟩; refine ⟨_, rfl, ?_⟩) | (go_at_call 36; (with_reducible refine (impl_arePatterns.calls k _ _ l1 t285 _ ?side1 ?side2 A6.out).mono ?_); (case side1 => repeat (first | exact (Kd.C_below HR1.out lB) | (with_reducible refine Kd.C_alloc ?_ _) | (with_reducible refine Kd.C_drewN ?_ _) | (with_reducible refine Kd.C_drew ?_))); (case side2 => exact HC1.out); rintro e w7 ⟨rfl, hb⟩; have n0_ := Aside0.mk (below_step lB hb); clear HB; have HB := n0_; clear n0_; (try clear hb); (try clear hb2); (try clear hk); (try clear hi)))
   go_meet
   case rel => exact ⟨_, (!t285), lF, H', ⟨lN⟩, ⟨lB⟩⟩
  ·replace c5 := Bool.eq_false_iff.mpr c5
   subst c5
   rw [if_neg (show ¬ (false = true) by decide)] at H
   have H' := Aside0.mk H
   clear H
   go_wp2_with (first | ((with_reducible refine gate_callee (f := 35) rfl ?_); refine gl_ (some 10) (Try.func35) #[.slice A0 l0.length c0] ?_; (with_reducible refine (impl_isTree.calls k _ _ l0 false _ ?side1 ?side2 A4.out).mono ?_); (case side1 => exact lC (Kd.C_below HR0.out HB.out)); (case side2 => exact HC0.out); rintro e w' ⟨rfl, ⟨nd, rfl⟩⟩; refine ⟨_, rfl, ?_⟩))
   go_meet
   case rel => exact ⟨_, (true), lF, H', ⟨lN⟩, ⟨lB⟩⟩
 case rest =>
  clear HC3
  try clear c1
  try clear p2
  try clear c3
  try clear c5
  obtain ⟨kq, x16_2, rfl, HA, HJ2, HB⟩ := hcut
  cases kq with
  | zero => exact absurd HA.out (by simp [impl_BestCover.j0])
  | succ kj2 =>
   have H := HA.out
   clear HA
   simp only [impl_BestCover.j0] at H
   by_cases c8 : x16_2 = true
   ·subst c8
    rw [if_pos rfl] at H
    simp only [Option.some.injEq, Prod.mk.injEq] at H
    obtain ⟨rfl, rfl, rfl⟩ := H
    go_wp2
    go_ret3
    exact ⟨_, lE, by first | exact Kd.R_nil _ _ _ _ _ | exact Kd.N_nil _ _ _ _ _ | exact Kd.V_nil _ _ _ _ _ | exact Kd.Q_nil _ _ _ _ _ | exact Kd.S_nil _ _ _ _ _, lB⟩
   ·replace c8 := Bool.eq_false_iff.mpr c8
    subst c8
    rw [if_neg (show ¬ (false = true) by decide)] at H
    replace H := Option.bind_eq_some_iff.mp H
    obtain ⟨⟨t286, t287⟩, A90, H⟩ := H
    replace H : (if 0 < (t287.length : Int) then (if (rd t287 0) < 0 then (some (([] : List (S63)), 0, false)) else ((impl_lay_39.f kj2 l0 l1 t287).bind fun t294 => (if 0 < (t286.length : Int) then (some (t294, rd t286 0, true)) else (none)))) else (none)) = some (r1, r2, r3) := H
    have A9 := Aside0.mk A90
    clear A90
    by_cases c10 : 0 < (t287.length : Int)
    ·rw [if_pos c10] at H
     have c10b0 : decide (0 < (t287.length : Int)) = true := decide_eq_true c10
     have c10b1 : decide (0 < t287.length) = true := decide_eq_true (by omega)
     clear c10
     by_cases c11 : (rd t287 0) < 0
     ·rw [if_pos c11] at H
      have c11b0 : decide ((rd t287 0) < 0) = true := decide_eq_true c11
      clear c11
      simp only [Option.some.injEq, Prod.mk.injEq] at H
      obtain ⟨rfl, rfl, rfl⟩ := H
      go_wp2_with (first | ((with_reducible refine gate_callee (f := 37) rfl ?_); refine gl_ (some 20) (Try.func37) #[.slice A0 l0.length c0, .slice A1 l1.length c1] ?_; (with_reducible refine (impl_covers.calls kj2 _ _ l0 _ _ l1 t286 t287 _ ?side1 ?side2 ?side3 ?side4 A9.out).mono ?_); (case side1 => exact lC (Kd.C_below HR0.out HB.out)); (case side2 => exact HC0.out); (case side3 => exact lC (Kd.C_below HR1.out HB.out)); (case side4 => exact HC1.out); rintro e w12 ⟨v288, v290, rfl, ho0, ho1, hb⟩; refine ⟨_, rfl, ?_⟩; have n0_ := Aside0.mk (Kd.R_lower ho0 (below_size lB)); have n1_ := Aside0.mk (Kd.R_lower ho1 (below_size lB)); have n2_ := Aside0.mk (below_step lB hb); clear HB; have HO289 := n0_; have HO291 := n1_; have HB := n2_; clear n0_ n1_ n2_; (try clear hb); (try clear hb2); (try clear hk); (try clear hi); (try clear ho0); (try clear ho1)) | ((with_reducible refine gate_dst (N := 8) rfl ?_); refine bxe 8 #[.slice none 0 0] 22 ?_; intro gb292 hg w13 hbox hb; have n0_ := Aside0.mk (Kd.R_below (lR HO289.out) hb); have n1_ := Aside0.mk (Kd.R_below (lR HO291.out) hb); have n2_ := Aside0.mk (below_step lB hb); have n3_ := Aside0.mk (hbox); have n4_ := lG w hg; have n5_ := lG w hg; clear HO289; clear HO291; clear HB; have HO289 := n0_; have HO291 := n1_; have HB := n2_; have BK292 := n3_; have GW292 := n4_; have GE292 := n5_; clear n0_ n1_ n2_ n3_ n4_ n5_; clear hb hbox hg; obtain ⟨Ao14, co14, eo14⟩ := Kd.R_slice HO291.out; subst eo14; obtain ⟨hcz15_0, hfz15_0⟩ := bk1 BK292.out; have p293 : 0 ≤ (0 : Int) := (by omega); have q293 : 0 < (t287.length : Int) := lD; obtain ⟨ad293, e293, hx293_0⟩ := Kd.at_int (Kd.R_reads' HO291.out).2.2 0 p293 q293; cases e293; have qi293 : (0 < t287.length) = True := eq_true (by omega); (try rw [show ((0 : Int)).toNat = 0 from rfl] at hx293_0); (try rw [Addr.add_zero'] at hx293_0); have hn293_0 : ad293.block ≠ gb292 := Kd.own_blk (Kd.R_ne HO291.out BK292.out (by decide)); replace hx293_0 := (cell_far (p := ⟨gb292, 0, none⟩) (by first | (rw [add_block]; exact hn293_0) | (show (Addr.add _ _).block ≠ _; rw [add_block]; exact hn293_0) | exact hn293_0) (.slice (some ad293) t287.length co14)).trans hx293_0; clear hn293_0; replace p293 := eq_true p293; replace q293 := eq_true q293))
      go_ret3
      exact ⟨_, lE, by first | exact Kd.R_nil _ _ _ _ _ | exact Kd.N_nil _ _ _ _ _ | exact Kd.V_nil _ _ _ _ _ | exact Kd.Q_nil _ _ _ _ _ | exact Kd.S_nil _ _ _ _ _, lB⟩
     ·rw [if_neg c11] at H
      have c11b0 : decide ((rd t287 0) < 0) = false := decide_eq_false c11
      clear c11
      replace H := lO H
      obtain ⟨t294, A16, H⟩ := H
      by_cases c17 : 0 < (t286.length : Int)
      ·rw [if_pos c17] at H
       have c17b0 : decide (0 < (t286.length : Int)) = true := decide_eq_true c17
       have c17b1 : decide (0 < t286.length) = true := decide_eq_true (by omega)
       clear c17
       simp only [Option.some.injEq, Prod.mk.injEq] at H
       obtain ⟨rfl, rfl, rfl⟩ := H
       try go_wp2_with (first | ((with_reducible refine gate_callee (f := 37) rfl ?_); refine gl_ (some 20) (Try.func37) #[.slice A0 l0.length c0, .slice A1 l1.length c1] ?_; (with_reducible refine (impl_covers.calls kj2 _ _ l0 _ _ l1 t286 t287 _ ?side1 ?side2 ?side3 ?side4 A9.out).mono ?_); (case side1 => exact lC (Kd.C_below HR0.out HB.out)); (case side2 => exact HC0.out); (case side3 => exact lC (Kd.C_below HR1.out HB.out)); (case side4 => exact HC1.out); rintro e w18 ⟨v288, v290, rfl, ho0, ho1, hb⟩; refine ⟨_, rfl, ?_⟩; have n0_ := Aside0.mk (Kd.R_lower ho0 (below_size lB)); have n1_ := Aside0.mk (Kd.R_lower ho1 (below_size lB)); have n2_ := Aside0.mk (below_step lB hb); clear HB; have HO289 := n0_; have HO291 := n1_; have HB := n2_; clear n0_ n1_ n2_; (try clear hb); (try clear hb2); (try clear hk); (try clear hi); (try clear ho0); (try clear ho1)) | ((with_reducible refine gate_dst (N := 8) rfl ?_); refine bxe 8 #[.slice none 0 0] 22 ?_; intro gb292 hg w19 hbox hb; have n0_ := Aside0.mk (Kd.R_below (lR HO289.out) hb); have n1_ := Aside0.mk (Kd.R_below (lR HO291.out) hb); have n2_ := Aside0.mk (below_step lB hb); have n3_ := Aside0.mk (hbox); have n4_ := lG w hg; have n5_ := lG w hg; clear HO289; clear HO291; clear HB; have HO289 := n0_; have HO291 := n1_; have HB := n2_; have BK292 := n3_; have GW292 := n4_; have GE292 := n5_; clear n0_ n1_ n2_ n3_ n4_ n5_; clear hb hbox hg; obtain ⟨Ao20, co20, eo20⟩ := Kd.R_slice HO291.out; subst eo20; obtain ⟨hcz21_0, hfz21_0⟩ := bk1 BK292.out; have p293 : 0 ≤ (0 : Int) := (by omega); have q293 : 0 < (t287.length : Int) := lD; obtain ⟨ad293, e293, hx293_0⟩ := Kd.at_int (Kd.R_reads' HO291.out).2.2 0 p293 q293; cases e293; have qi293 : (0 < t287.length) = True := eq_true (by omega); (try rw [show ((0 : Int)).toNat = 0 from rfl] at hx293_0); (try rw [Addr.add_zero'] at hx293_0); have hn293_0 : ad293.block ≠ gb292 := Kd.own_blk (Kd.R_ne HO291.out BK292.out (by decide)); replace hx293_0 := (cell_far (p := ⟨gb292, 0, none⟩) (by first | (rw [add_block]; exact hn293_0) | (show (Addr.add _ _).block ≠ _; rw [add_block]; exact hn293_0) | exact hn293_0) (.slice (some ad293) t287.length co20)).trans hx293_0; clear hn293_0; replace p293 := eq_true p293; replace q293 := eq_true q293))
       have n0_ : Aside0 (Kd.R (Kd.int .i64) 3 (w19.setCell ⟨gb292, 0, none⟩ (.slice (some ad293) t287.length co20)) w.heap.size (fun k_ => some k_ ≠ (.slice (some ad293) t287.length co20 : Value).ownBlock) v288 t286) := ⟨by (with_reducible repeat (first | apply Kd.R_alloc | apply Kd.R_drewN | apply Kd.R_drew)); exact Kd.R_mono (Kd.R_far (p := ⟨gb292, 0, none⟩) (Kd.R_types HO289.out BK292.out (by decide)) (fun _ hk => hk.2) (.slice (some ad293) t287.length co20)) (fun _ hk => hk.1)⟩
       have n1_ : Aside0 (Kd.R (Kd.int .i64) 3 (w19.setCell ⟨gb292, 0, none⟩ (.slice (some ad293) t287.length co20)) w.heap.size (fun k_ => some k_ ≠ (v288 : Value).ownBlock) (.slice (some ad293) t287.length co20) t287) := ⟨by (with_reducible repeat (first | apply Kd.R_alloc | apply Kd.R_drewN | apply Kd.R_drew)); exact Kd.R_mono (Kd.R_far (p := ⟨gb292, 0, none⟩) (Kd.R_types HO291.out BK292.out (by decide)) (fun _ hk => hk.2) (.slice (some ad293) t287.length co20)) (fun _ hk => hk.1)⟩
       have n2_ : Aside0 ((w19.setCell ⟨gb292, 0, none⟩ (.slice (some ad293) t287.length co20)).heap[gb292]? = some (.cells #[.slice (some ad293) t287.length co20] 22 (0, 0))) := ⟨by (with_reducible repeat first | apply bN | apply bD | apply bA); refine blk_put (cs := #[.slice none 0 0]) ?_ 0 _ rfl; (with_reducible repeat first | apply bN | apply bD | apply bA); exact BK292.out⟩
       have n3_ : Aside0 (Below w.heap.size w (w19.setCell ⟨gb292, 0, none⟩ (.slice (some ad293) t287.length co20))) := ⟨lB⟩
       (try clear HO289)
       (try clear HO291)
       (try clear BK292)
       (try clear HB)
       generalize (w19.setCell ⟨gb292, 0, none⟩ (.slice (some ad293) t287.length co20)) = w22 at n0_ n1_ n2_ n3_ ⊢
       have HO289 := n0_
       have HO291 := n1_
       have BK292 := n2_
       have HB := n3_
       clear n0_ n1_ n2_ n3_
       have n0_ := Aside0.mk (Kd.R_drew HO289.out)
       have n1_ := Aside0.mk (Kd.R_drew HO291.out)
       have n2_ := Aside0.mk (blk_drew BK292.out)
       have n3_ := Aside0.mk (below_drew1 HB.out)
       clear HO289
       clear HO291
       clear BK292
       clear HB
       have HO289 := n0_
       have HO291 := n1_
       have BK292 := n2_
       have HB := n3_
       clear n0_ n1_ n2_ n3_
       obtain ⟨Ao24, co24, eo24⟩ := Kd.R_slice HO289.out
       (first | subst eo24 | (injection eo24 with f1_ f2_ f3_; have f4_ := f1_.symm; have f5_ := f3_.symm; clear f1_ f2_ f3_; subst f4_; subst f5_))
       have p297 : 0 ≤ (0 : Int) := (by omega)
       have q297 : 0 < (t286.length : Int) := lD
       obtain ⟨ad297, e297, hx297_0⟩ := Kd.at_int (Kd.R_reads' HO289.out).2.2 0 p297 q297
       cases e297
       have qi297 : (0 < t286.length) = True := eq_true (by omega)
       (try rw [show ((0 : Int)).toNat = 0 from rfl] at hx297_0)
       (try rw [Addr.add_zero'] at hx297_0)
       replace p297 := eq_true p297
       replace q297 := eq_true q297
       refine start_ (n := 10) (S := fun w' => w'.cell? ad297 = some (.int .i64 (rd t286 0))) (ds := []) (bs 10 0) kR rfl kR (hx297_0) (fun hHeld => ?_); refine with_tabW impl_BestCover.tab6 impl_BestCover.bits6 (fun HT_ HW_ => ?_)
       generalize w22.drew = w23 at HO289 HO291 BK292 HB hx297_0 hHeld ⊢
       refine pur_ 0 27 (bs 10 1) (any_of HT_.out kR) ?_
       refine pur_ 1 28 (bs 10 3) (any_of HT_.out kR) ?_
       refine pur_ 2 29 (bs 10 7) (any_of HT_.out kR) ?_
       refine pur_ 4 31 (bs 10 23) (any_of HT_.out kR) ?_
       refine pur_ 5 32 (bs 10 55) (any_of HT_.out kR) ?_
       refine tak_ 6 33 (bs 10 119) (take_ofW HT_.out HW_.out kR) hHeld ?_
       refine one_ (i := 3) (N := some 30) (bs 10 127) rfl rfl (one_of HT_.out (by kernel_rfl)) (by decide) (fun K hK => ?_)
       refine goes_ Try.func38 (by kernel_rfl) rfl #[.slice A0 l0.length c0, .slice A1 l1.length c1, .func (.func 39) #[] #[.pointer (some ⟨gb292, 0, none⟩)]] (by rfl) rfl rfl (by (try simp only [List.map_toArray, List.map_cons, List.map_nil]); first | done | rfl | (simp only [List.length_drop, List.length_take]; rfl)) ?_
       with_reducible refine (impl_lay_39.calls kj2 _ _ l0 _ _ l1 gb292 (some ad293) co20 t287 t294 _ ?side1 ?side2 ?side3 ?side4 ?side5 ?side6 ?side7 A16.out).mono ?_
       (case side1 => exact lC (Kd.C_below HR0.out HB.out))
       (case side2 => exact HC0.out)
       (case side3 => exact lC (Kd.C_below HR1.out HB.out))
       (case side4 => exact HC1.out)
       (case side5 => exact (lK BK292.out))
       (case side6 => repeat (first | exact (Kd.R_reads' HO291.out).2.2 | (with_reducible refine Kd.C_alloc ?_ _) | (with_reducible refine Kd.C_drewN ?_ _) | (with_reducible refine Kd.C_drew ?_)))
       (case side7 => exact (Kd.R_reads' HO291.out).2.1)
       rintro e w25 ⟨v295, rfl, ho0, hb⟩
       have HS0_ := (hb.cell (World.block_lt_of_cell? _ _ (hHeld))).trans (hHeld)
       refine ⟨_, rfl, ?_⟩
       have n0_ := Aside0.mk (Kd.R_below (lR HO289.out) hb)
       have n1_ := Aside0.mk (Kd.R_below (lR HO291.out) hb)
       have n2_ := Aside0.mk (Kd.R_lower ho0 (below_size lB))
       have n3_ := Aside0.mk (blk_below (lK BK292.out) hb)
       have n4_ := Aside0.mk (below_step lB hb)
       clear HO289
       clear HO291
       clear BK292
       clear HB
       have HO289 := n0_
       have HO291 := n1_
       have HO296 := n2_
       have BK292 := n3_
       have HB := n4_
       clear n0_ n1_ n2_ n3_ n4_
       (try clear hb)
       (try clear hb2)
       (try clear hk)
       (try clear hi)
       (try clear ho0)
       refine hK.out _ _ (HS0_) (fun hHeld => ?_)
       clear hK K
       refine norm_ (a' := ?_) ?_ ?_
       rotate_left
       ·show Act.put _ (some 30) _ = _
        simp only [Act.put, List.setIfInBounds_toArray, List.set_cons_zero, List.set_cons_succ, i64_w, i32_w]
        rfl
       refine pur_ 7 4 (bs 10 255) (any_of HT_.out kR) ?_
       refine pur_ 8 5 (bs 10 511) (any_of HT_.out kR) ?_
       refine pur_ 9 6 (bs 10 1023) (any_of HT_.out kR) ?_
       refine done_ (done_of HT_.out (by kernel_rfl)) ?_
       try go_wp2
       go_ret3
       exact ⟨_, lE, lR HO296.out, lB⟩
      ·rw [if_neg c17] at H
       exact absurd H (by simp)
    ·rw [if_neg c10] at H
     exact absurd H (by simp)

end Go.Proofs.Ytfdbdbihhgabpaa.Q
