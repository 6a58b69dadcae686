-- Written by the program wip/tools/pr.py of this claim's session, over the kit's print.py.
import Derived.Test.YtjmgleomljfieaaQx0
namespace Go.Proofs.Ytjmgleomljfieaa.Q
open Go.RowKit Go.Proofs.YtjmgleomljfieaaW.PrintWords Go.Proofs.YtjmgleomljfieaaW.PrintLast Go.Proofs.YtjmgleomljfieaaW.PrintMore
attribute [local go_sem] max2_int min2_int max_two min_two max_three min_three max_four min_four   -- for this text's walks alone
set_option linter.unusedVariables false
set_option linter.unusedSimpArgs false

/-! ### spec_l1In: function 54 -/
def spec_l1In.f (a0 : Int) (a1 : Int) (a2 : Int) : Option (Bool) := if a0 ≥ a1 then (some (decide (a0 ≤ a2))) else (some false)
set_option maxHeartbeats 8000000 in
set_option maxRecDepth 100000 in
theorem spec_l1In.calls (a0 : Int) (a1 : Int) (a2 : Int) (r : Bool) (w : World) (h : spec_l1In.f a0 a1 a2 = some r) :
  Calls Try.prog 54 #[.int .i64 a0, .int .i64 a1, .int .i64 a2] w fun e w' => e = .returned (.bool r) ∧ Drawn0 w w' := by
 have H : (if a0 ≥ a1 then (some (decide (a0 ≤ a2))) else (some false)) = some r := h
 clear h
 by_cases c4 : a0 ≥ a1
 ·rw [if_pos c4] at H
  have c4b0 : decide (a1 ≤ a0) = true := decide_eq_true c4
  clear c4
  obtain rfl := Option.some.inj H
  go_enter Try.func54, Try.ntmps54
  first | (go_wp2; go_ret; exact ⟨by first | rfl | (simp; done) | (simp [*]; done), by repeat (first | exact Drawn0.refl _ | apply Drawn0.step)⟩) | (exfalso; simp only [decide_eq_false_iff_not, decide_eq_true_eq] at *; omega)
 ·rw [if_neg c4] at H
  have c4b0 : decide (a1 ≤ a0) = false := decide_eq_false c4
  clear c4
  obtain rfl := Option.some.inj H
  go_enter Try.func54, Try.ntmps54
  first | (go_wp2; go_ret; exact ⟨by first | rfl | (simp; done) | (simp [*]; done), by repeat (first | exact Drawn0.refl _ | apply Drawn0.step)⟩) | (exfalso; simp only [decide_eq_false_iff_not, decide_eq_true_eq] at *; omega)

/-! ### spec_GoodWorld: function 14 -/
mutual
def spec_GoodWorld.l0 : Nat → List (S82) → Int → Int → List (S82) → Int → Option (Bool)
 | 0, _, _, _, _, _ => none
 | k + 1, x8, x9, x10, x102000, x102001 => if x10 < x9 then (if 0 ≤ x10 then (if x10 < (x8.length : Int) then (if ((rd_T82 x8 x10).f0) < (-1) then (spec_GoodWorld.j1 k x8 x9 x10 true x102000 x102001 ((rd_T82 x8 x10).f0) ((rd_T82 x8 x10).f1)) else (if ((rd_T82 x8 x10).f0) ≥ x10 then (spec_GoodWorld.j1 k x8 x9 x10 true x102000 x102001 ((rd_T82 x8 x10).f0) ((rd_T82 x8 x10).f1)) else (spec_GoodWorld.j1 k x8 x9 x10 ((((rd_T82 x8 x10).f1).length : Int) != 5) x102000 x102001 ((rd_T82 x8 x10).f0) ((rd_T82 x8 x10).f1)))) else (none)) else (none)) else ((spec_l1In.f (x102000.length : Int) 1 8).bind fun t102 => (if t102 = true then ((spec_l1In.f x102001 0 1000000).bind fun t103 => (some t103)) else (some false)))
def spec_GoodWorld.j1 : Nat → List (S82) → Int → Int → Bool → List (S82) → Int → Int → List Int → Option (Bool)
 | 0, _, _, _, _, _, _, _, _ => none
 | k + 1, x8, x9, x10, x29, x102000, x102001, x106000, x106001 => if x29 = true then (some false) else (spec_GoodWorld.l1 k x8 x9 x10 x106001 (x106001.length : Int) 0 x102000 x102001)
def spec_GoodWorld.l1 : Nat → List (S82) → Int → Int → List Int → Int → Int → List (S82) → Int → Option (Bool)
 | 0, _, _, _, _, _, _, _, _ => none
 | k + 1, x8, x9, x10, x31, x32, x33, x102000, x102001 => if x33 < x32 then (if 0 ≤ x33 then (if x33 < (x31.length : Int) then ((spec_l1In.f (rd x31 x33) 0 1000).bind fun t107 => (if t107 = true then (spec_GoodWorld.l1 k x8 x9 x10 x31 x32 (wrap64 (x33 + 1)) x102000 x102001) else (some false))) else (none)) else (none)) else (spec_GoodWorld.l0 k x8 x9 (wrap64 (x10 + 1)) x102000 x102001)
end
def spec_GoodWorld.f (k : Nat) (l0_0 : List (S82)) (a0_1 : Int) : Option (Bool) := spec_GoodWorld.l0 k l0_0 (l0_0.length : Int) 0 l0_0 a0_1
theorem spec_GoodWorld.mono_l : ∀ k, (∀ y0 y1 y2 y3 y4, LeO (spec_GoodWorld.l0 k y0 y1 y2 y3 y4) (spec_GoodWorld.l0 (k + 1) y0 y1 y2 y3 y4)) ∧ (∀ y0 y1 y2 y3 y4 y5 y6 y7, LeO (spec_GoodWorld.j1 k y0 y1 y2 y3 y4 y5 y6 y7) (spec_GoodWorld.j1 (k + 1) y0 y1 y2 y3 y4 y5 y6 y7)) ∧ (∀ y0 y1 y2 y3 y4 y5 y6 y7, LeO (spec_GoodWorld.l1 k y0 y1 y2 y3 y4 y5 y6 y7) (spec_GoodWorld.l1 (k + 1) y0 y1 y2 y3 y4 y5 y6 y7))
 | 0 => ⟨fun _ _ _ _ _ r h => by simp [spec_GoodWorld.l0] at h, fun _ _ _ _ _ _ _ _ r h => by simp [spec_GoodWorld.j1] at h, fun _ _ _ _ _ _ _ _ r h => by simp [spec_GoodWorld.l1] at h⟩
 | k + 1 => by
  obtain ⟨ih0, ih1, ih2⟩ := spec_GoodWorld.mono_l k
  refine ⟨?_, ?_, ?_⟩
  ·intro y0 y1 y2 y3 y4
   unfold spec_GoodWorld.l0
   repeat' first
   | with_reducible apply ih0
   | with_reducible apply ih1
   | with_reducible apply ih2
   | (with_reducible exact LeO.refl _)
   | (with_reducible exact LeO.none _)
   | (with_reducible refine LeO.ite ?_ ?_)
   | (with_reducible refine LeO.bind ?_ (fun _ => ?_))
   | apply ih0
   | apply ih1
   | apply ih2
   | exact LeO.none _
   | refine LeO.ite ?_ ?_
   | refine LeO.bind ?_ (fun _ => ?_)
  ·intro y0 y1 y2 y3 y4 y5 y6 y7
   unfold spec_GoodWorld.j1
   repeat' first
   | with_reducible apply ih0
   | with_reducible apply ih1
   | with_reducible apply ih2
   | (with_reducible exact LeO.refl _)
   | (with_reducible exact LeO.none _)
   | (with_reducible refine LeO.ite ?_ ?_)
   | (with_reducible refine LeO.bind ?_ (fun _ => ?_))
   | apply ih0
   | apply ih1
   | apply ih2
   | exact LeO.none _
   | refine LeO.ite ?_ ?_
   | refine LeO.bind ?_ (fun _ => ?_)
  ·intro y0 y1 y2 y3 y4 y5 y6 y7
   unfold spec_GoodWorld.l1
   repeat' first
   | with_reducible apply ih0
   | with_reducible apply ih1
   | with_reducible apply ih2
   | (with_reducible exact LeO.refl _)
   | (with_reducible exact LeO.none _)
   | (with_reducible refine LeO.ite ?_ ?_)
   | (with_reducible refine LeO.bind ?_ (fun _ => ?_))
   | apply ih0
   | apply ih1
   | apply ih2
   | exact LeO.none _
   | refine LeO.ite ?_ ?_
   | refine LeO.bind ?_ (fun _ => ?_)
theorem spec_GoodWorld.mono : ∀ a0 a1 k, LeO (spec_GoodWorld.f k a0 a1) (spec_GoodWorld.f (k + 1) a0 a1) := by
 intro a0 a1 k
 obtain ⟨ih0, ih1, ih2⟩ := spec_GoodWorld.mono_l k
 unfold spec_GoodWorld.f
 repeat' first
   | with_reducible apply ih0
   | with_reducible apply ih1
   | with_reducible apply ih2
   | (with_reducible exact LeO.refl _)
   | (with_reducible exact LeO.none _)
   | (with_reducible refine LeO.ite ?_ ?_)
   | (with_reducible refine LeO.bind ?_ (fun _ => ?_))
   | apply ih0
   | apply ih1
   | apply ih2
   | exact LeO.none _
   | refine LeO.ite ?_ ?_
   | refine LeO.bind ?_ (fun _ => ?_)
set_option maxHeartbeats 8000000 in
set_option maxRecDepth 100000 in
theorem spec_GoodWorld.calls (k : Nat) (A0_0 : Option Addr) (c0_0 : Nat) (l0_0 : List (S82)) (a0_1 : Int) (r : Bool) (w : World) (hr0_0 : Kd.C k82 w A0_0 l0_0.length l0_0) (hc0_0 : l0_0.length ≤ c0_0) (h : spec_GoodWorld.f k l0_0 a0_1 = some r) :
  Calls Try.prog 14 #[.agg #[.slice A0_0 l0_0.length c0_0, .int .i64 a0_1]] w fun e w' => e = .returned (.bool r) ∧ Below w.heap.size w w' := by
 have hu29 := Try.underlying29
 have hu82 := Try.underlying82
 have HR0_0 := Aside0.mk hr0_0
 have HC0_0 := Aside0.mk hc0_0
 clear hr0_0 hc0_0
 have HB := Aside0.mk (Below.refl w.heap.size w)
 have H : (spec_GoodWorld.l0 k l0_0 (l0_0.length : Int) 0 l0_0 a0_1) = some r := h
 clear h
 have H' := Aside0.mk H
 clear H
 go_enter Try.func14, Try.ntmps14
 go_wp2_with (first | ((with_reducible refine gate_dst (N := 1) rfl ?_); (try (refine gate_guard (by rfl) ?_; dsimp only)); refine bxe 1 #[.slice A0_0 l0_0.length c0_0, .int .i64 a0_1] 29 ?_; intro gb101 hg w2 hbox hb; have n0_ := Aside0.mk (below_step lB hb); have n1_ := Aside0.mk (hbox); have n2_ := lG w hg; have n3_ := lG w hg; clear HB; have HB := n0_; have BK101 := n1_; have GW101 := n2_; have GE101 := n3_; clear n0_ n1_ n2_ n3_; clear hb hbox hg; obtain ⟨hcz3_0, hfz3_0, hcz3_1, hfz3_1⟩ := bk2 BK101.out))
 go_loopg [10] k (fun kq v10 w' => ∃ (x10_1 : Int), v10 = .int .i64 x10_1 ∧ Aside0 (spec_GoodWorld.l0 kq l0_0 (l0_0.length : Int) x10_1 l0_0 a0_1 = some r) ∧ Aside0 (kq ≤ k) ∧ Aside0 (w'.heap[gb101]? = some (.cells #[(.slice A0_0 l0_0.length c0_0), .int .i64 a0_1] 29 (0, 0))) ∧ Aside0 (Below w.heap.size w w'))
 case atStart => exact ⟨(0), lF, H', ⟨Nat.le_refl _⟩, ⟨lK BK101.out⟩, ⟨lB⟩⟩
 case round =>
  clear H'
  try clear c1
  try clear p2
  try clear hcz3_0 hcz3_1 hfz3_0 hfz3_1
  obtain ⟨x10_1, rfl, HA, HK1, BK101, HB⟩ := hrel
  cases gk with
  | zero => exact absurd HA.out (by simp [spec_GoodWorld.l0])
  | succ k1 =>
   have H := HA.out
   clear HA
   simp only [spec_GoodWorld.l0] at H
   by_cases c4 : x10_1 < (l0_0.length : Int)
   ·rw [if_pos c4] at H
    have c4b0 : decide (x10_1 < (l0_0.length : Int)) = true := decide_eq_true c4
    clear c4
    by_cases c5 : 0 ≤ x10_1
    ·rw [if_pos c5] at H
     have c5b0 : decide (0 ≤ x10_1) = true := decide_eq_true c5
     clear c5
     by_cases c6 : x10_1 < (l0_0.length : Int)
     ·rw [if_pos c6] at H
      have c6b0 : decide (x10_1 < (l0_0.length : Int)) = true := decide_eq_true c6
      clear c6
      have HC7 := Aside0.mk H
      clear H
      have p104 : 0 ≤ (x10_1 : Int) := lD
      have q104 : x10_1 < (l0_0.length : Int) := lD
      obtain ⟨ad104, A104_1, c104_1, e104, hx104_0, hx104_1, hl104_1, hi104_1⟩ := at_T82 HR0_0.out x10_1 p104 q104
      cases e104
      replace hx104_0 := pw_cell_below HB.out hx104_0
      replace hx104_1 := pw_cell_below HB.out hx104_1
      have HR104_1 := Aside0.mk hi104_1
      have HC104_1 := Aside0.mk hl104_1
      clear hi104_1 hl104_1
      replace p104 := eq_true p104
      replace q104 := eq_true q104
      go_upto_region 4 with (first | ((with_reducible refine gate_dst (N := 4) rfl ?_); (try (refine gate_guard (by rfl) ?_; dsimp only)); refine bxe 4 #[.int .i64 0, .slice none 0 0] 82 ?_; intro gb105 hg w8 hbox hb; have n0_ := Aside0.mk (blk_below (lK BK101.out) hb); have n1_ := Aside0.mk (below_step lB hb); have n2_ := Aside0.mk (hbox); have n3_ := lG w hg; have n4_ := lG w hg; have n5_ := Aside0.mk ((by rw [hg]; exact Nat.ne_of_lt (blk_lt (lK BK101.out)) : gb101 ≠ gb105)); have n6_ := Aside0.mk ((by rw [hg]; exact Nat.ne_of_gt (blk_lt (lK BK101.out)) : gb105 ≠ gb101)); clear BK101; clear HB; have BK101 := n0_; have HB := n1_; have BK105 := n2_; have GW105 := n3_; have GE105 := n4_; have NB101_105 := n5_; have NB105_101 := n6_; clear n0_ n1_ n2_ n3_ n4_ n5_ n6_; clear hb hbox hg; have hnb9 := NB105_101.out; have hnc9 := NB101_105.out; obtain ⟨hcz10_0, hfz10_0, hcz10_1, hfz10_1⟩ := bk2 BK105.out))
      (try simp only [Act.put, List.setIfInBounds_toArray, List.set_cons_zero, List.set_cons_succ])
      go_cut [29] (fun v29 wc => ∃ (kq : Nat) (x29_6 : Bool), v29 = .bool x29_6 ∧ Aside0 (spec_GoodWorld.j1 kq l0_0 (l0_0.length : Int) x10_1 x29_6 l0_0 a0_1 ((rd_T82 l0_0 x10_1).f0) ((rd_T82 l0_0 x10_1).f1) = some r) ∧ Aside0 (kq ≤ k1) ∧ Aside0 (wc.heap[gb101]? = some (.cells #[(.slice (some ad104) l0_0.length c0_0), .int .i64 a0_1] 29 (0, 0))) ∧ Aside0 (wc.heap[gb105]? = some (.cells #[.int .i64 ((rd_T82 l0_0 x10_1).f0), (.slice A104_1 ((rd_T82 l0_0 x10_1).f1).length c104_1)] 82 (0, 0))) ∧ Aside0 (Below w.heap.size w wc))
      case first =>
       have H := HC7.out
       clear HC7
       by_cases c11 : ((rd_T82 l0_0 x10_1).f0) < (-1)
       ·rw [if_pos c11] at H
        have c11b0 : decide (((rd_T82 l0_0 x10_1).f0) < (-1)) = true := decide_eq_true c11
        clear c11
        (first | rw [c11b0] | (simp only [i64_w, i32_w]; rw [c11b0]) | skip)
        have H' := Aside0.mk H
        clear H
        have hnb12 := NB105_101.out
        have hnc12 := NB101_105.out
        obtain ⟨hcz13_0, hfz13_0, hcz13_1, hfz13_1⟩ := bk2 BK105.out
        go_wp2
        go_meet
        case rel => exact ⟨_, (true), lF, H', ⟨by have := HK1.out; first | omega | exact Nat.le_refl _⟩, ⟨lJ BK101.out⟩, ⟨by (with_reducible repeat first | apply bN | apply bD | apply bA); refine blk_put (cs := #[.int .i64 ((rd_T82 l0_0 x10_1).f0), .slice none 0 0]) ?_ 1 _ rfl; (with_reducible repeat first | apply bN | apply bD | apply bA); refine blk_put (cs := #[.int .i64 0, .slice none 0 0]) ?_ 0 _ rfl; (with_reducible repeat first | apply bN | apply bD | apply bA); exact BK105.out⟩, ⟨lB⟩⟩
       ·rw [if_neg c11] at H
        have c11b0 : decide (((rd_T82 l0_0 x10_1).f0) < (-1)) = false := decide_eq_false c11
        clear c11
        (first | rw [c11b0] | (simp only [i64_w, i32_w]; rw [c11b0]) | skip)
        by_cases c14 : ((rd_T82 l0_0 x10_1).f0) ≥ x10_1
        ·rw [if_pos c14] at H
         have c14b0 : decide (x10_1 ≤ ((rd_T82 l0_0 x10_1).f0)) = true := decide_eq_true c14
         clear c14
         have H' := Aside0.mk H
         clear H
         have hnb15 := NB105_101.out
         have hnc15 := NB101_105.out
         obtain ⟨hcz16_0, hfz16_0, hcz16_1, hfz16_1⟩ := bk2 BK105.out
         go_wp2
         go_meet
         case rel => exact ⟨_, (true), lF, H', ⟨by have := HK1.out; first | omega | exact Nat.le_refl _⟩, ⟨lJ BK101.out⟩, ⟨by (with_reducible repeat first | apply bN | apply bD | apply bA); refine blk_put (cs := #[.int .i64 ((rd_T82 l0_0 x10_1).f0), .slice none 0 0]) ?_ 1 _ rfl; (with_reducible repeat first | apply bN | apply bD | apply bA); refine blk_put (cs := #[.int .i64 0, .slice none 0 0]) ?_ 0 _ rfl; (with_reducible repeat first | apply bN | apply bD | apply bA); exact BK105.out⟩, ⟨lB⟩⟩
        ·rw [if_neg c14] at H
         have c14b0 : decide (x10_1 ≤ ((rd_T82 l0_0 x10_1).f0)) = false := decide_eq_false c14
         clear c14
         have H' := Aside0.mk H
         clear H
         have hnb17 := NB105_101.out
         have hnc17 := NB101_105.out
         obtain ⟨hcz18_0, hfz18_0, hcz18_1, hfz18_1⟩ := bk2 BK105.out
         go_wp2
         go_meet
         case rel => exact ⟨_, (((((rd_T82 l0_0 x10_1).f1).length : Int) != 5)), lF, H', ⟨by have := HK1.out; first | omega | exact Nat.le_refl _⟩, ⟨lJ BK101.out⟩, ⟨by (with_reducible repeat first | apply bN | apply bD | apply bA); refine blk_put (cs := #[.int .i64 ((rd_T82 l0_0 x10_1).f0), .slice none 0 0]) ?_ 1 _ rfl; (with_reducible repeat first | apply bN | apply bD | apply bA); refine blk_put (cs := #[.int .i64 0, .slice none 0 0]) ?_ 0 _ rfl; (with_reducible repeat first | apply bN | apply bD | apply bA); exact BK105.out⟩, ⟨lB⟩⟩
      case rest =>
       clear HC7
       try clear c1
       try clear p1
       try clear q1
       try clear hx1
       try clear p2
       try clear c4
       try clear c4b0
       try clear c5
       try clear c5b0
       try clear c6
       try clear c6b0
       try clear c9
       try clear c10
       try clear p10
       try clear q10
       try clear hx10
       try clear c11
       try clear c11b0
       try clear c12
       try clear c14
       try clear c14b0
       try clear c15
       try clear c17
       try clear hcz10_0 hcz10_1
       try clear hcz13_0 hcz13_1
       try clear hcz16_0 hcz16_1
       try clear hcz18_0 hcz18_1
       try clear hcz3_0 hcz3_1
       try clear hfz10_0 hfz10_1
       try clear hfz13_0 hfz13_1
       try clear hfz16_0 hfz16_1
       try clear hfz18_0 hfz18_1
       try clear hfz3_0 hfz3_1
       try clear hx104_0
       try clear hx104_1
       try clear p104
       try clear p2
       try clear q104
       obtain ⟨kq, x29_6, rfl, HA, HJ6, BK101, BK105, HB⟩ := hcut
       cases kq with
       | zero => exact absurd HA.out (by simp [spec_GoodWorld.j1])
       | succ kj6 =>
        have H := HA.out
        clear HA
        simp only [spec_GoodWorld.j1] at H
        by_cases c19 : x29_6 = true
        ·subst c19
         rw [if_pos rfl] at H
         obtain rfl := Option.some.inj H
         first | (go_wp2; go_ret; exact ⟨lE, lB⟩) | (exfalso; simp only [decide_eq_false_iff_not, decide_eq_true_eq] at *; omega)
        ·replace c19 := Bool.eq_false_iff.mpr c19
         subst c19
         rw [if_neg (show ¬ (false = true) by decide)] at H
         have H' := Aside0.mk H
         clear H
         have hnb20 := NB105_101.out
         have hnc20 := NB101_105.out
         obtain ⟨hcz21_0, hfz21_0, hcz21_1, hfz21_1⟩ := bk2 BK105.out
         go_wp2
         go_loopg [33] kj6 (fun kq v33 w' => ∃ (x33_3 : Int), v33 = .int .i64 x33_3 ∧ Aside0 (spec_GoodWorld.l1 kq l0_0 (l0_0.length : Int) x10_1 ((rd_T82 l0_0 x10_1).f1) (((rd_T82 l0_0 x10_1).f1).length : Int) x33_3 l0_0 a0_1 = some r) ∧ Aside0 (kq ≤ kj6) ∧ Aside0 (w'.heap[gb101]? = some (.cells #[(.slice (some ad104) l0_0.length c0_0), .int .i64 a0_1] 29 (0, 0))) ∧ Aside0 (w'.heap[gb105]? = some (.cells #[.int .i64 ((rd_T82 l0_0 x10_1).f0), (.slice A104_1 ((rd_T82 l0_0 x10_1).f1).length c104_1)] 82 (0, 0))) ∧ Aside0 (Below w.heap.size w w'))
         case atStart => exact ⟨(0), lF, H', ⟨Nat.le_refl _⟩, ⟨lK BK101.out⟩, ⟨lK BK105.out⟩, ⟨lB⟩⟩
         case round =>
          clear H'
          try clear c1
          try clear p1
          try clear q1
          try clear hx1
          try clear c2
          try clear p2
          try clear c4
          try clear c4b0
          try clear c5
          try clear c5b0
          try clear c6
          try clear c6b0
          try clear c9
          try clear c10
          try clear p10
          try clear q10
          try clear hx10
          try clear c11
          try clear c11b0
          try clear c12
          try clear c14
          try clear c14b0
          try clear c15
          try clear c17
          try clear c19
          try clear c20
          try clear hcz10_0 hcz10_1
          try clear hcz13_0 hcz13_1
          try clear hcz16_0 hcz16_1
          try clear hcz18_0 hcz18_1
          try clear hcz21_0 hcz21_1
          try clear hcz3_0 hcz3_1
          try clear hfz10_0 hfz10_1
          try clear hfz13_0 hfz13_1
          try clear hfz16_0 hfz16_1
          try clear hfz18_0 hfz18_1
          try clear hfz21_0 hfz21_1
          try clear hfz3_0 hfz3_1
          try clear hx104_0
          try clear hx104_1
          try clear p1
          try clear p10
          try clear p104
          try clear p2
          try clear q1
          try clear q10
          try clear q104
          obtain ⟨x33_3, rfl, HA, HK3, BK101, BK105, HB⟩ := hrel
          cases gk with
          | zero => exact absurd HA.out (by simp [spec_GoodWorld.l1])
          | succ k3 =>
           have H := HA.out
           clear HA
           simp only [spec_GoodWorld.l1] at H
           by_cases c22 : x33_3 < (((rd_T82 l0_0 x10_1).f1).length : Int)
           ·rw [if_pos c22] at H
            have c22b0 : decide (x33_3 < (((rd_T82 l0_0 x10_1).f1).length : Int)) = true := decide_eq_true c22
            clear c22
            by_cases c23 : 0 ≤ x33_3
            ·rw [if_pos c23] at H
             have c23b0 : decide (0 ≤ x33_3) = true := decide_eq_true c23
             clear c23
             by_cases c24 : x33_3 < (((rd_T82 l0_0 x10_1).f1).length : Int)
             ·rw [if_pos c24] at H
              have c24b0 : decide (x33_3 < (((rd_T82 l0_0 x10_1).f1).length : Int)) = true := decide_eq_true c24
              clear c24
              replace H := lO H
              obtain ⟨t107, A25, H⟩ := H
              by_cases c26 : t107 = true
              ·subst c26
               rw [if_pos rfl] at H
               have H' := Aside0.mk H
               clear H
               have p106 : 0 ≤ (x33_3 : Int) := lD
               have q106 : x33_3 < (((rd_T82 l0_0 x10_1).f1).length : Int) := lD
               obtain ⟨ad106, e106, hx106_0⟩ := Kd.at_int HR104_1.out x33_3 p106 q106
               cases e106
               replace hx106_0 := pw_cell_below HB.out hx106_0
               replace p106 := eq_true p106
               replace q106 := eq_true q106
               go_wp2_with (first | ((with_reducible refine gate_callee (f := 54) rfl ?_); refine gl_ (some 38) (Try.func54) #[.int .i64 (rd ((rd_T82 l0_0 x10_1).f1) x33_3), .int .i64 0, .int .i64 1000] ?_; (with_reducible refine (spec_l1In.calls (rd ((rd_T82 l0_0 x10_1).f1) x33_3) 0 1000 true _ A25.out).mono ?_); rintro e w' ⟨rfl, ⟨nd, rfl⟩⟩; refine ⟨_, rfl, ?_⟩))
               go_roundg k3
               case measure => have := HK1.out; have := HJ6.out; have := HK3.out; omega
               case rel => exact ⟨(wrap64 (x33_3 + 1)), lF, H', ⟨by have := HK1.out; have := HJ6.out; have := HK3.out; omega⟩, ⟨lK BK101.out⟩, ⟨lK BK105.out⟩, ⟨lB⟩⟩
              ·replace c26 := Bool.eq_false_iff.mpr c26
               subst c26
               rw [if_neg (show ¬ (false = true) by decide)] at H
               obtain rfl := Option.some.inj H
               have p106 : 0 ≤ (x33_3 : Int) := lD
               have q106 : x33_3 < (((rd_T82 l0_0 x10_1).f1).length : Int) := lD
               obtain ⟨ad106, e106, hx106_0⟩ := Kd.at_int HR104_1.out x33_3 p106 q106
               cases e106
               replace hx106_0 := pw_cell_below HB.out hx106_0
               replace p106 := eq_true p106
               replace q106 := eq_true q106
               go_wp2_with (first | ((with_reducible refine gate_callee (f := 54) rfl ?_); refine gl_ (some 38) (Try.func54) #[.int .i64 (rd ((rd_T82 l0_0 x10_1).f1) x33_3), .int .i64 0, .int .i64 1000] ?_; (with_reducible refine (spec_l1In.calls (rd ((rd_T82 l0_0 x10_1).f1) x33_3) 0 1000 false _ A25.out).mono ?_); rintro e w' ⟨rfl, ⟨nd, rfl⟩⟩; refine ⟨_, rfl, ?_⟩))
               go_ret
               exact ⟨lE, lB⟩
             ·rw [if_neg c24] at H
              exact absurd H (by simp)
            ·rw [if_neg c23] at H
             exact absurd H (by simp)
           ·rw [if_neg c22] at H
            have c22b0 : decide (x33_3 < (((rd_T82 l0_0 x10_1).f1).length : Int)) = false := decide_eq_false c22
            clear c22
            have H' := Aside0.mk H
            clear H
            go_wp2
            go_roundg k3
            case measure => have := HK1.out; have := HJ6.out; have := HK3.out; omega
            case rel => exact ⟨(wrap64 (x10_1 + 1)), lF, H', ⟨by have := HK1.out; have := HJ6.out; have := HK3.out; omega⟩, ⟨lK BK101.out⟩, ⟨lB⟩⟩
     ·rw [if_neg c6] at H
      exact absurd H (by simp)
    ·rw [if_neg c5] at H
     exact absurd H (by simp)
   ·rw [if_neg c4] at H
    have c4b0 : decide (x10_1 < (l0_0.length : Int)) = false := decide_eq_false c4
    clear c4
    replace H := lO H
    obtain ⟨t102, A27, H⟩ := H
    by_cases c28 : t102 = true
    ·subst c28
     rw [if_pos rfl] at H
     replace H := lO H
     obtain ⟨t103, A29, H⟩ := H
     obtain rfl := Option.some.inj H
     obtain ⟨hcz30_0, hfz30_0, hcz30_1, hfz30_1⟩ := bk2 BK101.out
     go_wp2_with (first | ((with_reducible refine gate_callee (f := 54) rfl ?_); refine gl_ (some 45) (Try.func54) #[.int .i64 (l0_0.length : Int), .int .i64 1, .int .i64 8] ?_; (with_reducible refine (spec_l1In.calls (l0_0.length : Int) 1 8 true _ A27.out).mono ?_); rintro e w' ⟨rfl, ⟨nd, rfl⟩⟩; refine ⟨_, rfl, ?_⟩) | (go_at_call 54; (with_reducible refine (spec_l1In.calls a0_1 0 1000000 t103 _ A29.out).mono ?_); rintro e w' ⟨rfl, ⟨nd, rfl⟩⟩))
     go_ret
     exact ⟨lE, lB⟩
    ·replace c28 := Bool.eq_false_iff.mpr c28
     subst c28
     rw [if_neg (show ¬ (false = true) by decide)] at H
     obtain rfl := Option.some.inj H
     obtain ⟨hcz31_0, hfz31_0, hcz31_1, hfz31_1⟩ := bk2 BK101.out
     go_wp2_with (first | ((with_reducible refine gate_callee (f := 54) rfl ?_); refine gl_ (some 45) (Try.func54) #[.int .i64 (l0_0.length : Int), .int .i64 1, .int .i64 8] ?_; (with_reducible refine (spec_l1In.calls (l0_0.length : Int) 1 8 false _ A27.out).mono ?_); rintro e w' ⟨rfl, ⟨nd, rfl⟩⟩; refine ⟨_, rfl, ?_⟩))
     go_ret
     exact ⟨lE, lB⟩

/-! ### impl_in: function 59 -/
def impl_in.f (a0 : Int) (a1 : Int) (a2 : Int) : Option (Bool) := if a0 ≥ a1 then (some (decide (a0 ≤ a2))) else (some false)
set_option maxHeartbeats 8000000 in
set_option maxRecDepth 100000 in
theorem impl_in.calls (a0 : Int) (a1 : Int) (a2 : Int) (r : Bool) (w : World) (h : impl_in.f a0 a1 a2 = some r) :
  Calls Try.prog 59 #[.int .i64 a0, .int .i64 a1, .int .i64 a2] w fun e w' => e = .returned (.bool r) ∧ Drawn0 w w' := by
 have H : (if a0 ≥ a1 then (some (decide (a0 ≤ a2))) else (some false)) = some r := h
 clear h
 by_cases c4 : a0 ≥ a1
 ·rw [if_pos c4] at H
  have c4b0 : decide (a1 ≤ a0) = true := decide_eq_true c4
  clear c4
  obtain rfl := Option.some.inj H
  go_enter Try.func59, Try.ntmps59
  first | (go_wp2; go_ret; exact ⟨by first | rfl | (simp; done) | (simp [*]; done), by repeat (first | exact Drawn0.refl _ | apply Drawn0.step)⟩) | (exfalso; simp only [decide_eq_false_iff_not, decide_eq_true_eq] at *; omega)
 ·rw [if_neg c4] at H
  have c4b0 : decide (a1 ≤ a0) = false := decide_eq_false c4
  clear c4
  obtain rfl := Option.some.inj H
  go_enter Try.func59, Try.ntmps59
  first | (go_wp2; go_ret; exact ⟨by first | rfl | (simp; done) | (simp [*]; done), by repeat (first | exact Drawn0.refl _ | apply Drawn0.step)⟩) | (exfalso; simp only [decide_eq_false_iff_not, decide_eq_true_eq] at *; omega)

/-! ### impl_isWorld_1: function 83 -/
def impl_isWorld_1.f (a0 : Int) : Option (Bool) := (impl_in.f a0 0 1000).bind fun t108 => (some (!t108))
set_option maxHeartbeats 8000000 in
set_option maxRecDepth 100000 in
theorem impl_isWorld_1.calls (a0 : Int) (r : Bool) (w : World) (h : impl_isWorld_1.f a0 = some r) :
  Calls Try.prog 83 #[.int .i64 a0] w fun e w' => e = .returned (.bool r) ∧ Drawn0 w w' := by
 have H : ((impl_in.f a0 0 1000).bind fun t108 => (some (!t108))) = some r := h
 clear h
 replace H := lO H
 obtain ⟨t108, A2, H⟩ := H
 obtain rfl := Option.some.inj H
 go_enter Try.func83, Try.ntmps83
 go_wp2_with (first | ((with_reducible refine gate_callee (f := 59) rfl ?_); refine gl_ (some 4) (Try.func59) #[.int .i64 a0, .int .i64 0, .int .i64 1000] ?_; (with_reducible refine (impl_in.calls a0 0 1000 t108 _ A2.out).mono ?_); rintro e w' ⟨rfl, ⟨nd, rfl⟩⟩; refine ⟨_, rfl, ?_⟩))
 go_ret
 exact ⟨by first | rfl | (simp; done) | (simp [*]; done), by repeat (first | exact Drawn0.refl _ | apply Drawn0.step)⟩

/-! ### slices_IndexFunc_int_int: function 92 -/
-- slices.IndexFunc, whatever is asked
set_option maxHeartbeats 800000 in
set_option maxRecDepth 100000 in
theorem idx92_ (g : Nat) (caps : Array Value) (eg : ∀ args w, (callFunc g args).run Try.prog w = .ok (.enter g args) w) (p : Int → Option Bool) (A0 : Option Addr) (c0 : Nat) (l0 : List Int) (w : World) (hr0 : Kd.C (Kd.int .i64) w A0 l0.length l0)
    (hp : ∀ (W : World) (x : Int) (b : Bool), Below w.heap.size w W → p x = some b → Calls Try.prog g (#[.int .i64 x] ++ caps) W fun e w' => e = .returned (.bool b) ∧ Below W.heap.size W w') (r : Int) (h : Kit.idxO p l0 0 = some r) :
    Calls Try.prog 92 #[.slice A0 l0.length c0, .func (.func g) #[] caps] w fun e w' => e = .returned (.int .i64 r) ∧ Below w.heap.size w w' := by
  have HR := Aside0.mk hr0
  have HP := Aside0.mk hp
  have HH := Aside0.mk h
  have hbig := hr0.2.1
  clear hr0 hp h
  go_enter Try.func92, Try.ntmps92
  go_wp2
  go_loopg [5, 8] l0.length (fun gg _ s8 wr => ∃ kk : Nat, kk ≤ l0.length ∧ l0.length - kk ≤ gg ∧ s8 = .int .i64 kk ∧ Aside0 (Below w.heap.size w wr) ∧ Aside0 (Kit.idxO p (l0.drop kk) kk = some r))
  case atStart => exact ⟨0, Nat.zero_le _, by omega, rfl, ⟨Below.refl _ _⟩, ⟨by simpa using HH.out⟩⟩
  case round =>
    obtain ⟨kk, hkk, hg, rfl, HB, HI⟩ := hrel
    by_cases hlt : kk < l0.length
    · have hltz : (kk : Int) < (l0.length : Int) := by omega
      have hd0 : decide (kk < l0.length) = true := decide_eq_true hlt
      obtain ⟨ad, e_, hx0⟩ := Kd.at_int HR.out (kk : Int) (by omega) (by omega)
      cases e_
      replace hx0 := pw_cell_below HB.out hx0
      simp only [Int.toNat_natCast] at hx0
      have hd : l0.drop kk = rd l0 (kk : Int) :: l0.drop (kk + 1) := by
        rw [List.drop_eq_getElem_cons hlt]; simp [rd, List.getD, hlt]
      generalize rd l0 (kk : Int) = y at hd hx0
      have HI' := HI.out
      rw [hd] at HI'
      simp only [Kit.idxO] at HI'
      obtain ⟨b, hb, hI⟩ := Option.bind_eq_some_iff.1 HI'
      have hcall := HP.out wr y b HB.out hb
      have HIb := Aside0.mk hI
      clear hI HI' hb hd HI
      cases b with
      | true =>
        go_wp2_with fail
        refine hcall.mono ?_
        rintro e w2 ⟨rfl, hb2⟩
        clear hcall
        go_wp2_with fail
        go_ret
        have hI := HIb.out
        simp only [if_true, Option.some.injEq] at hI
        exact ⟨by subst hI; rfl, HB.out.trans (hb2.mono HB.out.size)⟩
      | false =>
        go_wp2_with fail
        refine hcall.mono ?_
        rintro e w2 ⟨rfl, hb2⟩
        clear hcall
        go_wp2_with fail
        go_roundg (l0.length - (kk + 1))
        case measure => omega
        case rel => exact ⟨kk + 1, by omega, by omega, by go_num, ⟨HB.out.trans (hb2.mono HB.out.size)⟩, ⟨by simpa using HIb.out⟩⟩
    · have hltz : ¬ (kk : Int) < (l0.length : Int) := by omega
      have hd0 : decide (kk < l0.length) = false := decide_eq_false hlt
      have hkl : kk = l0.length := by omega
      have hI := HI.out
      rw [hkl, List.drop_length] at hI
      simp [Kit.idxO] at hI
      clear HI hkl
      have HR2 := Aside0.mk hI
      clear hI
      go_wp2
      go_ret
      exact ⟨by have e_ := HR2.out; subst e_; rfl, HB.out⟩

/-! ### slices_ContainsFunc_int_int: function 82 -/
-- slices.ContainsFunc, whatever is asked
set_option maxHeartbeats 800000 in
set_option maxRecDepth 100000 in
theorem cnt82_ (g : Nat) (caps : Array Value) (eg : ∀ args w, (callFunc g args).run Try.prog w = .ok (.enter g args) w) (p : Int → Option Bool) (A0 : Option Addr) (c0 : Nat) (l0 : List Int) (w : World) (hr0 : Kd.C (Kd.int .i64) w A0 l0.length l0)
    (hp : ∀ (W : World) (x : Int) (b : Bool), Below w.heap.size w W → p x = some b → Calls Try.prog g (#[.int .i64 x] ++ caps) W fun e w' => e = .returned (.bool b) ∧ Below W.heap.size W w') (r : Bool) (h : Kit.anyO p l0 = some r) :
    Calls Try.prog 82 #[.slice A0 l0.length c0, .func (.func g) #[] caps] w fun e w' => e = .returned (.bool r) ∧ Below w.heap.size w w' := by
  obtain ⟨i, hi, hri⟩ := Kit.idxO_any p l0 0 r h
  have hcall := idx92_ g caps eg p A0 c0 l0 w hr0 hp i hi
  have HI := Aside0.mk hri
  clear hri hi h hp hr0
  go_enter Try.func82, Try.ntmps82
  go_wp2_with fail
  refine hcall.mono ?_
  rintro e w2 ⟨rfl, hb2⟩
  clear hcall
  go_wp2
  go_ret
  exact ⟨by rw [HI.out]; rfl, hb2⟩
def slices_ContainsFunc_int_int.f (l0 : List Int) (a1 : Nat) : Option (Bool) := if a1 = 83 then Kit.anyO (fun x : Int => impl_isWorld_1.f x) l0 else none
theorem slices_ContainsFunc_int_int.calls (A0 : Option Addr) (c0 : Nat) (l0 : List Int) (a1 : Nat) (r : Bool) (w : World) (hr0 : Kd.C (Kd.int .i64) w A0 l0.length l0) (hc0 : l0.length ≤ c0) (h : slices_ContainsFunc_int_int.f l0 a1 = some r) :
    Calls Try.prog 82 #[.slice A0 l0.length c0, .func (.func a1) #[] #[]] w fun e w' => e = .returned (.bool r) ∧ Below w.heap.size w w' := by
  unfold slices_ContainsFunc_int_int.f at h
  by_cases e_ : a1 = 83
  · subst e_
    rw [if_pos rfl] at h
    exact cnt82_ 83 #[] (enters_of Try.func83 (by kernel_rfl) rfl) (fun x : Int => impl_isWorld_1.f x) A0 c0 l0 w hr0 (fun W x b hW hx => (impl_isWorld_1.calls x b W  hx).mono fun e w' ⟨he, hd⟩ => ⟨he, hd.below⟩) r h
  · rw [if_neg e_] at h
    clear e_
    exact absurd h (by simp)

/-! ### impl_isWorld: function 56 -/
def impl_isWorld.l0 : Nat → List (S82) → Int → Int → List (S82) → Int → Option (Bool)
 | 0, _, _, _, _, _ => none
 | k + 1, x6, x7, x8, x110000, x110001 => if x8 < x7 then (if 0 ≤ x8 then (if x8 < (x6.length : Int) then ((impl_in.f ((rd_T82 x6 x8).f0) (-1) (wrap64 (x8 - 1))).bind fun t114 => (if t114 = true then (if (((rd_T82 x6 x8).f1).length : Int) = 5 then ((slices_ContainsFunc_int_int.f ((rd_T82 x6 x8).f1) 83).bind fun t115 => (if t115 = true then (some false) else (impl_isWorld.l0 k x6 x7 (wrap64 (x8 + 1)) x110000 x110001))) else (some false)) else (some false))) else (none)) else (none)) else ((impl_in.f (x110000.length : Int) 1 8).bind fun t110 => (if t110 = true then ((impl_in.f x110001 0 1000000).bind fun t111 => (some t111)) else (some false)))
def impl_isWorld.f (k : Nat) (l0_0 : List (S82)) (a0_1 : Int) : Option (Bool) := impl_isWorld.l0 k l0_0 (l0_0.length : Int) 0 l0_0 a0_1
theorem impl_isWorld.mono_l : ∀ k, (∀ y0 y1 y2 y3 y4, LeO (impl_isWorld.l0 k y0 y1 y2 y3 y4) (impl_isWorld.l0 (k + 1) y0 y1 y2 y3 y4))
 | 0 => fun _ _ _ _ _ r h => by simp [impl_isWorld.l0] at h
 | k + 1 => by
  have ih0 := impl_isWorld.mono_l k
  ·intro y0 y1 y2 y3 y4
   unfold impl_isWorld.l0
   repeat' first
   | with_reducible apply ih0
   | (with_reducible exact LeO.refl _)
   | (with_reducible exact LeO.none _)
   | (with_reducible refine LeO.ite ?_ ?_)
   | (with_reducible refine LeO.bind ?_ (fun _ => ?_))
   | apply ih0
   | exact LeO.none _
   | refine LeO.ite ?_ ?_
   | refine LeO.bind ?_ (fun _ => ?_)
theorem impl_isWorld.mono : ∀ a0 a1 k, LeO (impl_isWorld.f k a0 a1) (impl_isWorld.f (k + 1) a0 a1) := by
 intro a0 a1 k
 have ih0 := impl_isWorld.mono_l k
 unfold impl_isWorld.f
 repeat' first
   | with_reducible apply ih0
   | (with_reducible exact LeO.refl _)
   | (with_reducible exact LeO.none _)
   | (with_reducible refine LeO.ite ?_ ?_)
   | (with_reducible refine LeO.bind ?_ (fun _ => ?_))
   | apply ih0
   | exact LeO.none _
   | refine LeO.ite ?_ ?_
   | refine LeO.bind ?_ (fun _ => ?_)
set_option maxHeartbeats 8000000 in
set_option maxRecDepth 100000 in
theorem impl_isWorld.calls (k : Nat) (A0_0 : Option Addr) (c0_0 : Nat) (l0_0 : List (S82)) (a0_1 : Int) (r : Bool) (w : World) (hr0_0 : Kd.C k82 w A0_0 l0_0.length l0_0) (hc0_0 : l0_0.length ≤ c0_0) (h : impl_isWorld.f k l0_0 a0_1 = some r) :
  Calls Try.prog 56 #[.agg #[.slice A0_0 l0_0.length c0_0, .int .i64 a0_1]] w fun e w' => e = .returned (.bool r) ∧ Below w.heap.size w w' := by
 have hu29 := Try.underlying29
 have hu82 := Try.underlying82
 have HR0_0 := Aside0.mk hr0_0
 have HC0_0 := Aside0.mk hc0_0
 clear hr0_0 hc0_0
 have HB := Aside0.mk (Below.refl w.heap.size w)
 have H : (impl_isWorld.l0 k l0_0 (l0_0.length : Int) 0 l0_0 a0_1) = some r := h
 clear h
 have H' := Aside0.mk H
 clear H
 go_enter Try.func56, Try.ntmps56
 go_wp2_with (first | ((with_reducible refine gate_dst (N := 1) rfl ?_); (try (refine gate_guard (by rfl) ?_; dsimp only)); refine bxe 1 #[.slice A0_0 l0_0.length c0_0, .int .i64 a0_1] 29 ?_; intro gb109 hg w2 hbox hb; have n0_ := Aside0.mk (below_step lB hb); have n1_ := Aside0.mk (hbox); have n2_ := lG w hg; have n3_ := lG w hg; clear HB; have HB := n0_; have BK109 := n1_; have GW109 := n2_; have GE109 := n3_; clear n0_ n1_ n2_ n3_; clear hb hbox hg; obtain ⟨hcz3_0, hfz3_0, hcz3_1, hfz3_1⟩ := bk2 BK109.out))
 go_loopg [8] k (fun kq v8 w' => ∃ (x8_1 : Int), v8 = .int .i64 x8_1 ∧ Aside0 (impl_isWorld.l0 kq l0_0 (l0_0.length : Int) x8_1 l0_0 a0_1 = some r) ∧ Aside0 (kq ≤ k) ∧ Aside0 (w'.heap[gb109]? = some (.cells #[(.slice A0_0 l0_0.length c0_0), .int .i64 a0_1] 29 (0, 0))) ∧ Aside0 (Below w.heap.size w w'))
 case atStart => exact ⟨(0), lF, H', ⟨Nat.le_refl _⟩, ⟨lK BK109.out⟩, ⟨lB⟩⟩
 case round =>
  clear H'
  try clear p2
  try clear hcz3_0 hcz3_1 hfz3_0 hfz3_1
  obtain ⟨x8_1, rfl, HA, HK1, BK109, HB⟩ := hrel
  cases gk with
  | zero => exact absurd HA.out (by simp [impl_isWorld.l0])
  | succ k1 =>
   have H := HA.out
   clear HA
   simp only [impl_isWorld.l0] at H
   by_cases c4 : x8_1 < (l0_0.length : Int)
   ·rw [if_pos c4] at H
    have c4b0 : decide (x8_1 < (l0_0.length : Int)) = true := decide_eq_true c4
    clear c4
    by_cases c5 : 0 ≤ x8_1
    ·rw [if_pos c5] at H
     have c5b0 : decide (0 ≤ x8_1) = true := decide_eq_true c5
     clear c5
     by_cases c6 : x8_1 < (l0_0.length : Int)
     ·rw [if_pos c6] at H
      have c6b0 : decide (x8_1 < (l0_0.length : Int)) = true := decide_eq_true c6
      clear c6
      replace H := lO H
      obtain ⟨t114, A7, H⟩ := H
      by_cases c8 : t114 = true
      ·subst c8
       rw [if_pos rfl] at H
       by_cases c9 : (((rd_T82 l0_0 x8_1).f1).length : Int) = 5
       ·rw [if_pos c9] at H
        have c9b0 : ((((rd_T82 l0_0 x8_1).f1).length : Int) == 5) = true := beq_iff_eq.mpr c9
        have c9b1 : ((((rd_T82 l0_0 x8_1).f1).length : Int) != 5) = false := bne_eq_false_iff_eq.mpr c9
        clear c9
        replace H := lO H
        obtain ⟨t115, A10, H⟩ := H
        by_cases c11 : t115 = true
        ·subst c11
         rw [if_pos rfl] at H
         obtain rfl := Option.some.inj H
         have p112 : 0 ≤ (x8_1 : Int) := lD
         have q112 : x8_1 < (l0_0.length : Int) := lD
         obtain ⟨ad112, A112_1, c112_1, e112, hx112_0, hx112_1, hl112_1, hi112_1⟩ := at_T82 HR0_0.out x8_1 p112 q112
         cases e112
         replace hx112_0 := pw_cell_below HB.out hx112_0
         replace hx112_1 := pw_cell_below HB.out hx112_1
         have HR112_1 := Aside0.mk hi112_1
         have HC112_1 := Aside0.mk hl112_1
         clear hi112_1 hl112_1
         replace p112 := eq_true p112
         replace q112 := eq_true q112
         go_wp2_with (first | ((with_reducible refine gate_dst (N := 4) rfl ?_); (try (refine gate_guard (by rfl) ?_; dsimp only)); refine bxe 4 #[.int .i64 0, .slice none 0 0] 82 ?_; intro gb113 hg w12 hbox hb; have n0_ := Aside0.mk (blk_below (lK BK109.out) hb); have n1_ := Aside0.mk (below_step lB hb); have n2_ := Aside0.mk (hbox); have n3_ := lG w hg; have n4_ := lG w hg; have n5_ := Aside0.mk ((by rw [hg]; exact Nat.ne_of_lt (blk_lt (lK BK109.out)) : gb109 ≠ gb113)); have n6_ := Aside0.mk ((by rw [hg]; exact Nat.ne_of_gt (blk_lt (lK BK109.out)) : gb113 ≠ gb109)); clear BK109; clear HB; have BK109 := n0_; have HB := n1_; have BK113 := n2_; have GW113 := n3_; have GE113 := n4_; have NB109_113 := n5_; have NB113_109 := n6_; clear n0_ n1_ n2_ n3_ n4_ n5_ n6_; clear hb hbox hg; have hnb13 := NB113_109.out; have hnc13 := NB109_113.out; obtain ⟨hcz14_0, hfz14_0, hcz14_1, hfz14_1⟩ := bk2 BK113.out) | ((with_reducible refine gate_callee (f := 59) rfl ?_); refine gl_ (some 17) (Try.func59) #[.int .i64 ((rd_T82 l0_0 x8_1).f0), .int .i64 (-1), .int .i64 (wrap64 (x8_1 - 1))] ?_; (with_reducible refine (impl_in.calls ((rd_T82 l0_0 x8_1).f0) (-1) (wrap64 (x8_1 - 1)) true _ A7.out).mono ?_); rintro e w' ⟨rfl, ⟨nd, rfl⟩⟩; refine ⟨_, rfl, ?_⟩) | (go_at_call 82; (with_reducible refine (slices_ContainsFunc_int_int.calls _ _ ((rd_T82 l0_0 x8_1).f1) 83 true _ ?side1 ?side2 A10.out).mono ?_); (case side1 => exact Kd.C_below HR112_1.out lB); (case side2 => exact HC112_1.out); rintro e w15 ⟨rfl, hb⟩; have n0_ := Aside0.mk (blk_below (lJ BK109.out) hb); have n1_ := Aside0.mk (blk_below (g := gb113) (o := .cells #[.int .i64 ((rd_T82 l0_0 x8_1).f0), .slice A112_1 ((rd_T82 l0_0 x8_1).f1).length c112_1] 82 (0, 0)) (by (with_reducible repeat first | apply bN | apply bD | apply bA); refine blk_put (cs := #[.int .i64 ((rd_T82 l0_0 x8_1).f0), .slice none 0 0]) ?_ 1 _ rfl; (with_reducible repeat first | apply bN | apply bD | apply bA); refine blk_put (cs := #[.int .i64 0, .slice none 0 0]) ?_ 0 _ rfl; (with_reducible repeat first | apply bN | apply bD | apply bA); exact BK113.out) hb); have n2_ := Aside0.mk (below_step lB hb); clear BK109; clear BK113; clear HB; have BK109 := n0_; have BK113 := n1_; have HB := n2_; clear n0_ n1_ n2_; (try clear hb); (try clear hb2); (try clear hk); (try clear hi)))
         go_ret
         exact ⟨lE, lB⟩
        ·replace c11 := Bool.eq_false_iff.mpr c11
         subst c11
         rw [if_neg (show ¬ (false = true) by decide)] at H
         have H' := Aside0.mk H
         clear H
         have p112 : 0 ≤ (x8_1 : Int) := lD
         have q112 : x8_1 < (l0_0.length : Int) := lD
         obtain ⟨ad112, A112_1, c112_1, e112, hx112_0, hx112_1, hl112_1, hi112_1⟩ := at_T82 HR0_0.out x8_1 p112 q112
         cases e112
         replace hx112_0 := pw_cell_below HB.out hx112_0
         replace hx112_1 := pw_cell_below HB.out hx112_1
         have HR112_1 := Aside0.mk hi112_1
         have HC112_1 := Aside0.mk hl112_1
         clear hi112_1 hl112_1
         replace p112 := eq_true p112
         replace q112 := eq_true q112
         go_wp2_with (first | ((with_reducible refine gate_dst (N := 4) rfl ?_); (try (refine gate_guard (by rfl) ?_; dsimp only)); refine bxe 4 #[.int .i64 0, .slice none 0 0] 82 ?_; intro gb113 hg w16 hbox hb; have n0_ := Aside0.mk (blk_below (lK BK109.out) hb); have n1_ := Aside0.mk (below_step lB hb); have n2_ := Aside0.mk (hbox); have n3_ := lG w hg; have n4_ := lG w hg; have n5_ := Aside0.mk ((by rw [hg]; exact Nat.ne_of_lt (blk_lt (lK BK109.out)) : gb109 ≠ gb113)); have n6_ := Aside0.mk ((by rw [hg]; exact Nat.ne_of_gt (blk_lt (lK BK109.out)) : gb113 ≠ gb109)); clear BK109; clear HB; have BK109 := n0_; have HB := n1_; have BK113 := n2_; have GW113 := n3_; have GE113 := n4_; have NB109_113 := n5_; have NB113_109 := n6_; clear n0_ n1_ n2_ n3_ n4_ n5_ n6_; clear hb hbox hg; have hnb17 := NB113_109.out; have hnc17 := NB109_113.out; obtain ⟨hcz18_0, hfz18_0, hcz18_1, hfz18_1⟩ := bk2 BK113.out) | ((with_reducible refine gate_callee (f := 59) rfl ?_); refine gl_ (some 17) (Try.func59) #[.int .i64 ((rd_T82 l0_0 x8_1).f0), .int .i64 (-1), .int .i64 (wrap64 (x8_1 - 1))] ?_; (with_reducible refine (impl_in.calls ((rd_T82 l0_0 x8_1).f0) (-1) (wrap64 (x8_1 - 1)) true _ A7.out).mono ?_); rintro e w' ⟨rfl, ⟨nd, rfl⟩⟩; refine ⟨_, rfl, ?_⟩) | (go_at_call 82; (with_reducible refine (slices_ContainsFunc_int_int.calls _ _ ((rd_T82 l0_0 x8_1).f1) 83 false _ ?side1 ?side2 A10.out).mono ?_); (case side1 => exact Kd.C_below HR112_1.out lB); (case side2 => exact HC112_1.out); rintro e w19 ⟨rfl, hb⟩; have n0_ := Aside0.mk (blk_below (lJ BK109.out) hb); have n1_ := Aside0.mk (blk_below (g := gb113) (o := .cells #[.int .i64 ((rd_T82 l0_0 x8_1).f0), .slice A112_1 ((rd_T82 l0_0 x8_1).f1).length c112_1] 82 (0, 0)) (by (with_reducible repeat first | apply bN | apply bD | apply bA); refine blk_put (cs := #[.int .i64 ((rd_T82 l0_0 x8_1).f0), .slice none 0 0]) ?_ 1 _ rfl; (with_reducible repeat first | apply bN | apply bD | apply bA); refine blk_put (cs := #[.int .i64 0, .slice none 0 0]) ?_ 0 _ rfl; (with_reducible repeat first | apply bN | apply bD | apply bA); exact BK113.out) hb); have n2_ := Aside0.mk (below_step lB hb); clear BK109; clear BK113; clear HB; have BK109 := n0_; have BK113 := n1_; have HB := n2_; clear n0_ n1_ n2_; (try clear hb); (try clear hb2); (try clear hk); (try clear hi)))
         go_roundg k1
         case measure => have := HK1.out; omega
         case rel => exact ⟨(wrap64 (x8_1 + 1)), lF, H', ⟨by have := HK1.out; omega⟩, ⟨lK BK109.out⟩, ⟨lB⟩⟩
       ·rw [if_neg c9] at H
        have c9b0 : ((((rd_T82 l0_0 x8_1).f1).length : Int) == 5) = false := beq_eq_false_iff_ne.mpr c9
        have c9b1 : ((((rd_T82 l0_0 x8_1).f1).length : Int) != 5) = true := bne_iff_ne.mpr c9
        obtain rfl := Option.some.inj H
        have p112 : 0 ≤ (x8_1 : Int) := lD
        have q112 : x8_1 < (l0_0.length : Int) := lD
        obtain ⟨ad112, A112_1, c112_1, e112, hx112_0, hx112_1, hl112_1, hi112_1⟩ := at_T82 HR0_0.out x8_1 p112 q112
        cases e112
        replace hx112_0 := pw_cell_below HB.out hx112_0
        replace hx112_1 := pw_cell_below HB.out hx112_1
        have HR112_1 := Aside0.mk hi112_1
        have HC112_1 := Aside0.mk hl112_1
        clear hi112_1 hl112_1
        replace p112 := eq_true p112
        replace q112 := eq_true q112
        go_wp2_with (first | ((with_reducible refine gate_dst (N := 4) rfl ?_); (try (refine gate_guard (by rfl) ?_; dsimp only)); refine bxe 4 #[.int .i64 0, .slice none 0 0] 82 ?_; intro gb113 hg w20 hbox hb; have n0_ := Aside0.mk (blk_below (lK BK109.out) hb); have n1_ := Aside0.mk (below_step lB hb); have n2_ := Aside0.mk (hbox); have n3_ := lG w hg; have n4_ := lG w hg; have n5_ := Aside0.mk ((by rw [hg]; exact Nat.ne_of_lt (blk_lt (lK BK109.out)) : gb109 ≠ gb113)); have n6_ := Aside0.mk ((by rw [hg]; exact Nat.ne_of_gt (blk_lt (lK BK109.out)) : gb113 ≠ gb109)); clear BK109; clear HB; have BK109 := n0_; have HB := n1_; have BK113 := n2_; have GW113 := n3_; have GE113 := n4_; have NB109_113 := n5_; have NB113_109 := n6_; clear n0_ n1_ n2_ n3_ n4_ n5_ n6_; clear hb hbox hg; have hnb21 := NB113_109.out; have hnc21 := NB109_113.out; obtain ⟨hcz22_0, hfz22_0, hcz22_1, hfz22_1⟩ := bk2 BK113.out) | ((with_reducible refine gate_callee (f := 59) rfl ?_); refine gl_ (some 17) (Try.func59) #[.int .i64 ((rd_T82 l0_0 x8_1).f0), .int .i64 (-1), .int .i64 (wrap64 (x8_1 - 1))] ?_; (with_reducible refine (impl_in.calls ((rd_T82 l0_0 x8_1).f0) (-1) (wrap64 (x8_1 - 1)) true _ A7.out).mono ?_); rintro e w' ⟨rfl, ⟨nd, rfl⟩⟩; refine ⟨_, rfl, ?_⟩))
        go_ret
        exact ⟨lE, lB⟩
      ·replace c8 := Bool.eq_false_iff.mpr c8
       subst c8
       rw [if_neg (show ¬ (false = true) by decide)] at H
       obtain rfl := Option.some.inj H
       have p112 : 0 ≤ (x8_1 : Int) := lD
       have q112 : x8_1 < (l0_0.length : Int) := lD
       obtain ⟨ad112, A112_1, c112_1, e112, hx112_0, hx112_1, hl112_1, hi112_1⟩ := at_T82 HR0_0.out x8_1 p112 q112
       cases e112
       replace hx112_0 := pw_cell_below HB.out hx112_0
       replace hx112_1 := pw_cell_below HB.out hx112_1
       have HR112_1 := Aside0.mk hi112_1
       have HC112_1 := Aside0.mk hl112_1
       clear hi112_1 hl112_1
       replace p112 := eq_true p112
       replace q112 := eq_true q112
       go_wp2_with (first | ((with_reducible refine gate_dst (N := 4) rfl ?_); (try (refine gate_guard (by rfl) ?_; dsimp only)); refine bxe 4 #[.int .i64 0, .slice none 0 0] 82 ?_; intro gb113 hg w23 hbox hb; have n0_ := Aside0.mk (blk_below (lK BK109.out) hb); have n1_ := Aside0.mk (below_step lB hb); have n2_ := Aside0.mk (hbox); have n3_ := lG w hg; have n4_ := lG w hg; have n5_ := Aside0.mk ((by rw [hg]; exact Nat.ne_of_lt (blk_lt (lK BK109.out)) : gb109 ≠ gb113)); have n6_ := Aside0.mk ((by rw [hg]; exact Nat.ne_of_gt (blk_lt (lK BK109.out)) : gb113 ≠ gb109)); clear BK109; clear HB; have BK109 := n0_; have HB := n1_; have BK113 := n2_; have GW113 := n3_; have GE113 := n4_; have NB109_113 := n5_; have NB113_109 := n6_; clear n0_ n1_ n2_ n3_ n4_ n5_ n6_; clear hb hbox hg; have hnb24 := NB113_109.out; have hnc24 := NB109_113.out; obtain ⟨hcz25_0, hfz25_0, hcz25_1, hfz25_1⟩ := bk2 BK113.out) | ((with_reducible refine gate_callee (f := 59) rfl ?_); refine gl_ (some 17) (Try.func59) #[.int .i64 ((rd_T82 l0_0 x8_1).f0), .int .i64 (-1), .int .i64 (wrap64 (x8_1 - 1))] ?_; (with_reducible refine (impl_in.calls ((rd_T82 l0_0 x8_1).f0) (-1) (wrap64 (x8_1 - 1)) false _ A7.out).mono ?_); rintro e w' ⟨rfl, ⟨nd, rfl⟩⟩; refine ⟨_, rfl, ?_⟩))
       go_ret
       exact ⟨lE, lB⟩
     ·rw [if_neg c6] at H
      exact absurd H (by simp)
    ·rw [if_neg c5] at H
     exact absurd H (by simp)
   ·rw [if_neg c4] at H
    have c4b0 : decide (x8_1 < (l0_0.length : Int)) = false := decide_eq_false c4
    clear c4
    replace H := lO H
    obtain ⟨t110, A26, H⟩ := H
    by_cases c27 : t110 = true
    ·subst c27
     rw [if_pos rfl] at H
     replace H := lO H
     obtain ⟨t111, A28, H⟩ := H
     obtain rfl := Option.some.inj H
     obtain ⟨hcz29_0, hfz29_0, hcz29_1, hfz29_1⟩ := bk2 BK109.out
     go_wp2_with (first | ((with_reducible refine gate_callee (f := 59) rfl ?_); refine gl_ (some 34) (Try.func59) #[.int .i64 (l0_0.length : Int), .int .i64 1, .int .i64 8] ?_; (with_reducible refine (impl_in.calls (l0_0.length : Int) 1 8 true _ A26.out).mono ?_); rintro e w' ⟨rfl, ⟨nd, rfl⟩⟩; refine ⟨_, rfl, ?_⟩) | (go_at_call 59; (with_reducible refine (impl_in.calls a0_1 0 1000000 t111 _ A28.out).mono ?_); rintro e w' ⟨rfl, ⟨nd, rfl⟩⟩))
     go_ret
     exact ⟨lE, lB⟩
    ·replace c27 := Bool.eq_false_iff.mpr c27
     subst c27
     rw [if_neg (show ¬ (false = true) by decide)] at H
     obtain rfl := Option.some.inj H
     obtain ⟨hcz30_0, hfz30_0, hcz30_1, hfz30_1⟩ := bk2 BK109.out
     go_wp2_with (first | ((with_reducible refine gate_callee (f := 59) rfl ?_); refine gl_ (some 34) (Try.func59) #[.int .i64 (l0_0.length : Int), .int .i64 1, .int .i64 8] ?_; (with_reducible refine (impl_in.calls (l0_0.length : Int) 1 8 false _ A26.out).mono ?_); rintro e w' ⟨rfl, ⟨nd, rfl⟩⟩; refine ⟨_, rfl, ?_⟩))
     go_ret
     exact ⟨lE, lB⟩

/-! ### impl_GoodWorld: function 16 -/
def impl_GoodWorld.f (k : Nat) (l0_0 : List (S82)) (a0_1 : Int) : Option (Bool) := (impl_isWorld.f k l0_0 a0_1).bind fun t117 => (some t117)
theorem impl_GoodWorld.mono : ∀ a0 a1 k, LeO (impl_GoodWorld.f k a0 a1) (impl_GoodWorld.f (k + 1) a0 a1) := by
 intro a0 a1 k
 unfold impl_GoodWorld.f
 repeat' first
   | with_reducible apply impl_isWorld.mono
   | (with_reducible exact LeO.refl _)
   | (with_reducible exact LeO.none _)
   | (with_reducible refine LeO.ite ?_ ?_)
   | (with_reducible refine LeO.bind ?_ (fun _ => ?_))
   | apply impl_isWorld.mono
   | exact LeO.none _
   | refine LeO.ite ?_ ?_
   | refine LeO.bind ?_ (fun _ => ?_)
set_option maxHeartbeats 8000000 in
set_option maxRecDepth 100000 in
theorem impl_GoodWorld.calls (k : Nat) (A0_0 : Option Addr) (c0_0 : Nat) (l0_0 : List (S82)) (a0_1 : Int) (r : Bool) (w : World) (hr0_0 : Kd.C k82 w A0_0 l0_0.length l0_0) (hc0_0 : l0_0.length ≤ c0_0) (h : impl_GoodWorld.f k l0_0 a0_1 = some r) :
  Calls Try.prog 16 #[.agg #[.slice A0_0 l0_0.length c0_0, .int .i64 a0_1]] w fun e w' => e = .returned (.bool r) ∧ Below w.heap.size w w' := by
 have hu29 := Try.underlying29
 have HR0_0 := Aside0.mk hr0_0
 have HC0_0 := Aside0.mk hc0_0
 clear hr0_0 hc0_0
 have HB := Aside0.mk (Below.refl w.heap.size w)
 have H : ((impl_isWorld.f k l0_0 a0_1).bind fun t117 => (some t117)) = some r := h
 clear h
 replace H := lO H
 obtain ⟨t117, A2, H⟩ := H
 obtain rfl := Option.some.inj H
 go_enter Try.func16, Try.ntmps16
 go_wp2_with (first | ((with_reducible refine gate_dst (N := 1) rfl ?_); refine bxe 1 #[.slice A0_0 l0_0.length c0_0, .int .i64 a0_1] 29 ?_; intro gb116 hg w3 hbox hb; have n0_ := Aside0.mk (below_step lB hb); have n1_ := Aside0.mk (hbox); have n2_ := lG w hg; have n3_ := lG w hg; clear HB; have HB := n0_; have BK116 := n1_; have GW116 := n2_; have GE116 := n3_; clear n0_ n1_ n2_ n3_; clear hb hbox hg; obtain ⟨hcz4_0, hfz4_0, hcz4_1, hfz4_1⟩ := bk2 BK116.out) | ((with_reducible refine gate_callee (f := 56) rfl ?_); refine gl_ (some 4) (Try.func56) #[.agg #[.slice A0_0 l0_0.length c0_0, .int .i64 a0_1]] ?_; (with_reducible refine (impl_isWorld.calls k _ _ l0_0 a0_1 t117 _ ?side1 ?side2 A2.out).mono ?_); (case side1 => exact lC (Kd.C_below HR0_0.out HB.out)); (case side2 => exact HC0_0.out); rintro e w5 ⟨rfl, hb⟩; refine ⟨_, rfl, ?_⟩; have n0_ := Aside0.mk (blk_below (lK BK116.out) hb); have n1_ := Aside0.mk (below_step lB hb); clear BK116; clear HB; have BK116 := n0_; have HB := n1_; clear n0_ n1_; (try clear hb); (try clear hb2); (try clear hk); (try clear hi)))
 go_ret
 exact ⟨lE, lB⟩

/-! ### spec_l12Class: function 58 -/
def spec_l12Class.f (l0_0 : List (S82)) (a0_1 : Int) (a1 : Int) : Option (Bool) := if a1 ≥ 0 then (some (decide (a1 < (l0_0.length : Int)))) else (some false)
set_option maxHeartbeats 8000000 in
set_option maxRecDepth 100000 in
theorem spec_l12Class.calls (A0_0 : Option Addr) (c0_0 : Nat) (l0_0 : List (S82)) (a0_1 : Int) (a1 : Int) (r : Bool) (w : World) (hr0_0 : Kd.C k82 w A0_0 l0_0.length l0_0) (hc0_0 : l0_0.length ≤ c0_0) (h : spec_l12Class.f l0_0 a0_1 a1 = some r) :
  Calls Try.prog 58 #[.agg #[.slice A0_0 l0_0.length c0_0, .int .i64 a0_1], .int .i64 a1] w fun e w' => e = .returned (.bool r) ∧ Below w.heap.size w w' := by
 have hu29 := Try.underlying29
 have HR0_0 := Aside0.mk hr0_0
 have HC0_0 := Aside0.mk hc0_0
 clear hr0_0 hc0_0
 have HB := Aside0.mk (Below.refl w.heap.size w)
 have H : (if a1 ≥ 0 then (some (decide (a1 < (l0_0.length : Int)))) else (some false)) = some r := h
 clear h
 by_cases c3 : a1 ≥ 0
 ·rw [if_pos c3] at H
  have c3b0 : decide (0 ≤ a1) = true := decide_eq_true c3
  clear c3
  obtain rfl := Option.some.inj H
  go_enter Try.func58, Try.ntmps58
  go_wp2_with (first | ((with_reducible refine gate_dst (N := 2) rfl ?_); (try (refine gate_guard (by rfl) ?_; dsimp only)); refine bxe 2 #[.slice A0_0 l0_0.length c0_0, .int .i64 a0_1] 29 ?_; intro gb118 hg w4 hbox hb; have n0_ := Aside0.mk (below_step lB hb); have n1_ := Aside0.mk (hbox); have n2_ := lG w hg; have n3_ := lG w hg; clear HB; have HB := n0_; have BK118 := n1_; have GW118 := n2_; have GE118 := n3_; clear n0_ n1_ n2_ n3_; clear hb hbox hg; obtain ⟨hcz5_0, hfz5_0, hcz5_1, hfz5_1⟩ := bk2 BK118.out))
  go_ret
  exact ⟨lE, lB⟩
 ·rw [if_neg c3] at H
  have c3b0 : decide (0 ≤ a1) = false := decide_eq_false c3
  clear c3
  obtain rfl := Option.some.inj H
  go_enter Try.func58, Try.ntmps58
  go_wp2_with (first | ((with_reducible refine gate_dst (N := 2) rfl ?_); (try (refine gate_guard (by rfl) ?_; dsimp only)); refine bxe 2 #[.slice A0_0 l0_0.length c0_0, .int .i64 a0_1] 29 ?_; intro gb118 hg w6 hbox hb; have n0_ := Aside0.mk (below_step lB hb); have n1_ := Aside0.mk (hbox); have n2_ := lG w hg; have n3_ := lG w hg; clear HB; have HB := n0_; have BK118 := n1_; have GW118 := n2_; have GE118 := n3_; clear n0_ n1_ n2_ n3_; clear hb hbox hg))
  go_ret
  exact ⟨lE, lB⟩

end Go.Proofs.Ytjmgleomljfieaa.Q
