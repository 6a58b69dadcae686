-- Written by the program wip/tools/pr.py of this claim's session, over the kit's print.py.
import Derived.Test.YtjmgleomljfieaaQx0
import Derived.Test.YtjmgleomljfieaaQx5
import Derived.Test.YtjmgleomljfieaaQx6
namespace Go.Proofs.Ytjmgleomljfieaa.Q
open Go.RowKit Go.Proofs.YtjmgleomljfieaaW.PrintWords Go.Proofs.YtjmgleomljfieaaW.PrintLast Go.Proofs.YtjmgleomljfieaaW.PrintMore
attribute [local go_sem] max2_int min2_int max_two min_two max_three min_three max_four min_four   -- for this text's walks alone
set_option linter.unusedVariables false
set_option linter.unusedSimpArgs false

/-! ### laws_sameInts: function 50 -/
def laws_sameInts.l0 : Nat → List Int → List Int → Int → Int → Option (Bool)
 | 0, _, _, _, _ => none
 | k + 1, x0, x1, x12, x13 => if x13 < x12 then (if 0 ≤ x13 then (if x13 < (x0.length : Int) then (if x13 < (x1.length : Int) then (if (rd x0 x13) = (rd x1 x13) then (laws_sameInts.l0 k x0 x1 x12 (wrap64 (x13 + 1))) else (some false)) else (none)) else (none)) else (none)) else (some true)
def laws_sameInts.f (k : Nat) (l0 : List Int) (l1 : List Int) : Option (Bool) := if (l0.length : Int) = (l1.length : Int) then (laws_sameInts.l0 k l0 l1 (l0.length : Int) 0) else (some false)
theorem laws_sameInts.mono_l : ∀ k, (∀ y0 y1 y2 y3, LeO (laws_sameInts.l0 k y0 y1 y2 y3) (laws_sameInts.l0 (k + 1) y0 y1 y2 y3))
 | 0 => fun _ _ _ _ r h => by simp [laws_sameInts.l0] at h
 | k + 1 => by
  have ih0 := laws_sameInts.mono_l k
  ·intro y0 y1 y2 y3
   unfold laws_sameInts.l0
   repeat' first
   | with_reducible apply ih0
   | (with_reducible exact LeO.refl _)
   | (with_reducible exact LeO.none _)
   | (with_reducible refine LeO.ite ?_ ?_)
   | (with_reducible refine LeO.bind ?_ (fun _ => ?_))
   | apply ih0
   | exact LeO.none _
   | refine LeO.ite ?_ ?_
   | refine LeO.bind ?_ (fun _ => ?_)
theorem laws_sameInts.mono : ∀ a0 a1 k, LeO (laws_sameInts.f k a0 a1) (laws_sameInts.f (k + 1) a0 a1) := by
 intro a0 a1 k
 have ih0 := laws_sameInts.mono_l k
 unfold laws_sameInts.f
 repeat' first
   | with_reducible apply ih0
   | (with_reducible exact LeO.refl _)
   | (with_reducible exact LeO.none _)
   | (with_reducible refine LeO.ite ?_ ?_)
   | (with_reducible refine LeO.bind ?_ (fun _ => ?_))
   | apply ih0
   | exact LeO.none _
   | refine LeO.ite ?_ ?_
   | refine LeO.bind ?_ (fun _ => ?_)
set_option maxHeartbeats 8000000 in
set_option maxRecDepth 100000 in
theorem laws_sameInts.calls (k : Nat) (A0 : Option Addr) (c0 : Nat) (l0 : List Int) (A1 : Option Addr) (c1 : Nat) (l1 : List Int) (r : Bool) (w : World) (hr0 : Kd.C (Kd.int .i64) w A0 l0.length l0) (hc0 : l0.length ≤ c0) (hr1 : Kd.C (Kd.int .i64) w A1 l1.length l1) (hc1 : l1.length ≤ c1) (h : laws_sameInts.f k l0 l1 = some r) :
  Calls Try.prog 50 #[.slice A0 l0.length c0, .slice A1 l1.length c1] w fun e w' => e = .returned (.bool r) ∧ Drawn0 w w' := by
 have HR0 := Aside0.mk hr0
 have HC0 := Aside0.mk hc0
 clear hr0 hc0
 have HR1 := Aside0.mk hr1
 have HC1 := Aside0.mk hc1
 clear hr1 hc1
 have H : (if (l0.length : Int) = (l1.length : Int) then (laws_sameInts.l0 k l0 l1 (l0.length : Int) 0) else (some false)) = some r := h
 clear h
 by_cases c3 : (l0.length : Int) = (l1.length : Int)
 ·rw [if_pos c3] at H
  have c3b0 : ((l0.length : Int) == (l1.length : Int)) = true := beq_iff_eq.mpr c3
  have c3b1 : ((l0.length : Int) != (l1.length : Int)) = false := bne_eq_false_iff_eq.mpr c3
  have c3b2 : (l0.length == l1.length) = true := by first | simpa using c3 | (simp at c3 ⊢; omega)
  clear c3
  have H' := Aside0.mk H
  clear H
  go_enter Try.func50, Try.ntmps50
  go_wp2
  repeat (go_quiet (fail); try go_wp2)
  go_loopg [13] k (fun kq v13 w' => ∃ (x13_1 : Int), v13 = .int .i64 x13_1 ∧ Aside0 (laws_sameInts.l0 kq l0 l1 (l0.length : Int) x13_1 = some r) ∧ Aside0 (kq ≤ k) ∧ Drawn0 w w')
  case atStart => exact ⟨(0), lF, H', ⟨Nat.le_refl _⟩, by repeat (first | exact Drawn0.refl _ | apply Drawn0.step)⟩
  case round =>
   clear H'
   try clear c1
   try clear p2
   try clear c3
   try clear c3b0
   try clear c3b1
   try clear c3b2
   obtain ⟨x13_1, rfl, HA, HK1, ⟨m1, rfl⟩⟩ := hrel
   cases gk with
   | zero => exact absurd HA.out (by simp [laws_sameInts.l0])
   | succ k1 =>
    have H := HA.out
    clear HA
    simp only [laws_sameInts.l0] at H
    by_cases c4 : x13_1 < (l0.length : Int)
    ·rw [if_pos c4] at H
     have c4b0 : decide (x13_1 < (l0.length : Int)) = true := decide_eq_true c4
     clear c4
     by_cases c5 : 0 ≤ x13_1
     ·rw [if_pos c5] at H
      have c5b0 : decide (0 ≤ x13_1) = true := decide_eq_true c5
      clear c5
      by_cases c6 : x13_1 < (l0.length : Int)
      ·rw [if_pos c6] at H
       have c6b0 : decide (x13_1 < (l0.length : Int)) = true := decide_eq_true c6
       clear c6
       by_cases c7 : x13_1 < (l1.length : Int)
       ·rw [if_pos c7] at H
        have c7b0 : decide (x13_1 < (l1.length : Int)) = true := decide_eq_true c7
        clear c7
        by_cases c8 : (rd l0 x13_1) = (rd l1 x13_1)
        ·rw [if_pos c8] at H
         have c8b0 : ((rd l0 x13_1) == (rd l1 x13_1)) = true := beq_iff_eq.mpr c8
         have c8b1 : ((rd l0 x13_1) != (rd l1 x13_1)) = false := bne_eq_false_iff_eq.mpr c8
         clear c8
         have H' := Aside0.mk H
         clear H
         have p299 : 0 ≤ (x13_1 : Int) := lD
         have q299 : x13_1 < (l0.length : Int) := lD
         obtain ⟨ad299, e299, hx299_0⟩ := Kd.at_int HR0.out x13_1 p299 q299
         cases e299
         replace p299 := eq_true p299
         replace q299 := eq_true q299
         have p300 : 0 ≤ (x13_1 : Int) := lD
         have q300 : x13_1 < (l1.length : Int) := lD
         obtain ⟨ad300, e300, hx300_0⟩ := Kd.at_int HR1.out x13_1 p300 q300
         cases e300
         replace p300 := eq_true p300
         replace q300 := eq_true q300
         go_wp2
         repeat (go_quiet (fail); try go_wp2)
         go_roundg k1
         case measure => have := HK1.out; omega
         case rel => exact ⟨(wrap64 (x13_1 + 1)), lF, H', ⟨by have := HK1.out; omega⟩, by repeat (first | exact Drawn0.refl _ | apply Drawn0.step)⟩
        ·rw [if_neg c8] at H
         have c8b0 : ((rd l0 x13_1) == (rd l1 x13_1)) = false := beq_eq_false_iff_ne.mpr c8
         have c8b1 : ((rd l0 x13_1) != (rd l1 x13_1)) = true := bne_iff_ne.mpr c8
         obtain rfl := Option.some.inj H
         have p299 : 0 ≤ (x13_1 : Int) := lD
         have q299 : x13_1 < (l0.length : Int) := lD
         obtain ⟨ad299, e299, hx299_0⟩ := Kd.at_int HR0.out x13_1 p299 q299
         cases e299
         replace p299 := eq_true p299
         replace q299 := eq_true q299
         have p300 : 0 ≤ (x13_1 : Int) := lD
         have q300 : x13_1 < (l1.length : Int) := lD
         obtain ⟨ad300, e300, hx300_0⟩ := Kd.at_int HR1.out x13_1 p300 q300
         cases e300
         replace p300 := eq_true p300
         replace q300 := eq_true q300
         go_wp2
         repeat (go_quiet (fail); try go_wp2)
         go_ret
         exact ⟨by first | rfl | (simp; done) | (simp [*]; done), by repeat (first | exact Drawn0.refl _ | apply Drawn0.step)⟩
       ·rw [if_neg c7] at H
        exact absurd H (by simp)
      ·rw [if_neg c6] at H
       exact absurd H (by simp)
     ·rw [if_neg c5] at H
      exact absurd H (by simp)
    ·rw [if_neg c4] at H
     have c4b0 : decide (x13_1 < (l0.length : Int)) = false := decide_eq_false c4
     clear c4
     obtain rfl := Option.some.inj H
     go_wp2
     repeat (go_quiet (fail); try go_wp2)
     go_ret
     exact ⟨by first | rfl | (simp; done) | (simp [*]; done), by repeat (first | exact Drawn0.refl _ | apply Drawn0.step)⟩
 ·rw [if_neg c3] at H
  have c3b0 : ((l0.length : Int) == (l1.length : Int)) = false := beq_eq_false_iff_ne.mpr c3
  have c3b1 : ((l0.length : Int) != (l1.length : Int)) = true := bne_iff_ne.mpr c3
  have c3b2 : (l0.length == l1.length) = false := by first | simpa using c3 | (simp at c3 ⊢; omega)
  obtain rfl := Option.some.inj H
  go_enter Try.func50, Try.ntmps50
  go_wp2
  repeat (go_quiet (fail); try go_wp2)
  go_ret
  exact ⟨by first | rfl | (simp; done) | (simp [*]; done), by repeat (first | exact Drawn0.refl _ | apply Drawn0.step)⟩

/-! ### laws_sameWorlds: function 36 -/
mutual
def laws_sameWorlds.j0 : Nat → Bool → List (S82) → Int → List (S82) → Int → Option (Bool)
 | 0, _, _, _, _, _ => none
 | k + 1, x19, x302000, x302001, x303000, x303001 => if x19 = true then (some false) else (laws_sameWorlds.l0 k (x302000.length : Int) 0 x302000 x302001 x303000 x303001)
def laws_sameWorlds.l0 : Nat → Int → Int → List (S82) → Int → List (S82) → Int → Option (Bool)
 | 0, _, _, _, _, _, _ => none
 | k + 1, x22, x23, x302000, x302001, x303000, x303001 => if x23 < x22 then (if 0 ≤ x23 then (if x23 < (x302000.length : Int) then (if x23 < (x303000.length : Int) then (if ((rd_T82 x302000 x23).f0) = ((rd_T82 x303000 x23).f0) then ((laws_sameInts.f k ((rd_T82 x302000 x23).f1) ((rd_T82 x303000 x23).f1)).bind fun t307 => (if t307 = true then (laws_sameWorlds.l0 k x22 (wrap64 (x23 + 1)) x302000 x302001 x303000 x303001) else (some false))) else (some false)) else (none)) else (none)) else (none)) else (some true)
end
def laws_sameWorlds.f (k : Nat) (l0_0 : List (S82)) (a0_1 : Int) (l1_0 : List (S82)) (a1_1 : Int) : Option (Bool) := if a0_1 = a1_1 then (laws_sameWorlds.j0 k ((l0_0.length : Int) != (l1_0.length : Int)) l0_0 a0_1 l1_0 a1_1) else (laws_sameWorlds.j0 k true l0_0 a0_1 l1_0 a1_1)
theorem laws_sameWorlds.mono_l : ∀ k, (∀ y0 y1 y2 y3 y4, LeO (laws_sameWorlds.j0 k y0 y1 y2 y3 y4) (laws_sameWorlds.j0 (k + 1) y0 y1 y2 y3 y4)) ∧ (∀ y0 y1 y2 y3 y4 y5, LeO (laws_sameWorlds.l0 k y0 y1 y2 y3 y4 y5) (laws_sameWorlds.l0 (k + 1) y0 y1 y2 y3 y4 y5))
 | 0 => ⟨fun _ _ _ _ _ r h => by simp [laws_sameWorlds.j0] at h, fun _ _ _ _ _ _ r h => by simp [laws_sameWorlds.l0] at h⟩
 | k + 1 => by
  obtain ⟨ih0, ih1⟩ := laws_sameWorlds.mono_l k
  refine ⟨?_, ?_⟩
  ·intro y0 y1 y2 y3 y4
   unfold laws_sameWorlds.j0
   repeat' first
   | with_reducible apply ih0
   | with_reducible apply ih1
   | with_reducible apply laws_sameInts.mono
   | (with_reducible exact LeO.refl _)
   | (with_reducible exact LeO.none _)
   | (with_reducible refine LeO.ite ?_ ?_)
   | (with_reducible refine LeO.bind ?_ (fun _ => ?_))
   | apply ih0
   | apply ih1
   | apply laws_sameInts.mono
   | exact LeO.none _
   | refine LeO.ite ?_ ?_
   | refine LeO.bind ?_ (fun _ => ?_)
  ·intro y0 y1 y2 y3 y4 y5
   unfold laws_sameWorlds.l0
   repeat' first
   | with_reducible apply ih0
   | with_reducible apply ih1
   | with_reducible apply laws_sameInts.mono
   | (with_reducible exact LeO.refl _)
   | (with_reducible exact LeO.none _)
   | (with_reducible refine LeO.ite ?_ ?_)
   | (with_reducible refine LeO.bind ?_ (fun _ => ?_))
   | apply ih0
   | apply ih1
   | apply laws_sameInts.mono
   | exact LeO.none _
   | refine LeO.ite ?_ ?_
   | refine LeO.bind ?_ (fun _ => ?_)
theorem laws_sameWorlds.mono : ∀ a0 a1 a2 a3 k, LeO (laws_sameWorlds.f k a0 a1 a2 a3) (laws_sameWorlds.f (k + 1) a0 a1 a2 a3) := by
 intro a0 a1 a2 a3 k
 obtain ⟨ih0, ih1⟩ := laws_sameWorlds.mono_l k
 unfold laws_sameWorlds.f
 repeat' first
   | with_reducible apply ih0
   | with_reducible apply ih1
   | with_reducible apply laws_sameInts.mono
   | (with_reducible exact LeO.refl _)
   | (with_reducible exact LeO.none _)
   | (with_reducible refine LeO.ite ?_ ?_)
   | (with_reducible refine LeO.bind ?_ (fun _ => ?_))
   | apply ih0
   | apply ih1
   | apply laws_sameInts.mono
   | exact LeO.none _
   | refine LeO.ite ?_ ?_
   | refine LeO.bind ?_ (fun _ => ?_)
set_option maxHeartbeats 8000000 in
set_option maxRecDepth 100000 in
theorem laws_sameWorlds.calls (k : Nat) (A0_0 : Option Addr) (c0_0 : Nat) (l0_0 : List (S82)) (a0_1 : Int) (A1_0 : Option Addr) (c1_0 : Nat) (l1_0 : List (S82)) (a1_1 : Int) (r : Bool) (w : World) (hr0_0 : Kd.C k82 w A0_0 l0_0.length l0_0) (hc0_0 : l0_0.length ≤ c0_0) (hr1_0 : Kd.C k82 w A1_0 l1_0.length l1_0) (hc1_0 : l1_0.length ≤ c1_0) (h : laws_sameWorlds.f k l0_0 a0_1 l1_0 a1_1 = some r) :
  Calls Try.prog 36 #[.agg #[.slice A0_0 l0_0.length c0_0, .int .i64 a0_1], .agg #[.slice A1_0 l1_0.length c1_0, .int .i64 a1_1]] w fun e w' => e = .returned (.bool r) ∧ Below w.heap.size w w' := by
 have hu29 := Try.underlying29
 have HR0_0 := Aside0.mk hr0_0
 have HC0_0 := Aside0.mk hc0_0
 clear hr0_0 hc0_0
 have HR1_0 := Aside0.mk hr1_0
 have HC1_0 := Aside0.mk hc1_0
 clear hr1_0 hc1_0
 have HB := Aside0.mk (Below.refl w.heap.size w)
 have H : (if a0_1 = a1_1 then (laws_sameWorlds.j0 k ((l0_0.length : Int) != (l1_0.length : Int)) l0_0 a0_1 l1_0 a1_1) else (laws_sameWorlds.j0 k true l0_0 a0_1 l1_0 a1_1)) = some r := h
 clear h
 have HC3 := Aside0.mk H
 clear H
 go_enter Try.func36, Try.ntmps36
 go_upto_region 1 with (first | ((with_reducible refine gate_dst (N := 2) rfl ?_); (try (refine gate_guard (by rfl) ?_; dsimp only)); refine bxe 2 #[.slice A0_0 l0_0.length c0_0, .int .i64 a0_1] 29 ?_; intro gb301 hg w4 hbox hb; have n0_ := Aside0.mk (below_step lB hb); have n1_ := Aside0.mk (hbox); have n2_ := lG w hg; have n3_ := lG w hg; clear HB; have HB := n0_; have BK301 := n1_; have GW301 := n2_; have GE301 := n3_; clear n0_ n1_ n2_ n3_; clear hb hbox hg) | ((with_reducible refine gate_dst (N := 3) rfl ?_); (try (refine gate_guard (by rfl) ?_; dsimp only)); refine bxe 3 #[.slice A1_0 l1_0.length c1_0, .int .i64 a1_1] 29 ?_; intro gb302 hg w5 hbox hb; have n0_ := Aside0.mk (blk_below (lK BK301.out) hb); have n1_ := Aside0.mk (below_step lB hb); have n2_ := Aside0.mk (hbox); have n3_ := lG w hg; have n4_ := lG w hg; have n5_ := Aside0.mk ((by rw [hg]; exact Nat.ne_of_lt (blk_lt (lK BK301.out)) : gb301 ≠ gb302)); have n6_ := Aside0.mk ((by rw [hg]; exact Nat.ne_of_gt (blk_lt (lK BK301.out)) : gb302 ≠ gb301)); clear BK301; clear HB; have BK301 := n0_; have HB := n1_; have BK302 := n2_; have GW302 := n3_; have GE302 := n4_; have NB301_302 := n5_; have NB302_301 := n6_; clear n0_ n1_ n2_ n3_ n4_ n5_ n6_; clear hb hbox hg))
 repeat (go_quiet (fail); go_upto_region 1 with (first | ((with_reducible refine gate_dst (N := 2) rfl ?_); (try (refine gate_guard (by rfl) ?_; dsimp only)); refine bxe 2 #[.slice A0_0 l0_0.length c0_0, .int .i64 a0_1] 29 ?_; intro gb301 hg w4 hbox hb; have n0_ := Aside0.mk (below_step lB hb); have n1_ := Aside0.mk (hbox); have n2_ := lG w hg; have n3_ := lG w hg; clear HB; have HB := n0_; have BK301 := n1_; have GW301 := n2_; have GE301 := n3_; clear n0_ n1_ n2_ n3_; clear hb hbox hg) | ((with_reducible refine gate_dst (N := 3) rfl ?_); (try (refine gate_guard (by rfl) ?_; dsimp only)); refine bxe 3 #[.slice A1_0 l1_0.length c1_0, .int .i64 a1_1] 29 ?_; intro gb302 hg w5 hbox hb; have n0_ := Aside0.mk (blk_below (lK BK301.out) hb); have n1_ := Aside0.mk (below_step lB hb); have n2_ := Aside0.mk (hbox); have n3_ := lG w hg; have n4_ := lG w hg; have n5_ := Aside0.mk ((by rw [hg]; exact Nat.ne_of_lt (blk_lt (lK BK301.out)) : gb301 ≠ gb302)); have n6_ := Aside0.mk ((by rw [hg]; exact Nat.ne_of_gt (blk_lt (lK BK301.out)) : gb302 ≠ gb301)); clear BK301; clear HB; have BK301 := n0_; have HB := n1_; have BK302 := n2_; have GW302 := n3_; have GE302 := n4_; have NB301_302 := n5_; have NB302_301 := n6_; clear n0_ n1_ n2_ n3_ n4_ n5_ n6_; clear hb hbox hg)))
 (try simp only [Act.put, List.setIfInBounds_toArray, List.set_cons_zero, List.set_cons_succ])
 go_cut [19] (fun v19 wc => ∃ (kq : Nat) (x19_2 : Bool), v19 = .bool x19_2 ∧ Aside0 (laws_sameWorlds.j0 kq x19_2 l0_0 a0_1 l1_0 a1_1 = some r) ∧ Aside0 (kq ≤ k) ∧ Aside0 (wc.heap[gb301]? = some (.cells #[(.slice A0_0 l0_0.length c0_0), .int .i64 a0_1] 29 (0, 0))) ∧ Aside0 (wc.heap[gb302]? = some (.cells #[(.slice A1_0 l1_0.length c1_0), .int .i64 a1_1] 29 (0, 0))) ∧ Aside0 (Below w.heap.size w wc))
 case first =>
  have H := HC3.out
  clear HC3
  by_cases c6 : a0_1 = a1_1
  ·rw [if_pos c6] at H
   have c6b0 : (a0_1 == a1_1) = true := beq_iff_eq.mpr c6
   have c6b1 : (a0_1 != a1_1) = false := bne_eq_false_iff_eq.mpr c6
   clear c6
   (first | rw [c6b0] | (simp only [i64_w, i32_w]; rw [c6b0]) | skip)
   have H' := Aside0.mk H
   clear H
   have hnb7 := NB301_302.out
   have hnc7 := NB302_301.out
   obtain ⟨hcz8_0, hfz8_0, hcz8_1, hfz8_1⟩ := bk2 BK301.out
   obtain ⟨hcz9_0, hfz9_0, hcz9_1, hfz9_1⟩ := bk2 BK302.out
   go_wp2
   repeat (go_quiet (fail); try go_wp2)
   go_meet
   case rel => exact ⟨_, (((l0_0.length : Int) != (l1_0.length : Int))), lF, H', ⟨lN⟩, ⟨lK BK301.out⟩, ⟨lK BK302.out⟩, ⟨lB⟩⟩
  ·rw [if_neg c6] at H
   have c6b0 : (a0_1 == a1_1) = false := beq_eq_false_iff_ne.mpr c6
   have c6b1 : (a0_1 != a1_1) = true := bne_iff_ne.mpr c6
   (first | rw [c6b0] | (simp only [i64_w, i32_w]; rw [c6b0]) | skip)
   have H' := Aside0.mk H
   clear H
   have hnb10 := NB301_302.out
   have hnc10 := NB302_301.out
   obtain ⟨hcz11_0, hfz11_0, hcz11_1, hfz11_1⟩ := bk2 BK301.out
   obtain ⟨hcz12_0, hfz12_0, hcz12_1, hfz12_1⟩ := bk2 BK302.out
   go_wp2
   repeat (go_quiet (fail); try go_wp2)
   go_meet
   case rel => exact ⟨_, (true), lF, H', ⟨lN⟩, ⟨lK BK301.out⟩, ⟨lK BK302.out⟩, ⟨lB⟩⟩
 case rest =>
  clear HC3
  try clear c1
  try clear p2
  try clear c3
  try clear c6
  try clear c6b0
  try clear c6b1
  try clear c7
  try clear c10
  try clear hcz11_0 hcz11_1
  try clear hcz12_0 hcz12_1
  try clear hcz8_0 hcz8_1
  try clear hcz9_0 hcz9_1
  try clear hfz11_0 hfz11_1
  try clear hfz12_0 hfz12_1
  try clear hfz8_0 hfz8_1
  try clear hfz9_0 hfz9_1
  obtain ⟨kq, x19_2, rfl, HA, HJ2, BK301, BK302, HB⟩ := hcut
  cases kq with
  | zero => exact absurd HA.out (by simp [laws_sameWorlds.j0])
  | succ kj2 =>
   have H := HA.out
   clear HA
   simp only [laws_sameWorlds.j0] at H
   by_cases c13 : x19_2 = true
   ·subst c13
    rw [if_pos rfl] at H
    obtain rfl := Option.some.inj H
    go_wp2
    repeat (go_quiet (fail); try go_wp2)
    go_ret
    exact ⟨lE, lB⟩
   ·replace c13 := Bool.eq_false_iff.mpr c13
    subst c13
    rw [if_neg (show ¬ (false = true) by decide)] at H
    have H' := Aside0.mk H
    clear H
    have hnb14 := NB301_302.out
    have hnc14 := NB302_301.out
    obtain ⟨hcz15_0, hfz15_0, hcz15_1, hfz15_1⟩ := bk2 BK301.out
    go_wp2
    repeat (go_quiet (fail); try go_wp2)
    go_loopg [23] kj2 (fun kq v23 w' => ∃ (x23_2 : Int), v23 = .int .i64 x23_2 ∧ Aside0 (laws_sameWorlds.l0 kq (l0_0.length : Int) x23_2 l0_0 a0_1 l1_0 a1_1 = some r) ∧ Aside0 (kq ≤ kj2) ∧ Aside0 (w'.heap[gb301]? = some (.cells #[(.slice A0_0 l0_0.length c0_0), .int .i64 a0_1] 29 (0, 0))) ∧ Aside0 (w'.heap[gb302]? = some (.cells #[(.slice A1_0 l1_0.length c1_0), .int .i64 a1_1] 29 (0, 0))) ∧ Aside0 (Below w.heap.size w w'))
    case atStart => exact ⟨(0), lF, H', ⟨Nat.le_refl _⟩, ⟨lK BK301.out⟩, ⟨lK BK302.out⟩, ⟨lB⟩⟩
    case round =>
     clear H'
     try clear c1
     try clear p2
     try clear c3
     try clear c6
     try clear c6b0
     try clear c6b1
     try clear c7
     try clear c10
     try clear c13
     try clear c14
     try clear hcz11_0 hcz11_1
     try clear hcz12_0 hcz12_1
     try clear hcz15_0 hcz15_1
     try clear hcz8_0 hcz8_1
     try clear hcz9_0 hcz9_1
     try clear hfz11_0 hfz11_1
     try clear hfz12_0 hfz12_1
     try clear hfz15_0 hfz15_1
     try clear hfz8_0 hfz8_1
     try clear hfz9_0 hfz9_1
     try clear p2
     obtain ⟨x23_2, rfl, HA, HK2, BK301, BK302, HB⟩ := hrel
     cases gk with
     | zero => exact absurd HA.out (by simp [laws_sameWorlds.l0])
     | succ k2 =>
      have H := HA.out
      clear HA
      simp only [laws_sameWorlds.l0] at H
      by_cases c16 : x23_2 < (l0_0.length : Int)
      ·rw [if_pos c16] at H
       have c16b0 : decide (x23_2 < (l0_0.length : Int)) = true := decide_eq_true c16
       clear c16
       by_cases c17 : 0 ≤ x23_2
       ·rw [if_pos c17] at H
        have c17b0 : decide (0 ≤ x23_2) = true := decide_eq_true c17
        clear c17
        by_cases c18 : x23_2 < (l0_0.length : Int)
        ·rw [if_pos c18] at H
         have c18b0 : decide (x23_2 < (l0_0.length : Int)) = true := decide_eq_true c18
         clear c18
         by_cases c19 : x23_2 < (l1_0.length : Int)
         ·rw [if_pos c19] at H
          have c19b0 : decide (x23_2 < (l1_0.length : Int)) = true := decide_eq_true c19
          clear c19
          by_cases c20 : ((rd_T82 l0_0 x23_2).f0) = ((rd_T82 l1_0 x23_2).f0)
          ·rw [if_pos c20] at H
           have c20b0 : (((rd_T82 l0_0 x23_2).f0) == ((rd_T82 l1_0 x23_2).f0)) = true := beq_iff_eq.mpr c20
           have c20b1 : (((rd_T82 l0_0 x23_2).f0) != ((rd_T82 l1_0 x23_2).f0)) = false := bne_eq_false_iff_eq.mpr c20
           clear c20
           replace H := lO H
           obtain ⟨t307, A21, H⟩ := H
           by_cases c22 : t307 = true
           ·subst c22
            rw [if_pos rfl] at H
            have H' := Aside0.mk H
            clear H
            have hnb23 := NB301_302.out
            have hnc23 := NB302_301.out
            obtain ⟨hcz24_0, hfz24_0, hcz24_1, hfz24_1⟩ := bk2 BK301.out
            have p303 : 0 ≤ (x23_2 : Int) := lD
            have q303 : x23_2 < (l0_0.length : Int) := lD
            obtain ⟨ad303, A303_1, c303_1, e303, hx303_0, hx303_1, hl303_1, hi303_1⟩ := at_T82 HR0_0.out x23_2 p303 q303
            cases e303
            replace hx303_0 := pw_cell_below HB.out hx303_0
            replace hx303_1 := pw_cell_below HB.out hx303_1
            have HR303_1 := Aside0.mk hi303_1
            have HC303_1 := Aside0.mk hl303_1
            clear hi303_1 hl303_1
            replace p303 := eq_true p303
            replace q303 := eq_true q303
            obtain ⟨hcz25_0, hfz25_0, hcz25_1, hfz25_1⟩ := bk2 BK302.out
            have p304 : 0 ≤ (x23_2 : Int) := lD
            have q304 : x23_2 < (l1_0.length : Int) := lD
            obtain ⟨ad304, A304_1, c304_1, e304, hx304_0, hx304_1, hl304_1, hi304_1⟩ := at_T82 HR1_0.out x23_2 p304 q304
            cases e304
            replace hx304_0 := pw_cell_below HB.out hx304_0
            replace hx304_1 := pw_cell_below HB.out hx304_1
            have HR304_1 := Aside0.mk hi304_1
            have HC304_1 := Aside0.mk hl304_1
            clear hi304_1 hl304_1
            replace p304 := eq_true p304
            replace q304 := eq_true q304
            have p305 : 0 ≤ (x23_2 : Int) := lD
            have q305 : x23_2 < (l0_0.length : Int) := lD
            obtain ⟨ad305, A305_1, c305_1, e305, hx305_0, hx305_1, hl305_1, hi305_1⟩ := at_T82 HR0_0.out x23_2 p305 q305
            obtain rfl : ad303 = ad305 := (by injection e305)
            replace hx305_0 := pw_cell_below HB.out hx305_0
            replace hx305_1 := pw_cell_below HB.out hx305_1
            have HR305_1 := Aside0.mk hi305_1
            have HC305_1 := Aside0.mk hl305_1
            clear hi305_1 hl305_1
            replace p305 := eq_true p305
            replace q305 := eq_true q305
            have ea_ := Option.some.inj (hx303_1.symm.trans hx305_1)
            injection ea_ with ea_ en_ ec_
            subst ea_
            subst ec_
            clear en_
            have p306 : 0 ≤ (x23_2 : Int) := lD
            have q306 : x23_2 < (l1_0.length : Int) := lD
            obtain ⟨ad306, A306_1, c306_1, e306, hx306_0, hx306_1, hl306_1, hi306_1⟩ := at_T82 HR1_0.out x23_2 p306 q306
            obtain rfl : ad304 = ad306 := (by injection e306)
            replace hx306_0 := pw_cell_below HB.out hx306_0
            replace hx306_1 := pw_cell_below HB.out hx306_1
            have HR306_1 := Aside0.mk hi306_1
            have HC306_1 := Aside0.mk hl306_1
            clear hi306_1 hl306_1
            replace p306 := eq_true p306
            replace q306 := eq_true q306
            have ea_ := Option.some.inj (hx304_1.symm.trans hx306_1)
            injection ea_ with ea_ en_ ec_
            subst ea_
            subst ec_
            clear en_
            go_wp2_with (first | (go_at_call 50; (with_reducible refine (laws_sameInts.calls k2 _ _ ((rd_T82 l0_0 x23_2).f1) _ _ ((rd_T82 l1_0 x23_2).f1) true _ ?side1 ?side2 ?side3 ?side4 A21.out).mono ?_); (case side1 => exact lC (Kd.C_below HR305_1.out HB.out)); (case side2 => exact HC305_1.out); (case side3 => exact lC (Kd.C_below HR306_1.out HB.out)); (case side4 => exact HC306_1.out); rintro e w' ⟨rfl, ⟨nd, rfl⟩⟩; (try first | exact ⟨rfl, _, World.drewN_drewN _ _ _⟩ | exact ⟨rfl, _, Eq.trans (World.drewN_drewN _ _ _) (congrArg (World.drewN _) (Nat.add_assoc _ _ _))⟩)))
            repeat (go_quiet (first | (go_at_call 50; (with_reducible refine (laws_sameInts.calls k2 _ _ ((rd_T82 l0_0 x23_2).f1) _ _ ((rd_T82 l1_0 x23_2).f1) true _ ?side1 ?side2 ?side3 ?side4 A21.out).mono ?_); (case side1 => exact lC (Kd.C_below HR305_1.out HB.out)); (case side2 => exact HC305_1.out); (case side3 => exact lC (Kd.C_below HR306_1.out HB.out)); (case side4 => exact HC306_1.out); rintro e w' ⟨rfl, ⟨nd, rfl⟩⟩; (try first | exact ⟨rfl, _, World.drewN_drewN _ _ _⟩ | exact ⟨rfl, _, Eq.trans (World.drewN_drewN _ _ _) (congrArg (World.drewN _) (Nat.add_assoc _ _ _))⟩))); try go_wp2_with (first | (go_at_call 50; (with_reducible refine (laws_sameInts.calls k2 _ _ ((rd_T82 l0_0 x23_2).f1) _ _ ((rd_T82 l1_0 x23_2).f1) true _ ?side1 ?side2 ?side3 ?side4 A21.out).mono ?_); (case side1 => exact lC (Kd.C_below HR305_1.out HB.out)); (case side2 => exact HC305_1.out); (case side3 => exact lC (Kd.C_below HR306_1.out HB.out)); (case side4 => exact HC306_1.out); rintro e w' ⟨rfl, ⟨nd, rfl⟩⟩; (try first | exact ⟨rfl, _, World.drewN_drewN _ _ _⟩ | exact ⟨rfl, _, Eq.trans (World.drewN_drewN _ _ _) (congrArg (World.drewN _) (Nat.add_assoc _ _ _))⟩))))
            go_roundg k2
            case measure => have := HJ2.out; have := HK2.out; omega
            case rel => exact ⟨(wrap64 (x23_2 + 1)), lF, H', ⟨by have := HJ2.out; have := HK2.out; omega⟩, ⟨lK BK301.out⟩, ⟨lK BK302.out⟩, ⟨lB⟩⟩
           ·replace c22 := Bool.eq_false_iff.mpr c22
            subst c22
            rw [if_neg (show ¬ (false = true) by decide)] at H
            obtain rfl := Option.some.inj H
            have hnb26 := NB301_302.out
            have hnc26 := NB302_301.out
            obtain ⟨hcz27_0, hfz27_0, hcz27_1, hfz27_1⟩ := bk2 BK301.out
            have p303 : 0 ≤ (x23_2 : Int) := lD
            have q303 : x23_2 < (l0_0.length : Int) := lD
            obtain ⟨ad303, A303_1, c303_1, e303, hx303_0, hx303_1, hl303_1, hi303_1⟩ := at_T82 HR0_0.out x23_2 p303 q303
            cases e303
            replace hx303_0 := pw_cell_below HB.out hx303_0
            replace hx303_1 := pw_cell_below HB.out hx303_1
            have HR303_1 := Aside0.mk hi303_1
            have HC303_1 := Aside0.mk hl303_1
            clear hi303_1 hl303_1
            replace p303 := eq_true p303
            replace q303 := eq_true q303
            obtain ⟨hcz28_0, hfz28_0, hcz28_1, hfz28_1⟩ := bk2 BK302.out
            have p304 : 0 ≤ (x23_2 : Int) := lD
            have q304 : x23_2 < (l1_0.length : Int) := lD
            obtain ⟨ad304, A304_1, c304_1, e304, hx304_0, hx304_1, hl304_1, hi304_1⟩ := at_T82 HR1_0.out x23_2 p304 q304
            cases e304
            replace hx304_0 := pw_cell_below HB.out hx304_0
            replace hx304_1 := pw_cell_below HB.out hx304_1
            have HR304_1 := Aside0.mk hi304_1
            have HC304_1 := Aside0.mk hl304_1
            clear hi304_1 hl304_1
            replace p304 := eq_true p304
            replace q304 := eq_true q304
            have p305 : 0 ≤ (x23_2 : Int) := lD
            have q305 : x23_2 < (l0_0.length : Int) := lD
            obtain ⟨ad305, A305_1, c305_1, e305, hx305_0, hx305_1, hl305_1, hi305_1⟩ := at_T82 HR0_0.out x23_2 p305 q305
            obtain rfl : ad303 = ad305 := (by injection e305)
            replace hx305_0 := pw_cell_below HB.out hx305_0
            replace hx305_1 := pw_cell_below HB.out hx305_1
            have HR305_1 := Aside0.mk hi305_1
            have HC305_1 := Aside0.mk hl305_1
            clear hi305_1 hl305_1
            replace p305 := eq_true p305
            replace q305 := eq_true q305
            have ea_ := Option.some.inj (hx303_1.symm.trans hx305_1)
            injection ea_ with ea_ en_ ec_
            subst ea_
            subst ec_
            clear en_
            have p306 : 0 ≤ (x23_2 : Int) := lD
            have q306 : x23_2 < (l1_0.length : Int) := lD
            obtain ⟨ad306, A306_1, c306_1, e306, hx306_0, hx306_1, hl306_1, hi306_1⟩ := at_T82 HR1_0.out x23_2 p306 q306
            obtain rfl : ad304 = ad306 := (by injection e306)
            replace hx306_0 := pw_cell_below HB.out hx306_0
            replace hx306_1 := pw_cell_below HB.out hx306_1
            have HR306_1 := Aside0.mk hi306_1
            have HC306_1 := Aside0.mk hl306_1
            clear hi306_1 hl306_1
            replace p306 := eq_true p306
            replace q306 := eq_true q306
            have ea_ := Option.some.inj (hx304_1.symm.trans hx306_1)
            injection ea_ with ea_ en_ ec_
            subst ea_
            subst ec_
            clear en_
            go_wp2_with (first | (go_at_call 50; (with_reducible refine (laws_sameInts.calls k2 _ _ ((rd_T82 l0_0 x23_2).f1) _ _ ((rd_T82 l1_0 x23_2).f1) false _ ?side1 ?side2 ?side3 ?side4 A21.out).mono ?_); (case side1 => exact lC (Kd.C_below HR305_1.out HB.out)); (case side2 => exact HC305_1.out); (case side3 => exact lC (Kd.C_below HR306_1.out HB.out)); (case side4 => exact HC306_1.out); rintro e w' ⟨rfl, ⟨nd, rfl⟩⟩; (try first | exact ⟨rfl, _, World.drewN_drewN _ _ _⟩ | exact ⟨rfl, _, Eq.trans (World.drewN_drewN _ _ _) (congrArg (World.drewN _) (Nat.add_assoc _ _ _))⟩)))
            repeat (go_quiet (first | (go_at_call 50; (with_reducible refine (laws_sameInts.calls k2 _ _ ((rd_T82 l0_0 x23_2).f1) _ _ ((rd_T82 l1_0 x23_2).f1) false _ ?side1 ?side2 ?side3 ?side4 A21.out).mono ?_); (case side1 => exact lC (Kd.C_below HR305_1.out HB.out)); (case side2 => exact HC305_1.out); (case side3 => exact lC (Kd.C_below HR306_1.out HB.out)); (case side4 => exact HC306_1.out); rintro e w' ⟨rfl, ⟨nd, rfl⟩⟩; (try first | exact ⟨rfl, _, World.drewN_drewN _ _ _⟩ | exact ⟨rfl, _, Eq.trans (World.drewN_drewN _ _ _) (congrArg (World.drewN _) (Nat.add_assoc _ _ _))⟩))); try go_wp2_with (first | (go_at_call 50; (with_reducible refine (laws_sameInts.calls k2 _ _ ((rd_T82 l0_0 x23_2).f1) _ _ ((rd_T82 l1_0 x23_2).f1) false _ ?side1 ?side2 ?side3 ?side4 A21.out).mono ?_); (case side1 => exact lC (Kd.C_below HR305_1.out HB.out)); (case side2 => exact HC305_1.out); (case side3 => exact lC (Kd.C_below HR306_1.out HB.out)); (case side4 => exact HC306_1.out); rintro e w' ⟨rfl, ⟨nd, rfl⟩⟩; (try first | exact ⟨rfl, _, World.drewN_drewN _ _ _⟩ | exact ⟨rfl, _, Eq.trans (World.drewN_drewN _ _ _) (congrArg (World.drewN _) (Nat.add_assoc _ _ _))⟩))))
            go_ret
            exact ⟨lE, lB⟩
          ·rw [if_neg c20] at H
           have c20b0 : (((rd_T82 l0_0 x23_2).f0) == ((rd_T82 l1_0 x23_2).f0)) = false := beq_eq_false_iff_ne.mpr c20
           have c20b1 : (((rd_T82 l0_0 x23_2).f0) != ((rd_T82 l1_0 x23_2).f0)) = true := bne_iff_ne.mpr c20
           obtain rfl := Option.some.inj H
           have hnb29 := NB301_302.out
           have hnc29 := NB302_301.out
           obtain ⟨hcz30_0, hfz30_0, hcz30_1, hfz30_1⟩ := bk2 BK301.out
           have p303 : 0 ≤ (x23_2 : Int) := lD
           have q303 : x23_2 < (l0_0.length : Int) := lD
           obtain ⟨ad303, A303_1, c303_1, e303, hx303_0, hx303_1, hl303_1, hi303_1⟩ := at_T82 HR0_0.out x23_2 p303 q303
           cases e303
           replace hx303_0 := pw_cell_below HB.out hx303_0
           replace hx303_1 := pw_cell_below HB.out hx303_1
           have HR303_1 := Aside0.mk hi303_1
           have HC303_1 := Aside0.mk hl303_1
           clear hi303_1 hl303_1
           replace p303 := eq_true p303
           replace q303 := eq_true q303
           obtain ⟨hcz31_0, hfz31_0, hcz31_1, hfz31_1⟩ := bk2 BK302.out
           have p304 : 0 ≤ (x23_2 : Int) := lD
           have q304 : x23_2 < (l1_0.length : Int) := lD
           obtain ⟨ad304, A304_1, c304_1, e304, hx304_0, hx304_1, hl304_1, hi304_1⟩ := at_T82 HR1_0.out x23_2 p304 q304
           cases e304
           replace hx304_0 := pw_cell_below HB.out hx304_0
           replace hx304_1 := pw_cell_below HB.out hx304_1
           have HR304_1 := Aside0.mk hi304_1
           have HC304_1 := Aside0.mk hl304_1
           clear hi304_1 hl304_1
           replace p304 := eq_true p304
           replace q304 := eq_true q304
           go_wp2
           repeat (go_quiet (fail); try go_wp2)
           go_ret
           exact ⟨lE, lB⟩
         ·rw [if_neg c19] at H
          exact absurd H (by simp)
        ·rw [if_neg c18] at H
         exact absurd H (by simp)
       ·rw [if_neg c17] at H
        exact absurd H (by simp)
      ·rw [if_neg c16] at H
       have c16b0 : decide (x23_2 < (l0_0.length : Int)) = false := decide_eq_false c16
       clear c16
       obtain rfl := Option.some.inj H
       go_wp2
       repeat (go_quiet (fail); try go_wp2)
       go_ret
       exact ⟨lE, lB⟩

/-! ### spec_DrawFindMethod: function 37 -/
def spec_DrawFindMethod.f (k : Nat) (l0 : List Int) : Option ((List (S82)) × Int × Int × Int) := (spec_l1Cur_world.f k l0 0 0).bind fun bt310 => ((spec_l1Cur_pick.f l0 bt310.2.2.1 bt310.2.2.2 (wrap64 ((bt310.1.length : Int) + 1))).bind fun bt317 => ((spec_l1Cur_pick.f l0 bt317.2.1 bt317.2.2 6).bind fun bt320 => (some (bt310.1, bt310.2.1, bt317.1, bt320.1))))
theorem spec_DrawFindMethod.mono : ∀ a0 k, LeO (spec_DrawFindMethod.f k a0) (spec_DrawFindMethod.f (k + 1) a0) := by
 intro a0 k
 unfold spec_DrawFindMethod.f
 repeat' first
   | with_reducible apply spec_l1Cur_world.mono
   | (with_reducible exact LeO.refl _)
   | (with_reducible exact LeO.none _)
   | (with_reducible refine LeO.ite ?_ ?_)
   | (with_reducible refine LeO.bind ?_ (fun _ => ?_))
   | apply spec_l1Cur_world.mono
   | exact LeO.none _
   | refine LeO.ite ?_ ?_
   | refine LeO.bind ?_ (fun _ => ?_)
def spec_DrawFindMethod.T3 : Bool × List (List Nat × List Nat) := (true, [([], []), ([], []), ([], []), ([2], [2]), ([3], [3]), ([4], [4]), ([1, 5], [1, 5]), ([], []), ([7, 6], [7]), ([0, 8, 0], [0]), ([6, 9, 0, 1, 2, 3, 4, 5, 6, 9], [6]), ([8, 10, 0, 1, 2, 3, 4, 5, 6, 7, 8, 9, 10], [8])])
def spec_DrawFindMethod.B3 : List Nat := [0, 0, 0, 4, 12, 28, 62, 0, 254, 511, 1023, 2047]
theorem spec_DrawFindMethod.tab3 : rtab .any (opsOf Try.f37 3) = spec_DrawFindMethod.T3 := by kernel_rfl
theorem spec_DrawFindMethod.bits3 : waitsOk spec_DrawFindMethod.T3.2 spec_DrawFindMethod.B3 = true := by kernel_rfl
set_option maxHeartbeats 8000000 in
set_option maxRecDepth 100000 in
theorem spec_DrawFindMethod.calls (k : Nat) (A0 : Option Addr) (c0 : Nat) (l0 : List Int) (r1 : List (S82)) (r2 : Int) (r3 : Int) (r4 : Int) (w : World) (hr0 : Kd.C (Kd.int .u8) w A0 l0.length l0) (hc0 : l0.length ≤ c0) (h : spec_DrawFindMethod.f k l0 = some (r1, r2, r3, r4)) :
  Calls Try.prog 37 #[.slice A0 l0.length c0] w fun e w' => ∃ v0_ : Value, e = .returned (.tuple #[.agg #[v0_, .int .i64 r2], .int .i64 r3, .int .i64 r4]) ∧ Kd.S k82 82 w' w.heap.size (fun _ => True) v0_ r1 ∧ Below w.heap.size w w' := by
 have hu29 := Try.underlying29
 have hu102 := Try.underlying102
 have HR0 := Aside0.mk hr0
 have HC0 := Aside0.mk hc0
 clear hr0 hc0
 have HB := Aside0.mk (Below.refl w.heap.size w)
 have H : ((spec_l1Cur_world.f k l0 0 0).bind fun bt310 => ((spec_l1Cur_pick.f l0 bt310.2.2.1 bt310.2.2.2 (wrap64 ((bt310.1.length : Int) + 1))).bind fun bt317 => ((spec_l1Cur_pick.f l0 bt317.2.1 bt317.2.2 6).bind fun bt320 => (some (bt310.1, bt310.2.1, bt317.1, bt320.1))))) = some (r1, r2, r3, r4) := h
 clear h
 replace H := Option.bind_eq_some_iff.mp H
 obtain ⟨⟨t310, t313, t314, t315⟩, A20, H⟩ := H
 replace H : ((spec_l1Cur_pick.f l0 t314 t315 (wrap64 ((t310.length : Int) + 1))).bind fun bt317 => ((spec_l1Cur_pick.f l0 bt317.2.1 bt317.2.2 6).bind fun bt320 => (some (t310, t313, bt317.1, bt320.1)))) = some (r1, r2, r3, r4) := H
 have A2 := Aside0.mk A20
 clear A20
 replace H := Option.bind_eq_some_iff.mp H
 obtain ⟨⟨t317, t318, t319⟩, A30, H⟩ := H
 replace H : ((spec_l1Cur_pick.f l0 t318 t319 6).bind fun bt320 => (some (t310, t313, t317, bt320.1))) = some (r1, r2, r3, r4) := H
 have A3 := Aside0.mk A30
 clear A30
 replace H := Option.bind_eq_some_iff.mp H
 obtain ⟨⟨t320, t321, t322⟩, A40, H⟩ := H
 replace H : (some (t310, t313, t317, t320)) = some (r1, r2, r3, r4) := H
 have A4 := Aside0.mk A40
 clear A40
 simp only [Option.some.injEq, Prod.mk.injEq] at H
 obtain ⟨rfl, rfl, rfl, rfl⟩ := H
 go_enter Try.func37, Try.ntmps37
 try go_wp2_with (first | ((with_reducible refine gate_dst (N := 2) rfl ?_); refine bxe 2 #[.slice none 0 0, .int .i64 0] 29 ?_; intro gb308 hg w5 hbox hb; have n0_ := Aside0.mk (below_step lB hb); have n1_ := Aside0.mk (hbox); have n2_ := lG w hg; have n3_ := lG w hg; clear HB; have HB := n0_; have BK308 := n1_; have GW308 := n2_; have GE308 := n3_; clear n0_ n1_ n2_ n3_; clear hb hbox hg) | ((with_reducible refine gate_dst (N := 9) rfl ?_); refine bxe 9 #[.slice A0 l0.length c0, .int .i64 0, .int .u64 0] 102 ?_; intro gb309 hg w6 hbox hb; have n0_ := Aside0.mk (blk_below (lK BK308.out) hb); have n1_ := Aside0.mk (below_step lB hb); have n2_ := lG w hg; have n3_ := lG w hg; have n4_ := Aside0.mk ((by rw [hg]; exact Nat.ne_of_lt (blk_lt (lK BK308.out)) : gb308 ≠ gb309)); have n5_ := Aside0.mk ((by rw [hg]; exact Nat.ne_of_gt (blk_lt (lK BK308.out)) : gb309 ≠ gb308)); have n6_ := Aside0.mk ((show IsS102 w _ gb309 l0 0 0 from ⟨_, _, hbox, (by rw [hg]; exact (below_size lB)), HR0.out⟩)); clear BK308; clear HB; have BK308 := n0_; have HB := n1_; have GW309 := n2_; have GE309 := n3_; have NB308_309 := n4_; have NB309_308 := n5_; have HI309 := n6_; clear n0_ n1_ n2_ n3_ n4_ n5_ n6_; clear hb hbox hg) | ((with_reducible refine gate_callee (f := 73) rfl ?_); refine gl_ (some 11) (Try.func73) #[.pointer (some ⟨gb309, 0, none⟩)] ?_; (with_reducible refine (spec_l1Cur_world.calls k gb309 l0 0 0 t310 t313 t314 t315 w _ ?side1 ?side2 A2.out).mono ?_); (case side1 => repeat (first | (with_reducible first | exact HI309.out | apply IsS102.alloc | apply IsS102.drewN | apply IsS102.drew | apply IsS102.set_1 | apply IsS102.set_2 | refine IsS102.far ?_ NB309_308.out _) | exact HI309.out)); (case side2 => repeat (first | (with_reducible first | exact HB.out | apply below_alloc | apply pw_below_drewN | apply below_drew1 | refine below_set ?_ (IsS102.ge HI309.out) | refine below_set ?_ GE308.out) | exact HB.out)); rintro e w7 ⟨v311, rfl, ho0, hi, hb, hk⟩; refine ⟨_, rfl, ?_⟩; have n0_ := Aside0.mk (KeepBut.blk hk (g' := gb308) (o := .cells #[.slice none 0 0, .int .i64 0] 29 (0, 0)) (lK BK308.out) NB308_309.out (by simp)); have n1_ := Aside0.mk (Kd.S_lower ho0 (below_size (by repeat (first | (with_reducible first | exact HB.out | apply below_alloc | apply pw_below_drewN | apply below_drew1 | refine below_set ?_ (IsS102.ge HI309.out) | refine below_set ?_ GE308.out) | exact HB.out)))); have n2_ := Aside0.mk (hb); have n3_ := Aside0.mk (hi); clear BK308; clear HB; clear HI309; have BK308 := n0_; have HO312 := n1_; have HB := n2_; have HI309 := n3_; clear n0_ n1_ n2_ n3_; (try clear hb); (try clear hb2); (try clear hk); (try clear hi); (try clear ho0)) | ((with_reducible refine gate_dst (N := 6) rfl ?_); refine bxe 6 #[.slice none 0 0, .int .i64 0] 29 ?_; intro gb316 hg w8 hbox hb; have n0_ := Aside0.mk (Kd.S_below (lS HO312.out) hb); have n1_ := Aside0.mk (blk_below (lK BK308.out) hb); have n2_ := Aside0.mk (IsS102.below (by repeat (first | (with_reducible first | exact HI309.out | apply IsS102.alloc | apply IsS102.drewN | apply IsS102.drew | apply IsS102.set_1 | apply IsS102.set_2 | refine IsS102.far ?_ NB309_308.out _) | exact HI309.out)) hb); have n3_ := Aside0.mk (below_step (by repeat (first | (with_reducible first | exact HB.out | apply below_alloc | apply pw_below_drewN | apply below_drew1 | refine below_set ?_ (IsS102.ge HI309.out) | refine below_set ?_ GE308.out) | exact HB.out)) hb); have n4_ := Aside0.mk (hbox); have n5_ := Aside0.mk ((by rw [hg]; exact (below_size (by repeat (first | (with_reducible first | exact HB.out | apply below_alloc | apply pw_below_drewN | apply below_drew1 | refine below_set ?_ (IsS102.ge HI309.out) | refine below_set ?_ GE308.out) | exact HB.out))) : w.heap.size ≤ gb316)); have n6_ := Aside0.mk ((by rw [hg]; exact (below_size (by repeat (first | (with_reducible first | exact HB.out | apply below_alloc | apply pw_below_drewN | apply below_drew1 | refine below_set ?_ (IsS102.ge HI309.out) | refine below_set ?_ GE308.out) | exact HB.out))) : w.heap.size ≤ gb316)); have n7_ := Aside0.mk ((by rw [hg]; exact Nat.ne_of_lt (blk_lt (lK BK308.out)) : gb308 ≠ gb316)); have n8_ := Aside0.mk ((by rw [hg]; exact Nat.ne_of_gt (blk_lt (lK BK308.out)) : gb316 ≠ gb308)); have n9_ := Aside0.mk ((by rw [hg]; exact Nat.ne_of_lt (IsS102.lt (show IsS102 w _ gb309 l0 t314 t315 from by repeat (first | (with_reducible first | exact HI309.out | apply IsS102.alloc | apply IsS102.drewN | apply IsS102.drew | apply IsS102.set_1 | apply IsS102.set_2 | refine IsS102.far ?_ NB309_308.out _) | exact HI309.out))) : gb309 ≠ gb316)); have n10_ := Aside0.mk ((by rw [hg]; exact Nat.ne_of_gt (IsS102.lt (show IsS102 w _ gb309 l0 t314 t315 from by repeat (first | (with_reducible first | exact HI309.out | apply IsS102.alloc | apply IsS102.drewN | apply IsS102.drew | apply IsS102.set_1 | apply IsS102.set_2 | refine IsS102.far ?_ NB309_308.out _) | exact HI309.out))) : gb316 ≠ gb309)); clear HO312; clear BK308; clear HI309; clear HB; have HO312 := n0_; have BK308 := n1_; have HI309 := n2_; have HB := n3_; have BK316 := n4_; have GW316 := n5_; have GE316 := n6_; have NB308_316 := n7_; have NB316_308 := n8_; have NB309_316 := n9_; have NB316_309 := n10_; clear n0_ n1_ n2_ n3_ n4_ n5_ n6_ n7_ n8_ n9_ n10_; clear hb hbox hg; obtain ⟨Ao9, co9, eo9⟩ := Kd.S_slice HO312.out; subst eo9; have hnb10 := NB316_308.out; have hnc10 := NB308_316.out; have hnb11 := NB316_309.out; have hnc11 := NB309_316.out; obtain ⟨hcz12_0, hfz12_0, hcz12_1, hfz12_1⟩ := bk2 BK316.out))
 have n0_ : Aside0 (Kd.S k82 82 ((w8.setCell ⟨gb316, 0, none⟩ (.slice Ao9 t310.length co9)).setCell ⟨gb316, 1, none⟩ (.int .i64 t313)) w.heap.size (fun _ => True) (.slice Ao9 t310.length co9) t310) := ⟨by (with_reducible repeat (first | apply Kd.S_alloc | apply Kd.S_drewN | apply Kd.S_drew)); exact Kd.S_mono (Kd.S_far (p := ⟨gb316, 1, none⟩) (Kd.S_far (p := ⟨gb316, 0, none⟩) (Kd.S_types HO312.out BK316.out (by decide)) (fun _ hk => hk.2) (.slice Ao9 t310.length co9)) (fun _ hk => hk.2) (.int .i64 t313)) (fun _ hk => trivial)⟩
 have n1_ : Aside0 (((w8.setCell ⟨gb316, 0, none⟩ (.slice Ao9 t310.length co9)).setCell ⟨gb316, 1, none⟩ (.int .i64 t313)).heap[gb308]? = some (.cells #[.slice none 0 0, .int .i64 0] 29 (0, 0))) := ⟨lJ BK308.out⟩
 have n2_ : Aside0 (((w8.setCell ⟨gb316, 0, none⟩ (.slice Ao9 t310.length co9)).setCell ⟨gb316, 1, none⟩ (.int .i64 t313)).heap[gb316]? = some (.cells #[.slice Ao9 t310.length co9, .int .i64 t313] 29 (0, 0))) := ⟨by (with_reducible repeat first | apply bN | apply bD | apply bA); refine blk_put (cs := #[.slice Ao9 t310.length co9, .int .i64 0]) ?_ 1 _ rfl; (with_reducible repeat first | apply bN | apply bD | apply bA); refine blk_put (cs := #[.slice none 0 0, .int .i64 0]) ?_ 0 _ rfl; (with_reducible repeat first | apply bN | apply bD | apply bA); exact BK316.out⟩
 have n3_ : Aside0 (IsS102 w ((w8.setCell ⟨gb316, 0, none⟩ (.slice Ao9 t310.length co9)).setCell ⟨gb316, 1, none⟩ (.int .i64 t313)) gb309 l0 t314 t315) := ⟨by repeat (first | (with_reducible first | exact HI309.out | apply IsS102.alloc | apply IsS102.drewN | apply IsS102.drew | apply IsS102.set_1 | apply IsS102.set_2 | refine IsS102.far ?_ NB309_308.out _ | refine IsS102.far ?_ NB309_316.out _) | exact HI309.out)⟩
 have n4_ : Aside0 (Below w.heap.size w ((w8.setCell ⟨gb316, 0, none⟩ (.slice Ao9 t310.length co9)).setCell ⟨gb316, 1, none⟩ (.int .i64 t313))) := ⟨by repeat (first | (with_reducible first | exact HB.out | apply below_alloc | apply pw_below_drewN | apply below_drew1 | refine below_set ?_ (IsS102.ge HI309.out) | refine below_set ?_ GE308.out | refine below_set ?_ GE316.out) | exact HB.out)⟩
 (try clear HO312)
 (try clear BK308)
 (try clear BK316)
 (try clear HI309)
 (try clear HB)
 generalize ((w8.setCell ⟨gb316, 0, none⟩ (.slice Ao9 t310.length co9)).setCell ⟨gb316, 1, none⟩ (.int .i64 t313)) = w13 at n0_ n1_ n2_ n3_ n4_ ⊢
 have HO312 := n0_
 have BK308 := n1_
 have BK316 := n2_
 have HI309 := n3_
 have HB := n4_
 clear n0_ n1_ n2_ n3_ n4_
 have n0_ := Aside0.mk (Kd.S_drew HO312.out)
 have n1_ := Aside0.mk (blk_drew BK308.out)
 have n2_ := Aside0.mk (blk_drew BK316.out)
 have n3_ := Aside0.mk (IsS102.drew HI309.out)
 have n4_ := Aside0.mk (below_drew1 HB.out)
 clear HO312
 clear BK308
 clear BK316
 clear HI309
 clear HB
 have HO312 := n0_
 have BK308 := n1_
 have BK316 := n2_
 have HI309 := n3_
 have HB := n4_
 clear n0_ n1_ n2_ n3_ n4_
 refine start_ (n := 12) (S := fun w' => w'.cell? ⟨gb316, 0, none⟩ = some (.slice Ao9 t310.length co9) ∧ w'.cell? ⟨gb316, 1, none⟩ = some (.int .i64 t313)) (ds := []) (bs 12 0) kR rfl kR ⟨bZ BK316.out 0, bZ BK316.out 1⟩ (fun hHeld => ?_); refine with_tabW spec_DrawFindMethod.tab3 spec_DrawFindMethod.bits3 (fun HT_ HW_ => ?_)
 generalize w13.drew = w14 at HO312 BK308 BK316 HI309 HB hHeld ⊢
 refine pur_ 1 13 (bs 12 2) (any_of HT_.out kR) ?_
 refine pur_ 2 14 (bs 12 6) (any_of HT_.out kR) ?_
 refine pur_ 7 19 (bs 12 134) (any_of HT_.out kR) ?_
 refine tak_ 0 12 (bs 12 135) (take_ofW HT_.out HW_.out kR) hHeld ?_
 refine tak_ 3 15 (bs 12 143) (take_ofW HT_.out HW_.out kR) hHeld ?_
 refine pur_ 4 16 (bs 12 159) (any_of HT_.out kR) ?_
 refine pur_ 5 17 (bs 12 191) (any_of HT_.out kR) ?_
 refine one_ (i := 6) (N := some 18) (bs 12 255) rfl rfl (one_of HT_.out (by kernel_rfl)) (by decide) (fun K hK => ?_)
 refine goes_ Try.func74 (by kernel_rfl) rfl #[.pointer (some ⟨gb309, 0, none⟩), .int .i64 (wrap64 ((t310.length : Int) + 1))] (by rfl) rfl rfl (by (try simp only [List.map_toArray, List.map_cons, List.map_nil]); first | done | rfl | (simp only [List.length_drop, List.length_take]; rfl)) ?_
 with_reducible refine (spec_l1Cur_pick.calls gb309 l0 t314 t315 (wrap64 ((t310.length : Int) + 1)) t317 t318 t319 w _ ?side1 ?side2 A3.out).mono ?_
 (case side1 => repeat (first | (with_reducible first | exact HI309.out | apply IsS102.alloc | apply IsS102.drewN | apply IsS102.drew | apply IsS102.set_1 | apply IsS102.set_2 | refine IsS102.far ?_ NB309_308.out _ | refine IsS102.far ?_ NB309_316.out _) | exact HI309.out))
 (case side2 => repeat (first | (with_reducible first | exact HB.out | apply below_alloc | apply pw_below_drewN | apply below_drew1 | refine below_set ?_ (IsS102.ge HI309.out) | refine below_set ?_ GE308.out | refine below_set ?_ GE316.out) | exact HB.out))
 rintro e w15 ⟨rfl, hi, hb, hk⟩
 refine ⟨_, rfl, ?_⟩
 have n0_ := Aside0.mk (KeepBut.blk hk (g' := gb308) (o := .cells #[.slice none 0 0, .int .i64 0] 29 (0, 0)) (lK BK308.out) NB308_309.out (by simp))
 have n1_ := Aside0.mk (Kd.S_mono (Kd.S_keep (IsS102.apartS (show IsS102 w _ gb309 l0 t314 t315 from by repeat (first | (with_reducible first | exact HI309.out | apply IsS102.alloc | apply IsS102.drewN | apply IsS102.drew | apply IsS102.set_1 | apply IsS102.set_2 | refine IsS102.far ?_ NB309_308.out _ | refine IsS102.far ?_ NB309_316.out _) | exact HI309.out)) (lS HO312.out) (by decide)) hk (fun _ h => h.2)) (fun _ h => h.1))
 have n2_ := Aside0.mk (KeepBut.blk hk (g' := gb316) (o := .cells #[.slice Ao9 t310.length co9, .int .i64 t313] 29 (0, 0)) (lK BK316.out) NB316_309.out (by simp))
 have n3_ := Aside0.mk (hb)
 have n4_ := Aside0.mk (hi)
 clear BK308
 clear HO312
 clear BK316
 clear HB
 clear HI309
 have BK308 := n0_
 have HO312 := n1_
 have BK316 := n2_
 have HB := n3_
 have HI309 := n4_
 clear n0_ n1_ n2_ n3_ n4_
 (try clear hb)
 (try clear hb2)
 (try clear hk)
 (try clear hi)
 refine hK.out _ _ ⟨bZ BK316.out 0, bZ BK316.out 1⟩ (fun hHeld => ?_)
 clear hK K
 refine norm_ (a' := ?_) ?_ ?_
 rotate_left
 ·show Act.put _ (some 18) _ = _
  simp only [Act.put, List.setIfInBounds_toArray, List.set_cons_zero, List.set_cons_succ, i64_w, i32_w]
  rfl
 refine one_ (i := 8) (N := some 20) (bs 12 511) rfl rfl (one_of HT_.out (by kernel_rfl)) (by decide) (fun K hK => ?_)
 refine goes_ Try.func74 (by kernel_rfl) rfl #[.pointer (some ⟨gb309, 0, none⟩), .int .i64 6] (by rfl) rfl rfl (by (try simp only [List.map_toArray, List.map_cons, List.map_nil]); first | done | rfl | (simp only [List.length_drop, List.length_take]; rfl)) ?_
 with_reducible refine (spec_l1Cur_pick.calls gb309 l0 t318 t319 6 t320 t321 t322 w _ ?side1 ?side2 A4.out).mono ?_
 (case side1 => repeat (first | (with_reducible first | exact HI309.out | apply IsS102.alloc | apply IsS102.drewN | apply IsS102.drew | apply IsS102.set_1 | apply IsS102.set_2 | refine IsS102.far ?_ NB309_308.out _ | refine IsS102.far ?_ NB309_316.out _) | exact HI309.out))
 (case side2 => repeat (first | (with_reducible first | exact HB.out | apply below_alloc | apply pw_below_drewN | apply below_drew1 | refine below_set ?_ (IsS102.ge HI309.out) | refine below_set ?_ GE308.out | refine below_set ?_ GE316.out) | exact HB.out))
 rintro e w16 ⟨rfl, hi, hb, hk⟩
 refine ⟨_, rfl, ?_⟩
 have n0_ := Aside0.mk (KeepBut.blk hk (g' := gb308) (o := .cells #[.slice none 0 0, .int .i64 0] 29 (0, 0)) (lK BK308.out) NB308_309.out (by simp))
 have n1_ := Aside0.mk (Kd.S_mono (Kd.S_keep (IsS102.apartS (show IsS102 w _ gb309 l0 t318 t319 from by repeat (first | (with_reducible first | exact HI309.out | apply IsS102.alloc | apply IsS102.drewN | apply IsS102.drew | apply IsS102.set_1 | apply IsS102.set_2 | refine IsS102.far ?_ NB309_308.out _ | refine IsS102.far ?_ NB309_316.out _) | exact HI309.out)) (lS HO312.out) (by decide)) hk (fun _ h => h.2)) (fun _ h => h.1))
 have n2_ := Aside0.mk (KeepBut.blk hk (g' := gb316) (o := .cells #[.slice Ao9 t310.length co9, .int .i64 t313] 29 (0, 0)) (lK BK316.out) NB316_309.out (by simp))
 have n3_ := Aside0.mk (hb)
 have n4_ := Aside0.mk (hi)
 clear BK308
 clear HO312
 clear BK316
 clear HB
 clear HI309
 have BK308 := n0_
 have HO312 := n1_
 have BK316 := n2_
 have HB := n3_
 have HI309 := n4_
 clear n0_ n1_ n2_ n3_ n4_
 (try clear hb)
 (try clear hb2)
 (try clear hk)
 (try clear hi)
 refine hK.out _ _ ⟨bZ BK316.out 0, bZ BK316.out 1⟩ (fun hHeld => ?_)
 clear hK K
 refine norm_ (a' := ?_) ?_ ?_
 rotate_left
 ·show Act.put _ (some 20) _ = _
  simp only [Act.put, List.setIfInBounds_toArray, List.set_cons_zero, List.set_cons_succ, i64_w, i32_w]
  rfl
 refine one_ (i := 9) (N := none) (bs 12 1023) rfl rfl (one_of HT_.out (by kernel_rfl)) (by decide) (fun K hK => ?_)
 have hs17 : w16.cell? ⟨gb308, 0, none⟩ = some (.slice none 0 0) := bZ BK308.out 0
 have hfs17 := blk_frozen BK308.out 0
 have hns17_1 := NB316_308.out
 have hms17_1 := NB308_316.out
 have hs18 : w16.cell? ⟨gb308, 1, none⟩ = some (.int .i64 0) := bZ BK308.out 1
 have hfs18 := blk_frozen BK308.out 1
 have hns18_1 := NB316_308.out
 have hms18_1 := NB308_316.out
 refine skip_ (w1 := ?_) (by rfl) rfl ?_ ?_
 rotate_left
 ·go_simp
  rfl
 refine hK.out _ _ ⟨((cell_far (p := ⟨gb308, _, none⟩) NB316_308.out _).trans (((cell_far (p := ⟨gb308, _, none⟩) NB316_308.out _).trans (hHeld.1)))), ((cell_far (p := ⟨gb308, _, none⟩) NB316_308.out _).trans (((cell_far (p := ⟨gb308, _, none⟩) NB316_308.out _).trans (hHeld.2))))⟩ (fun hHeld => ?_)
 clear hK K
 refine pur_ 10 3 (bs 12 2047) (any_of HT_.out kR) ?_
 refine pur_ 11 4 (bs 12 4095) (any_of HT_.out kR) ?_
 refine done_ (done_of HT_.out (by kernel_rfl)) ?_
 try go_wp2
 refine bodyPost_ret (results_ctt rfl _ _ gb308 29 #[.slice Ao9 t310.length co9, .int .i64 t313] (0, 0) _ rfl (by (with_reducible repeat first | apply bN | apply bD | apply bA); refine blk_put (cs := #[.slice Ao9 t310.length co9, .int .i64 0]) ?_ 1 _ rfl; (with_reducible repeat first | apply bN | apply bD | apply bA); refine blk_put (cs := #[.slice none 0 0, .int .i64 0]) ?_ 0 _ rfl; (with_reducible repeat first | apply bN | apply bD | apply bA); exact BK308.out) Try.underlying29 rfl (by kernel_rfl)) rfl ?_
 exact ⟨_, lE, by (with_reducible repeat (first | apply Kd.S_alloc | apply Kd.S_drewN | apply Kd.S_drew)); exact Kd.S_mono (Kd.S_far (p := ⟨gb308, 1, none⟩) (Kd.S_far (p := ⟨gb308, 0, none⟩) (Kd.S_types HO312.out BK308.out (by decide)) (fun _ hk => hk.2) (.slice Ao9 t310.length co9)) (fun _ hk => hk.2) (.int .i64 t313)) (fun _ hk => trivial), by repeat (first | (with_reducible first | exact HB.out | apply below_alloc | apply pw_below_drewN | apply below_drew1 | refine below_set ?_ (IsS102.ge HI309.out) | refine below_set ?_ GE308.out | refine below_set ?_ GE316.out) | exact HB.out)⟩

end Go.Proofs.Ytjmgleomljfieaa.Q
