-- Written by the program wip/tools/pr.py of this claim's session, over the kit's print.py.
import Derived.Test.YtgjojppbichaiaaQx0
import Derived.Test.YtgjojppbichaiaaQx1
namespace Go.Proofs.Ytgjojppbichaiaa.Q
open Go.RowKit Go.Proofs.YtgjojppbichaiaaW.PrintWords Go.Proofs.YtgjojppbichaiaaW.PrintLast Go.Proofs.YtgjojppbichaiaaW.PrintMore
attribute [local go_sem] max2_int min2_int max_two min_two max_three min_three max_four min_four   -- for this text's walks alone
set_option linter.unusedVariables false
set_option linter.unusedSimpArgs false

/-! ### spec_l16Loops: function 76 -/
mutual
def spec_l16Loops.l0 : Nat → Int → List (S72) → Int → Int → Int → Int → List (S72) → Option (Int)
 | 0, _, _, _, _, _, _, _ => none
 | k + 1, x3, x8, x9, x10, x125000, x125001, x125002 => if x10 < x9 then (if 0 ≤ x10 then (if x10 < (x8.length : Int) then ((spec_l16Loops.f k ((rd_T72 x8 x10).f0) ((rd_T72 x8 x10).f1) ((rd_T72 x8 x10).f2)).bind fun t127 => (if t127 > x3 then (spec_l16Loops.l0 k t127 x8 x9 (wrap64 (x10 + 1)) x125000 x125001 x125002) else (spec_l16Loops.l0 k x3 x8 x9 (wrap64 (x10 + 1)) x125000 x125001 x125002))) else (none)) else (none)) else (if x125000 = 6 then (some (wrap64 (x3 + 1))) else (some x3))
def spec_l16Loops.f : Nat → Int → Int → List (S72) → Option (Int)
 | 0, _, _, _ => none
 | k + 1, a0_0, a0_1, l0_2 => spec_l16Loops.l0 k 0 l0_2 (l0_2.length : Int) 0 a0_0 a0_1 l0_2
end
theorem spec_l16Loops.mono_l : ∀ k, (∀ y0 y1 y2, LeO (spec_l16Loops.f k y0 y1 y2) (spec_l16Loops.f (k + 1) y0 y1 y2)) ∧ (∀ y0 y1 y2 y3 y4 y5 y6, LeO (spec_l16Loops.l0 k y0 y1 y2 y3 y4 y5 y6) (spec_l16Loops.l0 (k + 1) y0 y1 y2 y3 y4 y5 y6))
 | 0 => ⟨fun _ _ _ r h => by simp [spec_l16Loops.f] at h, fun _ _ _ _ _ _ _ r h => by simp [spec_l16Loops.l0] at h⟩
 | k + 1 => by
  obtain ⟨ih0, ih1⟩ := spec_l16Loops.mono_l k
  refine ⟨?_, ?_⟩
  ·intro y0 y1 y2
   unfold spec_l16Loops.f
   repeat' first
   | with_reducible apply ih0
   | with_reducible apply ih1
   | (with_reducible exact LeO.refl _)
   | (with_reducible exact LeO.none _)
   | (with_reducible refine LeO.ite ?_ ?_)
   | (with_reducible refine LeO.bind ?_ (fun _ => ?_))
   | apply ih0
   | apply ih1
   | exact LeO.none _
   | refine LeO.ite ?_ ?_
   | refine LeO.bind ?_ (fun _ => ?_)
  ·intro y0 y1 y2 y3 y4 y5 y6
   unfold spec_l16Loops.l0
   repeat' first
   | with_reducible apply ih0
   | with_reducible apply ih1
   | (with_reducible exact LeO.refl _)
   | (with_reducible exact LeO.none _)
   | (with_reducible refine LeO.ite ?_ ?_)
   | (with_reducible refine LeO.bind ?_ (fun _ => ?_))
   | apply ih0
   | apply ih1
   | exact LeO.none _
   | refine LeO.ite ?_ ?_
   | refine LeO.bind ?_ (fun _ => ?_)
theorem spec_l16Loops.mono : ∀ a0 a1 a2 k, LeO (spec_l16Loops.f k a0 a1 a2) (spec_l16Loops.f (k + 1) a0 a1 a2) := by
 intro a0 a1 a2 k
 obtain ⟨ih0, ih1⟩ := spec_l16Loops.mono_l k
 exact ih0 a0 a1 a2
set_option maxHeartbeats 8000000 in
set_option maxRecDepth 100000 in
theorem spec_l16Loops.calls (k : Nat) : ∀ (a0_0 : Int) (a0_1 : Int) (A0_2 : Option Addr) (c0_2 : Nat) (l0_2 : List (S72)) (r : Int) (w : World) (hr0_2 : Kd.C k72 w A0_2 l0_2.length l0_2) (hc0_2 : l0_2.length ≤ c0_2) (h : spec_l16Loops.f k a0_0 a0_1 l0_2 = some r),
  Calls Try.prog 76 #[.agg #[.int .i64 a0_0, .int .i64 a0_1, .slice A0_2 l0_2.length c0_2]] w fun e w' => e = .returned (.int .i64 r) ∧ Below w.heap.size w w' := by
 induction k using Nat.strongRecOn with
 | _ k ih =>
 intro a0_0 a0_1 A0_2 c0_2 l0_2 r w hr0_2 hc0_2 h
 cases k with
 | zero => exact absurd h (by simp [spec_l16Loops.f])
 | succ k =>
 simp only [spec_l16Loops.f] at h
 have hu72 := Try.underlying72
 have HR0_2 := Aside0.mk hr0_2
 have HC0_2 := Aside0.mk hc0_2
 clear hr0_2 hc0_2
 have HB := Aside0.mk (Below.refl w.heap.size w)
 have H : (spec_l16Loops.l0 k 0 l0_2 (l0_2.length : Int) 0 a0_0 a0_1 l0_2) = some r := h
 clear h
 have H' := Aside0.mk H
 clear H
 go_enter Try.func76, Try.ntmps76
 go_wp2_with (first | ((with_reducible refine gate_dst (N := 1) rfl ?_); refine bxe 1 #[.int .i64 a0_0, .int .i64 a0_1, .slice A0_2 l0_2.length c0_2] 72 ?_; intro gb124 hg w2 hbox hb; have n0_ := Aside0.mk (below_step lB hb); have n1_ := Aside0.mk (hbox); have n2_ := lG w hg; have n3_ := lG w hg; clear HB; have HB := n0_; have BK124 := n1_; have GW124 := n2_; have GE124 := n3_; clear n0_ n1_ n2_ n3_; clear hb hbox hg; obtain ⟨hcz3_0, hfz3_0, hcz3_1, hfz3_1, hcz3_2, hfz3_2⟩ := bk3 BK124.out))
 go_loopg [3, 10] k (fun kq v3 v10 w' => ∃ (x3_1 : Int) (x10_1 : Int), v3 = .int .i64 x3_1 ∧ v10 = .int .i64 x10_1 ∧ Aside0 (spec_l16Loops.l0 kq x3_1 l0_2 (l0_2.length : Int) x10_1 a0_0 a0_1 l0_2 = some r) ∧ Aside0 (kq ≤ k) ∧ Aside0 (w'.heap[gb124]? = some (.cells #[.int .i64 a0_0, .int .i64 a0_1, (.slice A0_2 l0_2.length c0_2)] 72 (0, 0))) ∧ Aside0 (Below w.heap.size w w'))
 case atStart => exact ⟨(0), (0), lF, lF, H', ⟨Nat.le_refl _⟩, ⟨lK BK124.out⟩, ⟨lB⟩⟩
 case round =>
  clear H'
  try clear p2
  try clear hcz3_0 hcz3_1 hcz3_2 hfz3_0 hfz3_1 hfz3_2
  obtain ⟨x3_1, x10_1, rfl, rfl, HA, HK1, BK124, HB⟩ := hrel
  cases gk with
  | zero => exact absurd HA.out (by simp [spec_l16Loops.l0])
  | succ k1 =>
   have H := HA.out
   clear HA
   simp only [spec_l16Loops.l0] at H
   by_cases c4 : x10_1 < (l0_2.length : Int)
   ·rw [if_pos c4] at H
    have c4b0 : decide (x10_1 < (l0_2.length : Int)) = true := decide_eq_true c4
    clear c4
    by_cases c5 : 0 ≤ x10_1
    ·rw [if_pos c5] at H
     have c5b0 : decide (0 ≤ x10_1) = true := decide_eq_true c5
     clear c5
     by_cases c6 : x10_1 < (l0_2.length : Int)
     ·rw [if_pos c6] at H
      have c6b0 : decide (x10_1 < (l0_2.length : Int)) = true := decide_eq_true c6
      clear c6
      replace H := lO H
      obtain ⟨t127, A7, H⟩ := H
      by_cases c8 : t127 > x3_1
      ·rw [if_pos c8] at H
       have c8b0 : decide (x3_1 < t127) = true := decide_eq_true c8
       clear c8
       have H' := Aside0.mk H
       clear H
       have p125 : 0 ≤ (x10_1 : Int) := lD
       have q125 : x10_1 < (l0_2.length : Int) := lD
       obtain ⟨ad125, A125_2, c125_2, e125, hx125_0, hx125_1, hx125_2, hl125_2, hi125_2⟩ := at_T72 HR0_2.out x10_1 p125 q125
       cases e125
       replace hx125_0 := pw_cell_below HB.out hx125_0
       replace hx125_1 := pw_cell_below HB.out hx125_1
       replace hx125_2 := pw_cell_below HB.out hx125_2
       have HR125_2 := Aside0.mk hi125_2
       have HC125_2 := Aside0.mk hl125_2
       clear hi125_2 hl125_2
       replace p125 := eq_true p125
       replace q125 := eq_true q125
       go_wp2_with (first | ((with_reducible refine gate_dst (N := 5) rfl ?_); refine bxe 5 #[.int .i64 0, .int .i64 0, .slice none 0 0] 72 ?_; intro gb126 hg w9 hbox hb; have n0_ := Aside0.mk (blk_below (lK BK124.out) hb); have n1_ := Aside0.mk (below_step lB hb); have n2_ := Aside0.mk (hbox); have n3_ := lG w hg; have n4_ := lG w hg; have n5_ := Aside0.mk ((by rw [hg]; exact Nat.ne_of_lt (blk_lt (lK BK124.out)) : gb124 ≠ gb126)); have n6_ := Aside0.mk ((by rw [hg]; exact Nat.ne_of_gt (blk_lt (lK BK124.out)) : gb126 ≠ gb124)); clear BK124; clear HB; have BK124 := n0_; have HB := n1_; have BK126 := n2_; have GW126 := n3_; have GE126 := n4_; have NB124_126 := n5_; have NB126_124 := n6_; clear n0_ n1_ n2_ n3_ n4_ n5_ n6_; clear hb hbox hg; have hnb10 := NB126_124.out; have hnc10 := NB124_126.out; obtain ⟨hcz11_0, hfz11_0, hcz11_1, hfz11_1, hcz11_2, hfz11_2⟩ := bk3 BK126.out) | ((with_reducible refine gate_callee (f := 76) rfl ?_); refine gl_ (some 15) (Try.func76) #[.agg #[.int .i64 ((rd_T72 l0_2 x10_1).f0), .int .i64 ((rd_T72 l0_2 x10_1).f1), .slice A125_2 ((rd_T72 l0_2 x10_1).f2).length c125_2]] ?_; (with_reducible refine (ih k1 (by have := HK1.out; omega) ((rd_T72 l0_2 x10_1).f0) ((rd_T72 l0_2 x10_1).f1) _ _ ((rd_T72 l0_2 x10_1).f2) t127 _ ?side1 ?side2 A7.out).mono ?_); (case side1 => exact Kd.C_below HR125_2.out lB); (case side2 => exact HC125_2.out); rintro e w12 ⟨rfl, hb⟩; refine ⟨_, rfl, ?_⟩; have n0_ := Aside0.mk (blk_below (lJ BK124.out) hb); have n1_ := Aside0.mk (blk_below (g := gb126) (o := .cells #[.int .i64 ((rd_T72 l0_2 x10_1).f0), .int .i64 ((rd_T72 l0_2 x10_1).f1), .slice A125_2 ((rd_T72 l0_2 x10_1).f2).length c125_2] 72 (0, 0)) (by (with_reducible repeat first | apply bN | apply bD | apply bA); refine blk_put (cs := #[.int .i64 ((rd_T72 l0_2 x10_1).f0), .int .i64 ((rd_T72 l0_2 x10_1).f1), .slice none 0 0]) ?_ 2 _ rfl; (with_reducible repeat first | apply bN | apply bD | apply bA); refine blk_put (cs := #[.int .i64 ((rd_T72 l0_2 x10_1).f0), .int .i64 0, .slice none 0 0]) ?_ 1 _ rfl; (with_reducible repeat first | apply bN | apply bD | apply bA); refine blk_put (cs := #[.int .i64 0, .int .i64 0, .slice none 0 0]) ?_ 0 _ rfl; (with_reducible repeat first | apply bN | apply bD | apply bA); exact BK126.out) hb); have n2_ := Aside0.mk (below_step lB hb); clear BK124; clear BK126; clear HB; have BK124 := n0_; have BK126 := n1_; have HB := n2_; clear n0_ n1_ n2_; (try clear hb); (try clear hb2); (try clear hk); (try clear hi)))
       go_roundg k1
       case measure => have := HK1.out; omega
       case rel => exact ⟨(t127), (wrap64 (x10_1 + 1)), lF, lF, H', ⟨by have := HK1.out; omega⟩, ⟨lK BK124.out⟩, ⟨lB⟩⟩
      ·rw [if_neg c8] at H
       have c8b0 : decide (x3_1 < t127) = false := decide_eq_false c8
       clear c8
       have H' := Aside0.mk H
       clear H
       have p125 : 0 ≤ (x10_1 : Int) := lD
       have q125 : x10_1 < (l0_2.length : Int) := lD
       obtain ⟨ad125, A125_2, c125_2, e125, hx125_0, hx125_1, hx125_2, hl125_2, hi125_2⟩ := at_T72 HR0_2.out x10_1 p125 q125
       cases e125
       replace hx125_0 := pw_cell_below HB.out hx125_0
       replace hx125_1 := pw_cell_below HB.out hx125_1
       replace hx125_2 := pw_cell_below HB.out hx125_2
       have HR125_2 := Aside0.mk hi125_2
       have HC125_2 := Aside0.mk hl125_2
       clear hi125_2 hl125_2
       replace p125 := eq_true p125
       replace q125 := eq_true q125
       go_wp2_with (first | ((with_reducible refine gate_dst (N := 5) rfl ?_); refine bxe 5 #[.int .i64 0, .int .i64 0, .slice none 0 0] 72 ?_; intro gb126 hg w13 hbox hb; have n0_ := Aside0.mk (blk_below (lK BK124.out) hb); have n1_ := Aside0.mk (below_step lB hb); have n2_ := Aside0.mk (hbox); have n3_ := lG w hg; have n4_ := lG w hg; have n5_ := Aside0.mk ((by rw [hg]; exact Nat.ne_of_lt (blk_lt (lK BK124.out)) : gb124 ≠ gb126)); have n6_ := Aside0.mk ((by rw [hg]; exact Nat.ne_of_gt (blk_lt (lK BK124.out)) : gb126 ≠ gb124)); clear BK124; clear HB; have BK124 := n0_; have HB := n1_; have BK126 := n2_; have GW126 := n3_; have GE126 := n4_; have NB124_126 := n5_; have NB126_124 := n6_; clear n0_ n1_ n2_ n3_ n4_ n5_ n6_; clear hb hbox hg; have hnb14 := NB126_124.out; have hnc14 := NB124_126.out; obtain ⟨hcz15_0, hfz15_0, hcz15_1, hfz15_1, hcz15_2, hfz15_2⟩ := bk3 BK126.out) | ((with_reducible refine gate_callee (f := 76) rfl ?_); refine gl_ (some 15) (Try.func76) #[.agg #[.int .i64 ((rd_T72 l0_2 x10_1).f0), .int .i64 ((rd_T72 l0_2 x10_1).f1), .slice A125_2 ((rd_T72 l0_2 x10_1).f2).length c125_2]] ?_; (with_reducible refine (ih k1 (by have := HK1.out; omega) ((rd_T72 l0_2 x10_1).f0) ((rd_T72 l0_2 x10_1).f1) _ _ ((rd_T72 l0_2 x10_1).f2) t127 _ ?side1 ?side2 A7.out).mono ?_); (case side1 => exact Kd.C_below HR125_2.out lB); (case side2 => exact HC125_2.out); rintro e w16 ⟨rfl, hb⟩; refine ⟨_, rfl, ?_⟩; have n0_ := Aside0.mk (blk_below (lJ BK124.out) hb); have n1_ := Aside0.mk (blk_below (g := gb126) (o := .cells #[.int .i64 ((rd_T72 l0_2 x10_1).f0), .int .i64 ((rd_T72 l0_2 x10_1).f1), .slice A125_2 ((rd_T72 l0_2 x10_1).f2).length c125_2] 72 (0, 0)) (by (with_reducible repeat first | apply bN | apply bD | apply bA); refine blk_put (cs := #[.int .i64 ((rd_T72 l0_2 x10_1).f0), .int .i64 ((rd_T72 l0_2 x10_1).f1), .slice none 0 0]) ?_ 2 _ rfl; (with_reducible repeat first | apply bN | apply bD | apply bA); refine blk_put (cs := #[.int .i64 ((rd_T72 l0_2 x10_1).f0), .int .i64 0, .slice none 0 0]) ?_ 1 _ rfl; (with_reducible repeat first | apply bN | apply bD | apply bA); refine blk_put (cs := #[.int .i64 0, .int .i64 0, .slice none 0 0]) ?_ 0 _ rfl; (with_reducible repeat first | apply bN | apply bD | apply bA); exact BK126.out) hb); have n2_ := Aside0.mk (below_step lB hb); clear BK124; clear BK126; clear HB; have BK124 := n0_; have BK126 := n1_; have HB := n2_; clear n0_ n1_ n2_; (try clear hb); (try clear hb2); (try clear hk); (try clear hi)))
       go_roundg k1
       case measure => have := HK1.out; omega
       case rel => exact ⟨(x3_1), (wrap64 (x10_1 + 1)), lF, lF, H', ⟨by have := HK1.out; omega⟩, ⟨lK BK124.out⟩, ⟨lB⟩⟩
     ·rw [if_neg c6] at H
      exact absurd H (by simp)
    ·rw [if_neg c5] at H
     exact absurd H (by simp)
   ·rw [if_neg c4] at H
    have c4b0 : decide (x10_1 < (l0_2.length : Int)) = false := decide_eq_false c4
    clear c4
    by_cases c17 : a0_0 = 6
    ·rw [if_pos c17] at H
     have c17b0 : (a0_0 == 6) = true := beq_iff_eq.mpr c17
     have c17b1 : (a0_0 != 6) = false := bne_eq_false_iff_eq.mpr c17
     clear c17
     obtain rfl := Option.some.inj H
     obtain ⟨hcz18_0, hfz18_0, hcz18_1, hfz18_1, hcz18_2, hfz18_2⟩ := bk3 BK124.out
     first | (go_wp2; go_ret; exact ⟨lE, lB⟩) | (exfalso; simp only [decide_eq_false_iff_not, decide_eq_true_eq] at *; omega)
    ·rw [if_neg c17] at H
     have c17b0 : (a0_0 == 6) = false := beq_eq_false_iff_ne.mpr c17
     have c17b1 : (a0_0 != 6) = true := bne_iff_ne.mpr c17
     obtain rfl := Option.some.inj H
     obtain ⟨hcz19_0, hfz19_0, hcz19_1, hfz19_1, hcz19_2, hfz19_2⟩ := bk3 BK124.out
     first | (go_wp2; go_ret; exact ⟨lE, lB⟩) | (exfalso; simp only [decide_eq_false_iff_not, decide_eq_true_eq] at *; omega)

/-! ### spec_l16Tree: function 44 -/
def spec_l16Tree.f (k : Nat) (l0 : List (S76)) : Option (Int × Int × (List (S72)) × Bool) := if (l0.length : Int) > 30 then (some (0, 0, ([] : List (S72)), false)) else ((spec_l16Read.f k l0 0).bind fun bt129 => (if bt129.2.2.2 > 0 then (if bt129.2.2.2 = (l0.length : Int) then ((spec_l16Loops.f k bt129.1 bt129.2.1 bt129.2.2.1).bind fun t136 => (some (bt129.1, bt129.2.1, bt129.2.2.1, decide (t136 ≤ 3)))) else (some (bt129.1, bt129.2.1, bt129.2.2.1, false))) else (some (bt129.1, bt129.2.1, bt129.2.2.1, false))))
theorem spec_l16Tree.mono : ∀ a0 k, LeO (spec_l16Tree.f k a0) (spec_l16Tree.f (k + 1) a0) := by
 intro a0 k
 unfold spec_l16Tree.f
 repeat' first
   | with_reducible apply spec_l16Loops.mono
   | with_reducible apply spec_l16Read.mono
   | (with_reducible exact LeO.refl _)
   | (with_reducible exact LeO.none _)
   | (with_reducible refine LeO.ite ?_ ?_)
   | (with_reducible refine LeO.bind ?_ (fun _ => ?_))
   | apply spec_l16Loops.mono
   | apply spec_l16Read.mono
   | exact LeO.none _
   | refine LeO.ite ?_ ?_
   | refine LeO.bind ?_ (fun _ => ?_)
def spec_l16Tree.T4 : Bool × List (List Nat × List Nat) := (true, [([], []), ([], []), ([1], [1]), ([2], [2]), ([3], [3]), ([3], [3]), ([5, 3], [3, 5]), ([4, 6, 3], [3, 4, 6]), ([3, 7], [3, 7]), ([8, 3], [8]), ([9], [9]), ([10, 9, 9], [9, 10]), ([11, 9], [9, 11]), ([9, 12], [9, 12]), ([0, 11, 0], [0]), ([13, 14, 0, 1, 2, 3, 4, 5, 6, 7, 8, 9, 10, 11, 12, 13, 14], [13])])
def spec_l16Tree.B4 : List Nat := [0, 0, 2, 6, 14, 14, 46, 126, 254, 510, 1022, 2046, 4094, 8190, 4095, 32767]
theorem spec_l16Tree.tab4 : rtab .any (opsOf Try.f44 4) = spec_l16Tree.T4 := by kernel_rfl
theorem spec_l16Tree.bits4 : waitsOk spec_l16Tree.T4.2 spec_l16Tree.B4 = true := by kernel_rfl
set_option maxHeartbeats 8000000 in
set_option maxRecDepth 100000 in
theorem spec_l16Tree.calls (k : Nat) (A0 : Option Addr) (c0 : Nat) (l0 : List (S76)) (r1 : Int) (r2 : Int) (r3 : List (S72)) (r4 : Bool) (w : World) (hr0 : Kd.C k76 w A0 l0.length l0) (hc0 : l0.length ≤ c0) (h : spec_l16Tree.f k l0 = some (r1, r2, r3, r4)) :
  Calls Try.prog 44 #[.slice A0 l0.length c0] w fun e w' => ∃ v2_ : Value, e = .returned (.tuple #[.agg #[.int .i64 r1, .int .i64 r2, v2_], .bool r4]) ∧ Kd.R k72 72 w' w.heap.size (fun _ => True) v2_ r3 ∧ Below w.heap.size w w' := by
 have hu72 := Try.underlying72
 have HR0 := Aside0.mk hr0
 have HC0 := Aside0.mk hc0
 clear hr0 hc0
 have HB := Aside0.mk (Below.refl w.heap.size w)
 have H : (if (l0.length : Int) > 30 then (some (0, 0, ([] : List (S72)), false)) else ((spec_l16Read.f k l0 0).bind fun bt129 => (if bt129.2.2.2 > 0 then (if bt129.2.2.2 = (l0.length : Int) then ((spec_l16Loops.f k bt129.1 bt129.2.1 bt129.2.2.1).bind fun t136 => (some (bt129.1, bt129.2.1, bt129.2.2.1, decide (t136 ≤ 3)))) else (some (bt129.1, bt129.2.1, bt129.2.2.1, false))) else (some (bt129.1, bt129.2.1, bt129.2.2.1, false))))) = some (r1, r2, r3, r4) := h
 clear h
 by_cases c2 : (l0.length : Int) > 30
 ·rw [if_pos c2] at H
  have c2b0 : decide (30 < (l0.length : Int)) = true := decide_eq_true c2
  have c2b1 : decide (30 < l0.length) = true := decide_eq_true (by omega)
  clear c2
  simp only [Option.some.injEq, Prod.mk.injEq] at H
  obtain ⟨rfl, rfl, rfl, rfl⟩ := H
  go_enter Try.func44, Try.ntmps44
  go_wp2_with (first | ((with_reducible refine gate_dst (N := 2) rfl ?_); (try (refine gate_guard (by rfl) ?_; dsimp only)); refine bxe 2 #[.int .i64 0, .int .i64 0, .slice none 0 0] 72 ?_; intro gb128 hg w3 hbox hb; have n0_ := Aside0.mk (below_step lB hb); have n1_ := Aside0.mk (hbox); have n2_ := lG w hg; have n3_ := lG w hg; clear HB; have HB := n0_; have BK128 := n1_; have GW128 := n2_; have GE128 := n3_; clear n0_ n1_ n2_ n3_; clear hb hbox hg; obtain ⟨hcz4_0, hfz4_0, hcz4_1, hfz4_1, hcz4_2, hfz4_2⟩ := bk3 BK128.out))
  refine bodyPost_ret (results_ct rfl _ _ gb128 72 #[.int .i64 0, .int .i64 0, .slice none 0 0] (0, 0) _ rfl (by (with_reducible repeat first | apply bN | apply bD | apply bA); refine blk_put (cs := #[.int .i64 0, .int .i64 0, .slice none 0 0]) ?_ 2 _ rfl; (with_reducible repeat first | apply bN | apply bD | apply bA); refine blk_put (cs := #[.int .i64 0, .int .i64 0, .slice none 0 0]) ?_ 1 _ rfl; (with_reducible repeat first | apply bN | apply bD | apply bA); refine blk_put (cs := #[.int .i64 0, .int .i64 0, .slice none 0 0]) ?_ 0 _ rfl; (with_reducible repeat first | apply bN | apply bD | apply bA); exact BK128.out) Try.underlying72 rfl (by kernel_rfl)) rfl ?_
  exact ⟨_, lE, by first | exact Kd.R_nil _ _ _ _ _ | exact Kd.N_nil _ _ _ _ _ | exact Kd.V_nil _ _ _ _ _ | exact Kd.Q_nil _ _ _ _ _ | exact Kd.S_nil _ _ _ _ _, lB⟩
 ·rw [if_neg c2] at H
  have c2b0 : decide (30 < (l0.length : Int)) = false := decide_eq_false c2
  have c2b1 : decide (30 < l0.length) = false := decide_eq_false (by omega)
  clear c2
  replace H := Option.bind_eq_some_iff.mp H
  obtain ⟨⟨t129, t130, t131, t134⟩, A50, H⟩ := H
  replace H : (if t134 > 0 then (if t134 = (l0.length : Int) then ((spec_l16Loops.f k t129 t130 t131).bind fun t136 => (some (t129, t130, t131, decide (t136 ≤ 3)))) else (some (t129, t130, t131, false))) else (some (t129, t130, t131, false))) = some (r1, r2, r3, r4) := H
  have A5 := Aside0.mk A50
  clear A50
  by_cases c6 : t134 > 0
  ·rw [if_pos c6] at H
   have c6b0 : decide (0 < t134) = true := decide_eq_true c6
   clear c6
   by_cases c7 : t134 = (l0.length : Int)
   ·rw [if_pos c7] at H
    have c7b0 : (t134 == (l0.length : Int)) = true := beq_iff_eq.mpr c7
    have c7b1 : (t134 != (l0.length : Int)) = false := bne_eq_false_iff_eq.mpr c7
    clear c7
    replace H := lO H
    obtain ⟨t136, A8, H⟩ := H
    simp only [Option.some.injEq, Prod.mk.injEq] at H
    obtain ⟨rfl, rfl, rfl, rfl⟩ := H
    go_enter Try.func44, Try.ntmps44
    try go_wp2_with (first | ((with_reducible refine gate_dst (N := 2) rfl ?_); (try (refine gate_guard (by rfl) ?_; dsimp only)); refine bxe 2 #[.int .i64 0, .int .i64 0, .slice none 0 0] 72 ?_; intro gb128 hg w9 hbox hb; have n0_ := Aside0.mk (below_step lB hb); have n1_ := Aside0.mk (hbox); have n2_ := lG w hg; have n3_ := lG w hg; clear HB; have HB := n0_; have BK128 := n1_; have GW128 := n2_; have GE128 := n3_; clear n0_ n1_ n2_ n3_; clear hb hbox hg) | ((with_reducible refine gate_callee (f := 75) rfl ?_); refine gl_ (some 12) (Try.func75) #[.slice A0 l0.length c0, .int .i64 0] ?_; (with_reducible refine (spec_l16Read.calls k _ _ l0 0 t129 t130 t131 t134 _ ?side1 ?side2 A5.out).mono ?_); (case side1 => exact lC (Kd.C_below HR0.out HB.out)); (case side2 => exact HC0.out); rintro e w10 ⟨v132, rfl, ho0, hb⟩; refine ⟨_, rfl, ?_⟩; have n0_ := Aside0.mk (Kd.R_lower (Kd.R_newB ho0 (lK BK128.out)) (below_size lB)); have n1_ := Aside0.mk (blk_below (lK BK128.out) hb); have n2_ := Aside0.mk (below_step lB hb); clear BK128; clear HB; have HO133 := n0_; have BK128 := n1_; have HB := n2_; clear n0_ n1_ n2_; (try clear hb); (try clear hb2); (try clear hk); (try clear hi); (try clear ho0)) | ((with_reducible refine gate_dst (N := 4) rfl ?_); (try (refine gate_guard (by rfl) ?_; dsimp only)); refine bxe 4 #[.int .i64 0, .int .i64 0, .slice none 0 0] 72 ?_; intro gb135 hg w11 hbox hb; have n0_ := Aside0.mk (Kd.R_below (Kd.R_elderB (lR HO133.out) gb135 (Nat.le_of_eq hg.symm)) hb); have n1_ := Aside0.mk (blk_below (lK BK128.out) hb); have n2_ := Aside0.mk (below_step lB hb); have n3_ := Aside0.mk (hbox); have n4_ := lG w hg; have n5_ := lG w hg; have n6_ := Aside0.mk ((by rw [hg]; exact Nat.ne_of_lt (blk_lt (lK BK128.out)) : gb128 ≠ gb135)); have n7_ := Aside0.mk ((by rw [hg]; exact Nat.ne_of_gt (blk_lt (lK BK128.out)) : gb135 ≠ gb128)); clear HO133; clear BK128; clear HB; have HO133 := n0_; have BK128 := n1_; have HB := n2_; have BK135 := n3_; have GW135 := n4_; have GE135 := n5_; have NB128_135 := n6_; have NB135_128 := n7_; clear n0_ n1_ n2_ n3_ n4_ n5_ n6_ n7_; clear hb hbox hg; have hnb12 := NB135_128.out; have hnc12 := NB128_135.out; obtain ⟨hcz13_0, hfz13_0, hcz13_1, hfz13_1, hcz13_2, hfz13_2⟩ := bk3 BK135.out; obtain ⟨Ao14, co14, eo14⟩ := Kd.R_slice HO133.out; subst eo14))
    have n0_ : Aside0 (Kd.R k72 72 (((w11.setCell ⟨gb135, 0, none⟩ (.int .i64 t129)).setCell ⟨gb135, 1, none⟩ (.int .i64 t130)).setCell ⟨gb135, 2, none⟩ (.slice Ao14 t131.length co14)) w.heap.size (fun k_ => k_ ≠ gb128 ∧ k_ ≠ gb135) (.slice Ao14 t131.length co14) t131) := ⟨by (with_reducible repeat (first | apply Kd.R_alloc | apply Kd.R_drewN | apply Kd.R_drew)); exact Kd.R_mono (Kd.R_far (p := ⟨gb135, 2, none⟩) (Kd.R_far (p := ⟨gb135, 1, none⟩) (Kd.R_far (p := ⟨gb135, 0, none⟩) (Kd.R_mono HO133.out (fun k_ hk => (⟨hk, hk.2⟩ : _ ∧ k_ ≠ gb135))) (fun _ hk => hk.2) (.int .i64 t129)) (fun _ hk => hk.2) (.int .i64 t130)) (fun _ hk => hk.2) (.slice Ao14 t131.length co14)) (fun _ hk => ⟨hk.1.1.2, hk.1.2⟩)⟩
    have n1_ : Aside0 ((((w11.setCell ⟨gb135, 0, none⟩ (.int .i64 t129)).setCell ⟨gb135, 1, none⟩ (.int .i64 t130)).setCell ⟨gb135, 2, none⟩ (.slice Ao14 t131.length co14)).heap[gb128]? = some (.cells #[.int .i64 0, .int .i64 0, .slice none 0 0] 72 (0, 0))) := ⟨lJ BK128.out⟩
    have n2_ : Aside0 ((((w11.setCell ⟨gb135, 0, none⟩ (.int .i64 t129)).setCell ⟨gb135, 1, none⟩ (.int .i64 t130)).setCell ⟨gb135, 2, none⟩ (.slice Ao14 t131.length co14)).heap[gb135]? = some (.cells #[.int .i64 t129, .int .i64 t130, .slice Ao14 t131.length co14] 72 (0, 0))) := ⟨by (with_reducible repeat first | apply bN | apply bD | apply bA); refine blk_put (cs := #[.int .i64 t129, .int .i64 t130, .slice none 0 0]) ?_ 2 _ rfl; (with_reducible repeat first | apply bN | apply bD | apply bA); refine blk_put (cs := #[.int .i64 t129, .int .i64 0, .slice none 0 0]) ?_ 1 _ rfl; (with_reducible repeat first | apply bN | apply bD | apply bA); refine blk_put (cs := #[.int .i64 0, .int .i64 0, .slice none 0 0]) ?_ 0 _ rfl; (with_reducible repeat first | apply bN | apply bD | apply bA); exact BK135.out⟩
    have n3_ : Aside0 (Below w.heap.size w (((w11.setCell ⟨gb135, 0, none⟩ (.int .i64 t129)).setCell ⟨gb135, 1, none⟩ (.int .i64 t130)).setCell ⟨gb135, 2, none⟩ (.slice Ao14 t131.length co14))) := ⟨lB⟩
    (try clear HO133)
    (try clear BK128)
    (try clear BK135)
    (try clear HB)
    generalize (((w11.setCell ⟨gb135, 0, none⟩ (.int .i64 t129)).setCell ⟨gb135, 1, none⟩ (.int .i64 t130)).setCell ⟨gb135, 2, none⟩ (.slice Ao14 t131.length co14)) = w15 at n0_ n1_ n2_ n3_ ⊢
    have HO133 := n0_
    have BK128 := n1_
    have BK135 := n2_
    have HB := n3_
    clear n0_ n1_ n2_ n3_
    have n0_ := Aside0.mk (Kd.R_drew HO133.out)
    have n1_ := Aside0.mk (blk_drew BK128.out)
    have n2_ := Aside0.mk (blk_drew BK135.out)
    have n3_ := Aside0.mk (below_drew1 HB.out)
    clear HO133
    clear BK128
    clear BK135
    clear HB
    have HO133 := n0_
    have BK128 := n1_
    have BK135 := n2_
    have HB := n3_
    clear n0_ n1_ n2_ n3_
    refine start_ (n := 16) (S := fun w' => w'.cell? ⟨gb135, 0, none⟩ = some (.int .i64 t129) ∧ w'.cell? ⟨gb135, 1, none⟩ = some (.int .i64 t130) ∧ w'.cell? ⟨gb135, 2, none⟩ = some (.slice Ao14 t131.length co14)) (ds := []) (bs 16 0) kR rfl kR ⟨bZ BK135.out 0, bZ BK135.out 1, bZ BK135.out 2⟩ (fun hHeld => ?_); refine with_tabW spec_l16Tree.tab4 spec_l16Tree.bits4 (fun HT_ HW_ => ?_)
    generalize w15.drew = w16 at HO133 BK128 BK135 HB hHeld ⊢
    refine pur_ 1 16 (bs 16 2) (any_of HT_.out kR) ?_
    refine pur_ 2 17 (bs 16 6) (any_of HT_.out kR) ?_
    refine pur_ 3 18 (bs 16 14) (any_of HT_.out kR) ?_
    refine pur_ 4 19 (bs 16 30) (any_of HT_.out kR) ?_
    refine pur_ 5 20 (bs 16 62) (any_of HT_.out kR) ?_
    refine pur_ 6 21 (bs 16 126) (any_of HT_.out kR) ?_
    refine pur_ 7 22 (bs 16 254) (any_of HT_.out kR) ?_
    refine pur_ 8 23 (bs 16 510) (any_of HT_.out kR) ?_
    refine pur_ 9 24 (bs 16 1022) (any_of HT_.out kR) ?_
    refine tak_ 0 15 (bs 16 1023) (take_ofW HT_.out HW_.out kR) hHeld ?_
    refine tak_ 10 25 (bs 16 2047) (take_ofW HT_.out HW_.out kR) hHeld ?_
    refine one_ (i := 11) (N := some 26) (bs 16 4095) rfl rfl (one_of HT_.out (by kernel_rfl)) (by decide) (fun K hK => ?_)
    refine goes_ Try.func76 (by kernel_rfl) rfl #[.agg #[.int .i64 t129, .int .i64 t130, .slice Ao14 t131.length co14]] (by rfl) rfl rfl (by (try simp only [List.map_toArray, List.map_cons, List.map_nil]); first | done | rfl | (simp only [List.length_drop, List.length_take]; rfl)) ?_
    with_reducible refine (spec_l16Loops.calls k t129 t130 _ _ t131 t136 _ ?side1 ?side2 A8.out).mono ?_
    (case side1 => repeat (first | exact (Kd.R_reads' HO133.out).2.2 | (with_reducible refine Kd.C_alloc ?_ _) | (with_reducible refine Kd.C_drewN ?_ _) | (with_reducible refine Kd.C_drew ?_)))
    (case side2 => exact (Kd.R_reads' HO133.out).2.1)
    rintro e w17 ⟨rfl, hb⟩
    refine ⟨_, rfl, ?_⟩
    have n0_ := Aside0.mk (Kd.R_below (lR HO133.out) hb)
    have n1_ := Aside0.mk (blk_below (lK BK128.out) hb)
    have n2_ := Aside0.mk (blk_below (lK BK135.out) hb)
    have n3_ := Aside0.mk (below_step lB hb)
    clear HO133
    clear BK128
    clear BK135
    clear HB
    have HO133 := n0_
    have BK128 := n1_
    have BK135 := n2_
    have HB := n3_
    clear n0_ n1_ n2_ n3_
    (try clear hb)
    (try clear hb2)
    (try clear hk)
    (try clear hi)
    refine hK.out _ _ ⟨bZ BK135.out 0, bZ BK135.out 1, bZ BK135.out 2⟩ (fun hHeld => ?_)
    clear hK K
    refine norm_ (a' := ?_) ?_ ?_
    rotate_left
    ·show Act.put _ (some 26) _ = _
     simp only [Act.put, List.setIfInBounds_toArray, List.set_cons_zero, List.set_cons_succ, i64_w, i32_w]
     rfl
    refine pur_ 12 27 (bs 16 8191) (any_of HT_.out kR) ?_
    refine pur_ 13 28 (bs 16 16383) (any_of HT_.out kR) ?_
    refine one_ (i := 14) (N := none) (bs 16 32767) rfl rfl (one_of HT_.out (by kernel_rfl)) (by decide) (fun K hK => ?_)
    have hs18 : w17.cell? ⟨gb128, 0, none⟩ = some (.int .i64 0) := bZ BK128.out 0
    have hfs18 := blk_frozen BK128.out 0
    have hns18_1 := NB135_128.out
    have hms18_1 := NB128_135.out
    have hs19 : w17.cell? ⟨gb128, 1, none⟩ = some (.int .i64 0) := bZ BK128.out 1
    have hfs19 := blk_frozen BK128.out 1
    have hns19_1 := NB135_128.out
    have hms19_1 := NB128_135.out
    have hs20 : w17.cell? ⟨gb128, 2, none⟩ = some (.slice none 0 0) := bZ BK128.out 2
    have hfs20 := blk_frozen BK128.out 2
    have hns20_1 := NB135_128.out
    have hms20_1 := NB128_135.out
    refine skip_ (w1 := ?_) (by rfl) rfl ?_ ?_
    rotate_left
    ·go_simp
     rfl
    refine hK.out _ _ ⟨((cell_far (p := ⟨gb128, _, none⟩) NB135_128.out _).trans (((cell_far (p := ⟨gb128, _, none⟩) NB135_128.out _).trans (((cell_far (p := ⟨gb128, _, none⟩) NB135_128.out _).trans (hHeld.1)))))), ((cell_far (p := ⟨gb128, _, none⟩) NB135_128.out _).trans (((cell_far (p := ⟨gb128, _, none⟩) NB135_128.out _).trans (((cell_far (p := ⟨gb128, _, none⟩) NB135_128.out _).trans (hHeld.2.1)))))), ((cell_far (p := ⟨gb128, _, none⟩) NB135_128.out _).trans (((cell_far (p := ⟨gb128, _, none⟩) NB135_128.out _).trans (((cell_far (p := ⟨gb128, _, none⟩) NB135_128.out _).trans (hHeld.2.2))))))⟩ (fun hHeld => ?_)
    clear hK K
    refine pur_ 15 3 (bs 16 65535) (any_of HT_.out kR) ?_
    refine done_ (done_of HT_.out (by kernel_rfl)) ?_
    try go_wp2
    refine bodyPost_ret (results_ct rfl _ _ gb128 72 #[.int .i64 t129, .int .i64 t130, .slice Ao14 t131.length co14] (0, 0) _ rfl (by (with_reducible repeat first | apply bN | apply bD | apply bA); refine blk_put (cs := #[.int .i64 t129, .int .i64 t130, .slice none 0 0]) ?_ 2 _ rfl; (with_reducible repeat first | apply bN | apply bD | apply bA); refine blk_put (cs := #[.int .i64 t129, .int .i64 0, .slice none 0 0]) ?_ 1 _ rfl; (with_reducible repeat first | apply bN | apply bD | apply bA); refine blk_put (cs := #[.int .i64 0, .int .i64 0, .slice none 0 0]) ?_ 0 _ rfl; (with_reducible repeat first | apply bN | apply bD | apply bA); exact BK128.out) Try.underlying72 rfl (by kernel_rfl)) rfl ?_
    exact ⟨_, lE, by (with_reducible repeat (first | apply Kd.R_alloc | apply Kd.R_drewN | apply Kd.R_drew)); exact Kd.R_mono (Kd.R_far (p := ⟨gb128, 2, none⟩) (Kd.R_far (p := ⟨gb128, 1, none⟩) (Kd.R_far (p := ⟨gb128, 0, none⟩) (Kd.R_mono HO133.out (fun k_ hk => (⟨hk, hk.1⟩ : _ ∧ k_ ≠ gb128))) (fun _ hk => hk.2) (.int .i64 t129)) (fun _ hk => hk.2) (.int .i64 t130)) (fun _ hk => hk.2) (.slice Ao14 t131.length co14)) (fun _ hk => trivial), lB⟩
   ·rw [if_neg c7] at H
    have c7b0 : (t134 == (l0.length : Int)) = false := beq_eq_false_iff_ne.mpr c7
    have c7b1 : (t134 != (l0.length : Int)) = true := bne_iff_ne.mpr c7
    simp only [Option.some.injEq, Prod.mk.injEq] at H
    obtain ⟨rfl, rfl, rfl, rfl⟩ := H
    go_enter Try.func44, Try.ntmps44
    try go_wp2_with (first | ((with_reducible refine gate_dst (N := 2) rfl ?_); (try (refine gate_guard (by rfl) ?_; dsimp only)); refine bxe 2 #[.int .i64 0, .int .i64 0, .slice none 0 0] 72 ?_; intro gb128 hg w21 hbox hb; have n0_ := Aside0.mk (below_step lB hb); have n1_ := Aside0.mk (hbox); have n2_ := lG w hg; have n3_ := lG w hg; clear HB; have HB := n0_; have BK128 := n1_; have GW128 := n2_; have GE128 := n3_; clear n0_ n1_ n2_ n3_; clear hb hbox hg) | ((with_reducible refine gate_callee (f := 75) rfl ?_); refine gl_ (some 12) (Try.func75) #[.slice A0 l0.length c0, .int .i64 0] ?_; (with_reducible refine (spec_l16Read.calls k _ _ l0 0 t129 t130 t131 t134 _ ?side1 ?side2 A5.out).mono ?_); (case side1 => exact lC (Kd.C_below HR0.out HB.out)); (case side2 => exact HC0.out); rintro e w22 ⟨v132, rfl, ho0, hb⟩; refine ⟨_, rfl, ?_⟩; have n0_ := Aside0.mk (Kd.R_lower (Kd.R_newB ho0 (lK BK128.out)) (below_size lB)); have n1_ := Aside0.mk (blk_below (lK BK128.out) hb); have n2_ := Aside0.mk (below_step lB hb); clear BK128; clear HB; have HO133 := n0_; have BK128 := n1_; have HB := n2_; clear n0_ n1_ n2_; (try clear hb); (try clear hb2); (try clear hk); (try clear hi); (try clear ho0)) | ((with_reducible refine gate_dst (N := 4) rfl ?_); (try (refine gate_guard (by rfl) ?_; dsimp only)); refine bxe 4 #[.int .i64 0, .int .i64 0, .slice none 0 0] 72 ?_; intro gb135 hg w23 hbox hb; have n0_ := Aside0.mk (Kd.R_below (Kd.R_elderB (lR HO133.out) gb135 (Nat.le_of_eq hg.symm)) hb); have n1_ := Aside0.mk (blk_below (lK BK128.out) hb); have n2_ := Aside0.mk (below_step lB hb); have n3_ := Aside0.mk (hbox); have n4_ := lG w hg; have n5_ := lG w hg; have n6_ := Aside0.mk ((by rw [hg]; exact Nat.ne_of_lt (blk_lt (lK BK128.out)) : gb128 ≠ gb135)); have n7_ := Aside0.mk ((by rw [hg]; exact Nat.ne_of_gt (blk_lt (lK BK128.out)) : gb135 ≠ gb128)); clear HO133; clear BK128; clear HB; have HO133 := n0_; have BK128 := n1_; have HB := n2_; have BK135 := n3_; have GW135 := n4_; have GE135 := n5_; have NB128_135 := n6_; have NB135_128 := n7_; clear n0_ n1_ n2_ n3_ n4_ n5_ n6_ n7_; clear hb hbox hg; have hnb24 := NB135_128.out; have hnc24 := NB128_135.out; obtain ⟨hcz25_0, hfz25_0, hcz25_1, hfz25_1, hcz25_2, hfz25_2⟩ := bk3 BK135.out; obtain ⟨Ao26, co26, eo26⟩ := Kd.R_slice HO133.out; subst eo26))
    have n0_ : Aside0 (Kd.R k72 72 (((w23.setCell ⟨gb135, 0, none⟩ (.int .i64 t129)).setCell ⟨gb135, 1, none⟩ (.int .i64 t130)).setCell ⟨gb135, 2, none⟩ (.slice Ao26 t131.length co26)) w.heap.size (fun k_ => k_ ≠ gb128 ∧ k_ ≠ gb135) (.slice Ao26 t131.length co26) t131) := ⟨by (with_reducible repeat (first | apply Kd.R_alloc | apply Kd.R_drewN | apply Kd.R_drew)); exact Kd.R_mono (Kd.R_far (p := ⟨gb135, 2, none⟩) (Kd.R_far (p := ⟨gb135, 1, none⟩) (Kd.R_far (p := ⟨gb135, 0, none⟩) (Kd.R_mono HO133.out (fun k_ hk => (⟨hk, hk.2⟩ : _ ∧ k_ ≠ gb135))) (fun _ hk => hk.2) (.int .i64 t129)) (fun _ hk => hk.2) (.int .i64 t130)) (fun _ hk => hk.2) (.slice Ao26 t131.length co26)) (fun _ hk => ⟨hk.1.1.2, hk.1.2⟩)⟩
    have n1_ : Aside0 ((((w23.setCell ⟨gb135, 0, none⟩ (.int .i64 t129)).setCell ⟨gb135, 1, none⟩ (.int .i64 t130)).setCell ⟨gb135, 2, none⟩ (.slice Ao26 t131.length co26)).heap[gb128]? = some (.cells #[.int .i64 0, .int .i64 0, .slice none 0 0] 72 (0, 0))) := ⟨lJ BK128.out⟩
    have n2_ : Aside0 ((((w23.setCell ⟨gb135, 0, none⟩ (.int .i64 t129)).setCell ⟨gb135, 1, none⟩ (.int .i64 t130)).setCell ⟨gb135, 2, none⟩ (.slice Ao26 t131.length co26)).heap[gb135]? = some (.cells #[.int .i64 t129, .int .i64 t130, .slice Ao26 t131.length co26] 72 (0, 0))) := ⟨by (with_reducible repeat first | apply bN | apply bD | apply bA); refine blk_put (cs := #[.int .i64 t129, .int .i64 t130, .slice none 0 0]) ?_ 2 _ rfl; (with_reducible repeat first | apply bN | apply bD | apply bA); refine blk_put (cs := #[.int .i64 t129, .int .i64 0, .slice none 0 0]) ?_ 1 _ rfl; (with_reducible repeat first | apply bN | apply bD | apply bA); refine blk_put (cs := #[.int .i64 0, .int .i64 0, .slice none 0 0]) ?_ 0 _ rfl; (with_reducible repeat first | apply bN | apply bD | apply bA); exact BK135.out⟩
    have n3_ : Aside0 (Below w.heap.size w (((w23.setCell ⟨gb135, 0, none⟩ (.int .i64 t129)).setCell ⟨gb135, 1, none⟩ (.int .i64 t130)).setCell ⟨gb135, 2, none⟩ (.slice Ao26 t131.length co26))) := ⟨lB⟩
    (try clear HO133)
    (try clear BK128)
    (try clear BK135)
    (try clear HB)
    generalize (((w23.setCell ⟨gb135, 0, none⟩ (.int .i64 t129)).setCell ⟨gb135, 1, none⟩ (.int .i64 t130)).setCell ⟨gb135, 2, none⟩ (.slice Ao26 t131.length co26)) = w27 at n0_ n1_ n2_ n3_ ⊢
    have HO133 := n0_
    have BK128 := n1_
    have BK135 := n2_
    have HB := n3_
    clear n0_ n1_ n2_ n3_
    have n0_ := Aside0.mk (Kd.R_drew HO133.out)
    have n1_ := Aside0.mk (blk_drew BK128.out)
    have n2_ := Aside0.mk (blk_drew BK135.out)
    have n3_ := Aside0.mk (below_drew1 HB.out)
    clear HO133
    clear BK128
    clear BK135
    clear HB
    have HO133 := n0_
    have BK128 := n1_
    have BK135 := n2_
    have HB := n3_
    clear n0_ n1_ n2_ n3_
    refine start_ (n := 16) (S := fun w' => w'.cell? ⟨gb135, 0, none⟩ = some (.int .i64 t129) ∧ w'.cell? ⟨gb135, 1, none⟩ = some (.int .i64 t130) ∧ w'.cell? ⟨gb135, 2, none⟩ = some (.slice Ao26 t131.length co26)) (ds := []) (bs 16 0) kR rfl kR ⟨bZ BK135.out 0, bZ BK135.out 1, bZ BK135.out 2⟩ (fun hHeld => ?_); refine with_tabW spec_l16Tree.tab4 spec_l16Tree.bits4 (fun HT_ HW_ => ?_)
    generalize w27.drew = w28 at HO133 BK128 BK135 HB hHeld ⊢
    refine pur_ 1 16 (bs 16 2) (any_of HT_.out kR) ?_
    refine pur_ 2 17 (bs 16 6) (any_of HT_.out kR) ?_
    refine pur_ 3 18 (bs 16 14) (any_of HT_.out kR) ?_
    refine pur_ 4 19 (bs 16 30) (any_of HT_.out kR) ?_
    refine pur_ 5 20 (bs 16 62) (any_of HT_.out kR) ?_
    refine pur_ 6 21 (bs 16 126) (any_of HT_.out kR) ?_
    refine pur_ 7 22 (bs 16 254) (any_of HT_.out kR) ?_
    refine pur_ 8 23 (bs 16 510) (any_of HT_.out kR) ?_
    refine pur_ 9 24 (bs 16 1022) (any_of HT_.out kR) ?_
    refine puu_ 10 25 (bs 16 2046) (any_of HT_.out kR) ?_
    refine puu_ 11 26 (bs 16 4094) (any_of HT_.out kR) ?_
    refine puu_ 12 27 (bs 16 8190) (any_of HT_.out kR) ?_
    refine pur_ 13 28 (bs 16 16382) (any_of HT_.out kR) ?_
    refine tak_ 0 15 (bs 16 16383) (take_ofW HT_.out HW_.out kR) hHeld ?_
    refine one_ (i := 14) (N := none) (bs 16 32767) rfl rfl (one_of HT_.out (by kernel_rfl)) (by decide) (fun K hK => ?_)
    have hs29 : w28.cell? ⟨gb128, 0, none⟩ = some (.int .i64 0) := bZ BK128.out 0
    have hfs29 := blk_frozen BK128.out 0
    have hns29_1 := NB135_128.out
    have hms29_1 := NB128_135.out
    have hs30 : w28.cell? ⟨gb128, 1, none⟩ = some (.int .i64 0) := bZ BK128.out 1
    have hfs30 := blk_frozen BK128.out 1
    have hns30_1 := NB135_128.out
    have hms30_1 := NB128_135.out
    have hs31 : w28.cell? ⟨gb128, 2, none⟩ = some (.slice none 0 0) := bZ BK128.out 2
    have hfs31 := blk_frozen BK128.out 2
    have hns31_1 := NB135_128.out
    have hms31_1 := NB128_135.out
    refine skip_ (w1 := ?_) (by rfl) rfl ?_ ?_
    rotate_left
    ·go_simp
     rfl
    refine hK.out _ _ ⟨((cell_far (p := ⟨gb128, _, none⟩) NB135_128.out _).trans (((cell_far (p := ⟨gb128, _, none⟩) NB135_128.out _).trans (((cell_far (p := ⟨gb128, _, none⟩) NB135_128.out _).trans (hHeld.1)))))), ((cell_far (p := ⟨gb128, _, none⟩) NB135_128.out _).trans (((cell_far (p := ⟨gb128, _, none⟩) NB135_128.out _).trans (((cell_far (p := ⟨gb128, _, none⟩) NB135_128.out _).trans (hHeld.2.1)))))), ((cell_far (p := ⟨gb128, _, none⟩) NB135_128.out _).trans (((cell_far (p := ⟨gb128, _, none⟩) NB135_128.out _).trans (((cell_far (p := ⟨gb128, _, none⟩) NB135_128.out _).trans (hHeld.2.2))))))⟩ (fun hHeld => ?_)
    clear hK K
    refine pur_ 15 3 (bs 16 65535) (any_of HT_.out kR) ?_
    refine done_ (done_of HT_.out (by kernel_rfl)) ?_
    try go_wp2
    refine bodyPost_ret (results_ct rfl _ _ gb128 72 #[.int .i64 t129, .int .i64 t130, .slice Ao26 t131.length co26] (0, 0) _ rfl (by (with_reducible repeat first | apply bN | apply bD | apply bA); refine blk_put (cs := #[.int .i64 t129, .int .i64 t130, .slice none 0 0]) ?_ 2 _ rfl; (with_reducible repeat first | apply bN | apply bD | apply bA); refine blk_put (cs := #[.int .i64 t129, .int .i64 0, .slice none 0 0]) ?_ 1 _ rfl; (with_reducible repeat first | apply bN | apply bD | apply bA); refine blk_put (cs := #[.int .i64 0, .int .i64 0, .slice none 0 0]) ?_ 0 _ rfl; (with_reducible repeat first | apply bN | apply bD | apply bA); exact BK128.out) Try.underlying72 rfl (by kernel_rfl)) rfl ?_
    exact ⟨_, lE, by (with_reducible repeat (first | apply Kd.R_alloc | apply Kd.R_drewN | apply Kd.R_drew)); exact Kd.R_mono (Kd.R_far (p := ⟨gb128, 2, none⟩) (Kd.R_far (p := ⟨gb128, 1, none⟩) (Kd.R_far (p := ⟨gb128, 0, none⟩) (Kd.R_mono HO133.out (fun k_ hk => (⟨hk, hk.1⟩ : _ ∧ k_ ≠ gb128))) (fun _ hk => hk.2) (.int .i64 t129)) (fun _ hk => hk.2) (.int .i64 t130)) (fun _ hk => hk.2) (.slice Ao26 t131.length co26)) (fun _ hk => trivial), lB⟩
  ·rw [if_neg c6] at H
   have c6b0 : decide (0 < t134) = false := decide_eq_false c6
   clear c6
   simp only [Option.some.injEq, Prod.mk.injEq] at H
   obtain ⟨rfl, rfl, rfl, rfl⟩ := H
   go_enter Try.func44, Try.ntmps44
   try go_wp2_with (first | ((with_reducible refine gate_dst (N := 2) rfl ?_); (try (refine gate_guard (by rfl) ?_; dsimp only)); refine bxe 2 #[.int .i64 0, .int .i64 0, .slice none 0 0] 72 ?_; intro gb128 hg w32 hbox hb; have n0_ := Aside0.mk (below_step lB hb); have n1_ := Aside0.mk (hbox); have n2_ := lG w hg; have n3_ := lG w hg; clear HB; have HB := n0_; have BK128 := n1_; have GW128 := n2_; have GE128 := n3_; clear n0_ n1_ n2_ n3_; clear hb hbox hg) | ((with_reducible refine gate_callee (f := 75) rfl ?_); refine gl_ (some 12) (Try.func75) #[.slice A0 l0.length c0, .int .i64 0] ?_; (with_reducible refine (spec_l16Read.calls k _ _ l0 0 t129 t130 t131 t134 _ ?side1 ?side2 A5.out).mono ?_); (case side1 => exact lC (Kd.C_below HR0.out HB.out)); (case side2 => exact HC0.out); rintro e w33 ⟨v132, rfl, ho0, hb⟩; refine ⟨_, rfl, ?_⟩; have n0_ := Aside0.mk (Kd.R_lower (Kd.R_newB ho0 (lK BK128.out)) (below_size lB)); have n1_ := Aside0.mk (blk_below (lK BK128.out) hb); have n2_ := Aside0.mk (below_step lB hb); clear BK128; clear HB; have HO133 := n0_; have BK128 := n1_; have HB := n2_; clear n0_ n1_ n2_; (try clear hb); (try clear hb2); (try clear hk); (try clear hi); (try clear ho0)) | ((with_reducible refine gate_dst (N := 4) rfl ?_); (try (refine gate_guard (by rfl) ?_; dsimp only)); refine bxe 4 #[.int .i64 0, .int .i64 0, .slice none 0 0] 72 ?_; intro gb135 hg w34 hbox hb; have n0_ := Aside0.mk (Kd.R_below (Kd.R_elderB (lR HO133.out) gb135 (Nat.le_of_eq hg.symm)) hb); have n1_ := Aside0.mk (blk_below (lK BK128.out) hb); have n2_ := Aside0.mk (below_step lB hb); have n3_ := Aside0.mk (hbox); have n4_ := lG w hg; have n5_ := lG w hg; have n6_ := Aside0.mk ((by rw [hg]; exact Nat.ne_of_lt (blk_lt (lK BK128.out)) : gb128 ≠ gb135)); have n7_ := Aside0.mk ((by rw [hg]; exact Nat.ne_of_gt (blk_lt (lK BK128.out)) : gb135 ≠ gb128)); clear HO133; clear BK128; clear HB; have HO133 := n0_; have BK128 := n1_; have HB := n2_; have BK135 := n3_; have GW135 := n4_; have GE135 := n5_; have NB128_135 := n6_; have NB135_128 := n7_; clear n0_ n1_ n2_ n3_ n4_ n5_ n6_ n7_; clear hb hbox hg; have hnb35 := NB135_128.out; have hnc35 := NB128_135.out; obtain ⟨hcz36_0, hfz36_0, hcz36_1, hfz36_1, hcz36_2, hfz36_2⟩ := bk3 BK135.out; obtain ⟨Ao37, co37, eo37⟩ := Kd.R_slice HO133.out; subst eo37))
   have n0_ : Aside0 (Kd.R k72 72 (((w34.setCell ⟨gb135, 0, none⟩ (.int .i64 t129)).setCell ⟨gb135, 1, none⟩ (.int .i64 t130)).setCell ⟨gb135, 2, none⟩ (.slice Ao37 t131.length co37)) w.heap.size (fun k_ => k_ ≠ gb128 ∧ k_ ≠ gb135) (.slice Ao37 t131.length co37) t131) := ⟨by (with_reducible repeat (first | apply Kd.R_alloc | apply Kd.R_drewN | apply Kd.R_drew)); exact Kd.R_mono (Kd.R_far (p := ⟨gb135, 2, none⟩) (Kd.R_far (p := ⟨gb135, 1, none⟩) (Kd.R_far (p := ⟨gb135, 0, none⟩) (Kd.R_mono HO133.out (fun k_ hk => (⟨hk, hk.2⟩ : _ ∧ k_ ≠ gb135))) (fun _ hk => hk.2) (.int .i64 t129)) (fun _ hk => hk.2) (.int .i64 t130)) (fun _ hk => hk.2) (.slice Ao37 t131.length co37)) (fun _ hk => ⟨hk.1.1.2, hk.1.2⟩)⟩
   have n1_ : Aside0 ((((w34.setCell ⟨gb135, 0, none⟩ (.int .i64 t129)).setCell ⟨gb135, 1, none⟩ (.int .i64 t130)).setCell ⟨gb135, 2, none⟩ (.slice Ao37 t131.length co37)).heap[gb128]? = some (.cells #[.int .i64 0, .int .i64 0, .slice none 0 0] 72 (0, 0))) := ⟨lJ BK128.out⟩
   have n2_ : Aside0 ((((w34.setCell ⟨gb135, 0, none⟩ (.int .i64 t129)).setCell ⟨gb135, 1, none⟩ (.int .i64 t130)).setCell ⟨gb135, 2, none⟩ (.slice Ao37 t131.length co37)).heap[gb135]? = some (.cells #[.int .i64 t129, .int .i64 t130, .slice Ao37 t131.length co37] 72 (0, 0))) := ⟨by (with_reducible repeat first | apply bN | apply bD | apply bA); refine blk_put (cs := #[.int .i64 t129, .int .i64 t130, .slice none 0 0]) ?_ 2 _ rfl; (with_reducible repeat first | apply bN | apply bD | apply bA); refine blk_put (cs := #[.int .i64 t129, .int .i64 0, .slice none 0 0]) ?_ 1 _ rfl; (with_reducible repeat first | apply bN | apply bD | apply bA); refine blk_put (cs := #[.int .i64 0, .int .i64 0, .slice none 0 0]) ?_ 0 _ rfl; (with_reducible repeat first | apply bN | apply bD | apply bA); exact BK135.out⟩
   have n3_ : Aside0 (Below w.heap.size w (((w34.setCell ⟨gb135, 0, none⟩ (.int .i64 t129)).setCell ⟨gb135, 1, none⟩ (.int .i64 t130)).setCell ⟨gb135, 2, none⟩ (.slice Ao37 t131.length co37))) := ⟨lB⟩
   (try clear HO133)
   (try clear BK128)
   (try clear BK135)
   (try clear HB)
   generalize (((w34.setCell ⟨gb135, 0, none⟩ (.int .i64 t129)).setCell ⟨gb135, 1, none⟩ (.int .i64 t130)).setCell ⟨gb135, 2, none⟩ (.slice Ao37 t131.length co37)) = w38 at n0_ n1_ n2_ n3_ ⊢
   have HO133 := n0_
   have BK128 := n1_
   have BK135 := n2_
   have HB := n3_
   clear n0_ n1_ n2_ n3_
   have n0_ := Aside0.mk (Kd.R_drew HO133.out)
   have n1_ := Aside0.mk (blk_drew BK128.out)
   have n2_ := Aside0.mk (blk_drew BK135.out)
   have n3_ := Aside0.mk (below_drew1 HB.out)
   clear HO133
   clear BK128
   clear BK135
   clear HB
   have HO133 := n0_
   have BK128 := n1_
   have BK135 := n2_
   have HB := n3_
   clear n0_ n1_ n2_ n3_
   refine start_ (n := 16) (S := fun w' => w'.cell? ⟨gb135, 0, none⟩ = some (.int .i64 t129) ∧ w'.cell? ⟨gb135, 1, none⟩ = some (.int .i64 t130) ∧ w'.cell? ⟨gb135, 2, none⟩ = some (.slice Ao37 t131.length co37)) (ds := []) (bs 16 0) kR rfl kR ⟨bZ BK135.out 0, bZ BK135.out 1, bZ BK135.out 2⟩ (fun hHeld => ?_); refine with_tabW spec_l16Tree.tab4 spec_l16Tree.bits4 (fun HT_ HW_ => ?_)
   generalize w38.drew = w39 at HO133 BK128 BK135 HB hHeld ⊢
   refine pur_ 1 16 (bs 16 2) (any_of HT_.out kR) ?_
   refine pur_ 2 17 (bs 16 6) (any_of HT_.out kR) ?_
   refine pur_ 3 18 (bs 16 14) (any_of HT_.out kR) ?_
   refine puu_ 4 19 (bs 16 30) (any_of HT_.out kR) ?_
   refine puu_ 5 20 (bs 16 62) (any_of HT_.out kR) ?_
   refine puu_ 6 21 (bs 16 126) (any_of HT_.out kR) ?_
   refine puu_ 7 22 (bs 16 254) (any_of HT_.out kR) ?_
   refine pur_ 8 23 (bs 16 510) (any_of HT_.out kR) ?_
   refine pur_ 9 24 (bs 16 1022) (any_of HT_.out kR) ?_
   refine puu_ 10 25 (bs 16 2046) (any_of HT_.out kR) ?_
   refine puu_ 11 26 (bs 16 4094) (any_of HT_.out kR) ?_
   refine puu_ 12 27 (bs 16 8190) (any_of HT_.out kR) ?_
   refine pur_ 13 28 (bs 16 16382) (any_of HT_.out kR) ?_
   refine tak_ 0 15 (bs 16 16383) (take_ofW HT_.out HW_.out kR) hHeld ?_
   refine one_ (i := 14) (N := none) (bs 16 32767) rfl rfl (one_of HT_.out (by kernel_rfl)) (by decide) (fun K hK => ?_)
   have hs40 : w39.cell? ⟨gb128, 0, none⟩ = some (.int .i64 0) := bZ BK128.out 0
   have hfs40 := blk_frozen BK128.out 0
   have hns40_1 := NB135_128.out
   have hms40_1 := NB128_135.out
   have hs41 : w39.cell? ⟨gb128, 1, none⟩ = some (.int .i64 0) := bZ BK128.out 1
   have hfs41 := blk_frozen BK128.out 1
   have hns41_1 := NB135_128.out
   have hms41_1 := NB128_135.out
   have hs42 : w39.cell? ⟨gb128, 2, none⟩ = some (.slice none 0 0) := bZ BK128.out 2
   have hfs42 := blk_frozen BK128.out 2
   have hns42_1 := NB135_128.out
   have hms42_1 := NB128_135.out
   refine skip_ (w1 := ?_) (by rfl) rfl ?_ ?_
   rotate_left
   ·go_simp
    rfl
   refine hK.out _ _ ⟨((cell_far (p := ⟨gb128, _, none⟩) NB135_128.out _).trans (((cell_far (p := ⟨gb128, _, none⟩) NB135_128.out _).trans (((cell_far (p := ⟨gb128, _, none⟩) NB135_128.out _).trans (hHeld.1)))))), ((cell_far (p := ⟨gb128, _, none⟩) NB135_128.out _).trans (((cell_far (p := ⟨gb128, _, none⟩) NB135_128.out _).trans (((cell_far (p := ⟨gb128, _, none⟩) NB135_128.out _).trans (hHeld.2.1)))))), ((cell_far (p := ⟨gb128, _, none⟩) NB135_128.out _).trans (((cell_far (p := ⟨gb128, _, none⟩) NB135_128.out _).trans (((cell_far (p := ⟨gb128, _, none⟩) NB135_128.out _).trans (hHeld.2.2))))))⟩ (fun hHeld => ?_)
   clear hK K
   refine pur_ 15 3 (bs 16 65535) (any_of HT_.out kR) ?_
   refine done_ (done_of HT_.out (by kernel_rfl)) ?_
   try go_wp2
   refine bodyPost_ret (results_ct rfl _ _ gb128 72 #[.int .i64 t129, .int .i64 t130, .slice Ao37 t131.length co37] (0, 0) _ rfl (by (with_reducible repeat first | apply bN | apply bD | apply bA); refine blk_put (cs := #[.int .i64 t129, .int .i64 t130, .slice none 0 0]) ?_ 2 _ rfl; (with_reducible repeat first | apply bN | apply bD | apply bA); refine blk_put (cs := #[.int .i64 t129, .int .i64 0, .slice none 0 0]) ?_ 1 _ rfl; (with_reducible repeat first | apply bN | apply bD | apply bA); refine blk_put (cs := #[.int .i64 0, .int .i64 0, .slice none 0 0]) ?_ 0 _ rfl; (with_reducible repeat first | apply bN | apply bD | apply bA); exact BK128.out) Try.underlying72 rfl (by kernel_rfl)) rfl ?_
   exact ⟨_, lE, by (with_reducible repeat (first | apply Kd.R_alloc | apply Kd.R_drewN | apply Kd.R_drew)); exact Kd.R_mono (Kd.R_far (p := ⟨gb128, 2, none⟩) (Kd.R_far (p := ⟨gb128, 1, none⟩) (Kd.R_far (p := ⟨gb128, 0, none⟩) (Kd.R_mono HO133.out (fun k_ hk => (⟨hk, hk.1⟩ : _ ∧ k_ ≠ gb128))) (fun _ hk => hk.2) (.int .i64 t129)) (fun _ hk => hk.2) (.int .i64 t130)) (fun _ hk => hk.2) (.slice Ao37 t131.length co37)) (fun _ hk => trivial), lB⟩

/-! ### spec_GoodTree2: function 13 -/
def spec_GoodTree2.f (k : Nat) (l0 : List (S76)) : Option (Bool) := (spec_l16Tree.f k l0).bind fun bt137 => (some bt137.2.2.2)
theorem spec_GoodTree2.mono : ∀ a0 k, LeO (spec_GoodTree2.f k a0) (spec_GoodTree2.f (k + 1) a0) := by
 intro a0 k
 unfold spec_GoodTree2.f
 repeat' first
   | with_reducible apply spec_l16Tree.mono
   | (with_reducible exact LeO.refl _)
   | (with_reducible exact LeO.none _)
   | (with_reducible refine LeO.ite ?_ ?_)
   | (with_reducible refine LeO.bind ?_ (fun _ => ?_))
   | apply spec_l16Tree.mono
   | exact LeO.none _
   | refine LeO.ite ?_ ?_
   | refine LeO.bind ?_ (fun _ => ?_)
set_option maxHeartbeats 8000000 in
set_option maxRecDepth 100000 in
theorem spec_GoodTree2.calls (k : Nat) (A0 : Option Addr) (c0 : Nat) (l0 : List (S76)) (r : Bool) (w : World) (hr0 : Kd.C k76 w A0 l0.length l0) (hc0 : l0.length ≤ c0) (h : spec_GoodTree2.f k l0 = some r) :
  Calls Try.prog 13 #[.slice A0 l0.length c0] w fun e w' => e = .returned (.bool r) ∧ Below w.heap.size w w' := by
 have hu72 := Try.underlying72
 have HR0 := Aside0.mk hr0
 have HC0 := Aside0.mk hc0
 clear hr0 hc0
 have HB := Aside0.mk (Below.refl w.heap.size w)
 have H : ((spec_l16Tree.f k l0).bind fun bt137 => (some bt137.2.2.2)) = some r := h
 clear h
 replace H := Option.bind_eq_some_iff.mp H
 obtain ⟨⟨t137, t138, t139, t142⟩, A20, H⟩ := H
 replace H : (some t142) = some r := H
 have A2 := Aside0.mk A20
 clear A20
 obtain rfl := Option.some.inj H
 go_enter Try.func13, Try.ntmps13
 go_wp2_with (first | ((with_reducible refine gate_callee (f := 44) rfl ?_); refine gl_ (some 7) (Try.func44) #[.slice A0 l0.length c0] ?_; (with_reducible refine (spec_l16Tree.calls k _ _ l0 t137 t138 t139 t142 _ ?side1 ?side2 A2.out).mono ?_); (case side1 => repeat (first | exact HR0.out | (with_reducible refine Kd.C_alloc ?_ _) | (with_reducible refine Kd.C_drewN ?_ _) | (with_reducible refine Kd.C_drew ?_))); (case side2 => exact HC0.out); rintro e w3 ⟨v140, rfl, ho0, hb⟩; refine ⟨_, rfl, ?_⟩; have n0_ := Aside0.mk (Kd.R_lower ho0 (below_size lB)); have n1_ := Aside0.mk (below_step lB hb); clear HB; have HO141 := n0_; have HB := n1_; clear n0_ n1_; (try clear hb); (try clear hb2); (try clear hk); (try clear hi); (try clear ho0)) | ((with_reducible refine gate_dst (N := 3) rfl ?_); refine bxe 3 #[.int .i64 0, .int .i64 0, .slice none 0 0] 72 ?_; intro gb143 hg w4 hbox hb; have n0_ := Aside0.mk (Kd.R_below (Kd.R_elderB (lR HO141.out) gb143 (Nat.le_of_eq hg.symm)) hb); have n1_ := Aside0.mk (below_step lB hb); have n2_ := Aside0.mk (hbox); have n3_ := lG w hg; have n4_ := lG w hg; clear HO141; clear HB; have HO141 := n0_; have HB := n1_; have BK143 := n2_; have GW143 := n3_; have GE143 := n4_; clear n0_ n1_ n2_ n3_ n4_; clear hb hbox hg; obtain ⟨hcz5_0, hfz5_0, hcz5_1, hfz5_1, hcz5_2, hfz5_2⟩ := bk3 BK143.out; obtain ⟨Ao6, co6, eo6⟩ := Kd.R_slice HO141.out; subst eo6))
 go_ret
 exact ⟨lE, lB⟩

/-! ### laws_toXCell: function 45 -/
def laws_toXCell.f (a0_0 : Int) (a0_1 : Int) : Option (Int × Int) := some (a0_0, a0_1)
set_option maxHeartbeats 8000000 in
set_option maxRecDepth 100000 in
theorem laws_toXCell.calls (a0_0 : Int) (a0_1 : Int) (r1 : Int) (r2 : Int) (w : World) (h : laws_toXCell.f a0_0 a0_1 = some (r1, r2)) :
  Calls Try.prog 45 #[.agg #[.int .i64 a0_0, .int .i64 a0_1]] w fun e w' => e = .returned (.agg #[.int .i64 r1, .int .i64 r2]) ∧ Below w.heap.size w w' := by
 have hu78 := Try.underlying78
 have hu76 := Try.underlying76
 have HB := Aside0.mk (Below.refl w.heap.size w)
 have H : (some (a0_0, a0_1)) = some (r1, r2) := h
 clear h
 simp only [Option.some.injEq, Prod.mk.injEq] at H
 obtain ⟨rfl, rfl⟩ := H
 go_enter Try.func45, Try.ntmps45
 go_wp2_with (first | ((with_reducible refine gate_dst (N := 1) rfl ?_); refine bxe 1 #[.int .i64 a0_0, .int .i64 a0_1] 78 ?_; intro gb144 hg w2 hbox hb; have n0_ := Aside0.mk (below_step lB hb); have n1_ := Aside0.mk (hbox); have n2_ := lG w hg; have n3_ := lG w hg; clear HB; have HB := n0_; have BK144 := n1_; have GW144 := n2_; have GE144 := n3_; clear n0_ n1_ n2_ n3_; clear hb hbox hg) | ((with_reducible refine gate_dst (N := 2) rfl ?_); refine bxe 2 #[.int .i64 0, .int .i64 0] 76 ?_; intro gb145 hg w3 hbox hb; have n0_ := Aside0.mk (blk_below (lK BK144.out) hb); have n1_ := Aside0.mk (below_step lB hb); have n2_ := Aside0.mk (hbox); have n3_ := lG w hg; have n4_ := lG w hg; have n5_ := Aside0.mk ((by rw [hg]; exact Nat.ne_of_lt (blk_lt (lK BK144.out)) : gb144 ≠ gb145)); have n6_ := Aside0.mk ((by rw [hg]; exact Nat.ne_of_gt (blk_lt (lK BK144.out)) : gb145 ≠ gb144)); clear BK144; clear HB; have BK144 := n0_; have HB := n1_; have BK145 := n2_; have GW145 := n3_; have GE145 := n4_; have NB144_145 := n5_; have NB145_144 := n6_; clear n0_ n1_ n2_ n3_ n4_ n5_ n6_; clear hb hbox hg) | ((with_reducible refine gate_dst (N := 3) rfl ?_); refine bxe 3 #[.int .i64 0, .int .i64 0] 76 ?_; intro gb146 hg w4 hbox hb; have n0_ := Aside0.mk (blk_below (lK BK144.out) hb); have n1_ := Aside0.mk (blk_below (lK BK145.out) hb); have n2_ := Aside0.mk (below_step lB hb); have n3_ := Aside0.mk (hbox); have n4_ := lG w hg; have n5_ := lG w hg; have n6_ := Aside0.mk ((by rw [hg]; exact Nat.ne_of_lt (blk_lt (lK BK144.out)) : gb144 ≠ gb146)); have n7_ := Aside0.mk ((by rw [hg]; exact Nat.ne_of_gt (blk_lt (lK BK144.out)) : gb146 ≠ gb144)); have n8_ := Aside0.mk ((by rw [hg]; exact Nat.ne_of_lt (blk_lt (lK BK145.out)) : gb145 ≠ gb146)); have n9_ := Aside0.mk ((by rw [hg]; exact Nat.ne_of_gt (blk_lt (lK BK145.out)) : gb146 ≠ gb145)); clear BK144; clear BK145; clear HB; have BK144 := n0_; have BK145 := n1_; have HB := n2_; have BK146 := n3_; have GW146 := n4_; have GE146 := n5_; have NB144_146 := n6_; have NB146_144 := n7_; have NB145_146 := n8_; have NB146_145 := n9_; clear n0_ n1_ n2_ n3_ n4_ n5_ n6_ n7_ n8_ n9_; clear hb hbox hg; have hnb5 := NB144_145.out; have hnc5 := NB145_144.out; have hnb6 := NB144_146.out; have hnc6 := NB146_144.out; obtain ⟨hcz7_0, hfz7_0, hcz7_1, hfz7_1⟩ := bk2 BK144.out; have hnb8 := NB146_145.out; have hnc8 := NB145_146.out; obtain ⟨hcz9_0, hfz9_0, hcz9_1, hfz9_1⟩ := bk2 BK146.out; obtain ⟨hcz10_0, hfz10_0, hcz10_1, hfz10_1⟩ := bk2 BK145.out))
 refine bodyPost_ret (results_cell_row rfl _ _ gb145 76 #[.int .i64 a0_0, .int .i64 a0_1] (0, 0) _ rfl (by (with_reducible repeat first | apply bN | apply bD | apply bA); refine blk_put (cs := #[.int .i64 a0_0, .int .i64 0]) ?_ 1 _ rfl; (with_reducible repeat first | apply bN | apply bD | apply bA); refine blk_put (cs := #[.int .i64 0, .int .i64 0]) ?_ 0 _ rfl; (with_reducible repeat first | apply bN | apply bD | apply bA); refine blk_far ?_ NB145_146.out _; (with_reducible repeat first | apply bN | apply bD | apply bA); refine blk_far ?_ NB145_146.out _; (with_reducible repeat first | apply bN | apply bD | apply bA); exact BK145.out) Try.underlying76 rfl (by kernel_rfl)) rfl ?_
 exact ⟨lE, lB⟩

/-! ### laws_toXCellS: function 14 -/
def laws_toXCellS.l0 : Nat → List (S78) → List (S76) → Int → Option ((List (S76)))
 | 0, _, _, _ => none
 | k + 1, x0, x3, x4 => if x4 < (x0.length : Int) then (if 0 ≤ x4 then ((laws_toXCell.f ((rd_T78 x0 x4).f0) ((rd_T78 x0 x4).f1)).bind fun bt151 => (if x4 < (x3.length : Int) then (laws_toXCellS.l0 k x0 (x3.set (x4 : Int).toNat (⟨bt151.1, bt151.2⟩ : S76)) (wrap64 (x4 + 1))) else (none))) else (none)) else (some x3)
def laws_toXCellS.f (k : Nat) (l0 : List (S78)) : Option ((List (S76))) := if 0 ≤ (l0.length : Int) then (if ((l0.length : Int) : Int).toNat ≤ 17592186044416 then (laws_toXCellS.l0 k l0 (List.replicate ((l0.length : Int) : Int).toNat z76) 0) else (none)) else (none)
theorem laws_toXCellS.mono_l : ∀ k, (∀ y0 y1 y2, LeO (laws_toXCellS.l0 k y0 y1 y2) (laws_toXCellS.l0 (k + 1) y0 y1 y2))
 | 0 => fun _ _ _ r h => by simp [laws_toXCellS.l0] at h
 | k + 1 => by
  have ih0 := laws_toXCellS.mono_l k
  ·intro y0 y1 y2
   unfold laws_toXCellS.l0
   repeat' first
   | with_reducible apply ih0
   | (with_reducible exact LeO.refl _)
   | (with_reducible exact LeO.none _)
   | (with_reducible refine LeO.ite ?_ ?_)
   | (with_reducible refine LeO.bind ?_ (fun _ => ?_))
   | apply ih0
   | exact LeO.none _
   | refine LeO.ite ?_ ?_
   | refine LeO.bind ?_ (fun _ => ?_)
theorem laws_toXCellS.mono : ∀ a0 k, LeO (laws_toXCellS.f k a0) (laws_toXCellS.f (k + 1) a0) := by
 intro a0 k
 have ih0 := laws_toXCellS.mono_l k
 unfold laws_toXCellS.f
 repeat' first
   | with_reducible apply ih0
   | (with_reducible exact LeO.refl _)
   | (with_reducible exact LeO.none _)
   | (with_reducible refine LeO.ite ?_ ?_)
   | (with_reducible refine LeO.bind ?_ (fun _ => ?_))
   | apply ih0
   | exact LeO.none _
   | refine LeO.ite ?_ ?_
   | refine LeO.bind ?_ (fun _ => ?_)
set_option maxHeartbeats 8000000 in
set_option maxRecDepth 100000 in
theorem laws_toXCellS.calls (k : Nat) (A0 : Option Addr) (c0 : Nat) (l0 : List (S78)) (r : List (S76)) (w : World) (hr0 : Kd.C k78 w A0 l0.length l0) (hc0 : l0.length ≤ c0) (h : laws_toXCellS.f k l0 = some r) :
  Calls Try.prog 14 #[.slice A0 l0.length c0] w fun e w' => ∃ v0_ : Value, e = .returned (v0_) ∧ Kd.R k76 76 w' w.heap.size (fun _ => True) v0_ r ∧ Below w.heap.size w w' := by
 have hu78 := Try.underlying78
 have hu76 := Try.underlying76
 have HR0 := Aside0.mk hr0
 have HC0 := Aside0.mk hc0
 clear hr0 hc0
 have HB := Aside0.mk (Below.refl w.heap.size w)
 have H : (if 0 ≤ (l0.length : Int) then (if ((l0.length : Int) : Int).toNat ≤ 17592186044416 then (laws_toXCellS.l0 k l0 (List.replicate ((l0.length : Int) : Int).toNat z76) 0) else (none)) else (none)) = some r := h
 clear h
 by_cases c2 : 0 ≤ (l0.length : Int)
 ·rw [if_pos c2] at H
  have c2b0 := eq_true c2
  have c2b1 : decide (0 ≤ (l0.length : Int)) = true := decide_eq_true c2
  clear c2
  by_cases c3 : ((l0.length : Int) : Int).toNat ≤ 17592186044416
  ·rw [if_pos c3] at H
   have c3b0 := eq_true c3
   have c3b1 : decide (((l0.length : Int) : Int).toNat ≤ 17592186044416) = true := decide_eq_true c3
   clear c3
   obtain ⟨y147, hy147⟩ : ∃ y_ : List (S76), y_ = (List.replicate ((l0.length : Int) : Int).toNat z76) := ⟨_, rfl⟩
   replace H : (laws_toXCellS.l0 k l0 y147 0) = some r := by first | (rw [hy147]; with_reducible exact H) | (have H2_ := (Option.bind_some _ _).symm.trans H; rw [hy147]; with_reducible exact H2_) | (have H2_ := (Option.bind_some _ _).symm.trans H; with_reducible exact H2_) | with_reducible exact H | (rw [hy147]; exact H) | exact H
   have Ny147 := Aside0.mk hy147
   clear hy147
   have H' := Aside0.mk H
   clear H
   go_enter Try.func14, Try.ntmps14
   go_wp2_with (first | ((with_reducible refine gate_dst (N := 7) rfl ?_); refine Kd.R_make k76 _ 76 rfl (N := 7) rfl 25 _ _ rfl (l0.length : Int) rfl rfl Try.underlying25 (.agg #[(.int .i64 0), (.int .i64 0)]) 16 info76 rfl (by decide) (by omega) z76 (ok := fun _ => True) (okp := fun _ => True) (k76_mkM _ _ _ z76 ) (fun _ hk => hk) trivial (lD) (Nat.le_trans (Nat.mul_le_mul_right _ (lD : (l0.length : Int).toNat ≤ 17592186044416)) (by omega)) (Below.refl _ _) (Nat.le_refl _) ?_; intro v148 w4 ho5 hb hg_ hnew_; clear hg_ hnew_; (first | rw [← Ny147.out] at ho5 | (simp only [Int.reduceToNat] at ho5; rw [← Ny147.out] at ho5)); have n0_ := Aside0.mk (Kd.R_lower ho5 (below_size lB)); have n1_ := Aside0.mk (below_step lB hb); clear HB; have HO149 := n0_; have HB := n1_; clear n0_ n1_; clear hb ho5))
   go_loopg [4] k (fun kq v4 w' => ∃ (x3_1 : List (S76)) (x4_1 : Int), v4 = .int .i64 x4_1 ∧ Aside0 (laws_toXCellS.l0 kq l0 x3_1 x4_1 = some r) ∧ Aside0 (kq ≤ k) ∧ Aside0 (Kd.R k76 76 w' w.heap.size (fun _ => True) v148 x3_1) ∧ Aside0 (Below w.heap.size w w'))
   case atStart => exact ⟨(y147), (0), lF, H', ⟨Nat.le_refl _⟩, ⟨lR HO149.out⟩, ⟨lB⟩⟩
   case round =>
    clear H'
    try clear c1
    try clear c2
    try clear c2b0
    try clear c2b1
    try clear p2
    try clear c3
    try clear c3b0
    try clear c3b1
    obtain ⟨x3_1, x4_1, rfl, HA, HK1, HO_3, HB⟩ := hrel
    cases gk with
    | zero => exact absurd HA.out (by simp [laws_toXCellS.l0])
    | succ k1 =>
     have H := HA.out
     clear HA
     simp only [laws_toXCellS.l0] at H
     by_cases c6 : x4_1 < (l0.length : Int)
     ·rw [if_pos c6] at H
      have c6b0 : decide (x4_1 < (l0.length : Int)) = true := decide_eq_true c6
      clear c6
      by_cases c7 : 0 ≤ x4_1
      ·rw [if_pos c7] at H
       have c7b0 : decide (0 ≤ x4_1) = true := decide_eq_true c7
       clear c7
       replace H := Option.bind_eq_some_iff.mp H
       obtain ⟨⟨t151, t152⟩, A80, H⟩ := H
       replace H : (if x4_1 < (x3_1.length : Int) then (laws_toXCellS.l0 k1 l0 (x3_1.set (x4_1 : Int).toNat (⟨t151, t152⟩ : S76)) (wrap64 (x4_1 + 1))) else (none)) = some r := H
       have A8 := Aside0.mk A80
       clear A80
       by_cases c9 : x4_1 < (x3_1.length : Int)
       ·rw [if_pos c9] at H
        have c9b0 : decide (x4_1 < (x3_1.length : Int)) = true := decide_eq_true c9
        clear c9
        obtain ⟨y153, hy153⟩ : ∃ y_ : List (S76), y_ = (x3_1.set (x4_1 : Int).toNat (⟨t151, t152⟩ : S76)) := ⟨_, rfl⟩
        replace H : (laws_toXCellS.l0 k1 l0 y153 (wrap64 (x4_1 + 1))) = some r := by first | (rw [hy153]; with_reducible exact H) | (have H2_ := (Option.bind_some _ _).symm.trans H; rw [hy153]; with_reducible exact H2_) | (have H2_ := (Option.bind_some _ _).symm.trans H; with_reducible exact H2_) | with_reducible exact H | (rw [hy153]; exact H) | exact H
        have Ny153 := Aside0.mk hy153
        clear hy153
        have H' := Aside0.mk H
        clear H
        have p150 : 0 ≤ (x4_1 : Int) := lD
        have q150 : x4_1 < (l0.length : Int) := lD
        obtain ⟨ad150, e150, hx150_0, hx150_1⟩ := at_T78 HR0.out x4_1 p150 q150
        cases e150
        replace hx150_0 := pw_cell_below HB.out hx150_0
        replace hx150_1 := pw_cell_below HB.out hx150_1
        replace p150 := eq_true p150
        replace q150 := eq_true q150
        go_wp2_with (first | ((with_reducible refine gate_callee (f := 45) rfl ?_); refine gl_ (some 20) (Try.func45) #[.agg #[.int .i64 ((rd_T78 l0 x4_1).f0), .int .i64 ((rd_T78 l0 x4_1).f1)]] ?_; (with_reducible refine (laws_toXCell.calls ((rd_T78 l0 x4_1).f0) ((rd_T78 l0 x4_1).f1) t151 t152 _ A8.out).mono ?_); rintro e w11 ⟨rfl, hb⟩; refine ⟨_, rfl, ?_⟩; have n0_ := Aside0.mk (Kd.R_below (lR HO_3.out) hb); have n1_ := Aside0.mk (below_step lB hb); clear HO_3; clear HB; have HO_3 := n0_; have HB := n1_; clear n0_ n1_; (try clear hb); (try clear hb2); (try clear hk); (try clear hi); have p10 : 0 ≤ (x4_1 : Int) := lD; have q10 : (x4_1 : Int) < ((x3_1.length : Int) : Int) := lD; obtain ⟨go10, co10, eo10, gb10, gl10, cl10, HG10⟩ := Kd.R_form HO_3.out (by omega); (first | cases eo10 | (injection eo10 with ea_ en_ ec_; (first | subst ea_ | (injection ea_ with ea_; subst ea_)); subst ec_; clear en_)); have GB10 := Aside0.mk gb10; have GG10 := Aside0.mk HG10; clear gb10 gl10 HG10; obtain ⟨ce10, hcl10, hM10, hcc10, hfr10⟩ := Kd.R_elem HO_3.out z76 (x4_1 : Int) p10 q10; obtain rfl := k76_openM hM10; have hx10_0 : w11.cell? ⟨go10, (x4_1 : Int).toNat * 2, none⟩ = some (.int .i64 ((rd_T76 x3_1 x4_1).f0)) := hcc10 0 _ rfl; have hx10_1 : w11.cell? ⟨go10, (x4_1 : Int).toNat * 2 + 1, none⟩ = some (.int .i64 ((rd_T76 x3_1 x4_1).f1)) := hcc10 1 _ rfl; have hf10_0 : w11.frozen? ⟨go10, (x4_1 : Int).toNat * 2, none⟩ = false := hfr10 0; have hf10_1 : w11.frozen? ⟨go10, (x4_1 : Int).toNat * 2 + 1, none⟩ = false := hfr10 1; clear hcl10 hcc10 hfr10; (try clear hM10); replace p10 := eq_true p10; replace q10 := eq_true q10; have HX12 := Aside0.mk (show Kd.R k76 76 w11 w.heap.size (fun _ => True) (.slice (some ⟨go10, 0, none⟩) x3_1.length co10) x3_1 from (lR HO_3.out)); obtain ⟨ce12, hcl12, hM12, hcc12, hfr12⟩ := Kd.R_elem HX12.out z76 (x4_1 : Int) (lD) (by have h_ : (x4_1 : Int) < ((x3_1.length : Int) : Int) := lD; first | exact h_ | (have e_ := (Kd.R_reads' HO_3.out).1; omega) | simpa using h_); obtain rfl := k76_openM hM12; have HP12 := Kd.R_seg HX12.out (x4_1 : Int) (lD) (by have h_ : (x4_1 : Int) < ((x3_1.length : Int) : Int) := lD; first | exact h_ | (have e_ := (Kd.R_reads' HO_3.out).1; omega) | simpa using h_) (seg := [.int .i64 t151, .int .i64 t152]) (j := 0) hcl12 hcc12 (show 2 ≤ 2 from by decide) (x' := (⟨t151, t152⟩ : S76)) (k76_mkM _ _ _ (⟨t151, t152⟩ : S76) ) (fun _ hk => hk); have hx12_0 := hcc12 0 _ rfl; (try simp only [show (k76).sz = 2 from rfl, Nat.mul_one, Nat.add_zero] at hx12_0); have hf12_0 := hfr12 0; (try simp only [show (k76).sz = 2 from rfl, Nat.mul_one, Nat.add_zero] at hf12_0); have hx12_1 := hcc12 1 _ rfl; (try simp only [show (k76).sz = 2 from rfl, Nat.mul_one, Nat.add_zero] at hx12_1); have hf12_1 := hfr12 1; (try simp only [show (k76).sz = 2 from rfl, Nat.mul_one, Nat.add_zero] at hf12_1); clear hcl12 hcc12 hfr12; (try clear hM12)) | ((with_reducible refine gate_store (t := 76) (p := 21) rfl ?_); refine store_event (t := 76) (p := 21) (v := ?vo_w13) (w1 := ((w11.setCell ⟨go10, (x4_1 : Int).toNat * 2, none⟩ (.int .i64 t151)).setCell ⟨go10, (x4_1 : Int).toNat * 2 + 1, none⟩ (.int .i64 t152))) ?hg ?ho ?hn ?hr ?_; (case ho => rfl); (case hg => rfl); (case hn => rfl); (case hr => first | (go_simp; done) | (go_simp; rfl)); intro w13 hw; have hg : w11.grownBy w13 (some go10) := (by rw [hw]; exact HP12.2); have hp_ : Kd.R k76 76 w13 w.heap.size (fun _ => True) (.slice (some ⟨go10, 0, none⟩) x3_1.length co10) y153 := (by rw [hw, Ny153.out]; exact HP12.1); clear HP12; have n0_ := Aside0.mk (hp_); have n1_ := Aside0.mk ((by rw [hw]; exact below_set (below_set (HB.out) GB10.out) GB10.out : Below w.heap.size w w13)); clear HO_3; clear HB; have HO_3 := n0_; have HB := n1_; clear n0_ n1_; clear hg hw hp_))
        go_roundg k1
        case measure => have := HK1.out; omega
        case rel => exact ⟨(y153), (wrap64 (x4_1 + 1)), lF, H', ⟨by have := HK1.out; omega⟩, ⟨lR HO_3.out⟩, ⟨lB⟩⟩
       ·rw [if_neg c9] at H
        exact absurd H (by simp)
      ·rw [if_neg c7] at H
       exact absurd H (by simp)
     ·rw [if_neg c6] at H
      have c6b0 : decide (x4_1 < (l0.length : Int)) = false := decide_eq_false c6
      clear c6
      obtain rfl := Option.some.inj H
      first | (go_wp2; go_ret; exact ⟨_, lE, lR HO_3.out, lB⟩) | (exfalso; simp only [decide_eq_false_iff_not, decide_eq_true_eq] at *; omega)
  ·rw [if_neg c3] at H
   exact absurd H (by simp)
 ·rw [if_neg c2] at H
  exact absurd H (by simp)

/-! ### impl_in: function 58 -/
def impl_in.f (a0 : Int) (a1 : Int) (a2 : Int) : Option (Bool) := if a0 ≥ a1 then (some (decide (a0 ≤ a2))) else (some false)
set_option maxHeartbeats 8000000 in
set_option maxRecDepth 100000 in
theorem impl_in.calls (a0 : Int) (a1 : Int) (a2 : Int) (r : Bool) (w : World) (h : impl_in.f a0 a1 a2 = some r) :
  Calls Try.prog 58 #[.int .i64 a0, .int .i64 a1, .int .i64 a2] w fun e w' => e = .returned (.bool r) ∧ Drawn0 w w' := by
 have H : (if a0 ≥ a1 then (some (decide (a0 ≤ a2))) else (some false)) = some r := h
 clear h
 by_cases c4 : a0 ≥ a1
 ·rw [if_pos c4] at H
  have c4b0 : decide (a1 ≤ a0) = true := decide_eq_true c4
  clear c4
  obtain rfl := Option.some.inj H
  go_enter Try.func58, Try.ntmps58
  first | (go_wp2; go_ret; exact ⟨by first | rfl | (simp; done) | (simp [*]; done), by repeat (first | exact Drawn0.refl _ | apply Drawn0.step)⟩) | (exfalso; simp only [decide_eq_false_iff_not, decide_eq_true_eq] at *; omega)
 ·rw [if_neg c4] at H
  have c4b0 : decide (a1 ≤ a0) = false := decide_eq_false c4
  clear c4
  obtain rfl := Option.some.inj H
  go_enter Try.func58, Try.ntmps58
  first | (go_wp2; go_ret; exact ⟨by first | rfl | (simp; done) | (simp [*]; done), by repeat (first | exact Drawn0.refl _ | apply Drawn0.step)⟩) | (exfalso; simp only [decide_eq_false_iff_not, decide_eq_true_eq] at *; omega)

end Go.Proofs.Ytgjojppbichaiaa.Q
