-- Written by the program wip/tools/pr.py of this claim's session, over the kit's print.py.
import Derived.Test.YtgjojppbichaiaaQx0
import Derived.Test.YtgjojppbichaiaaQx2
namespace Go.Proofs.Ytgjojppbichaiaa.Q
open Go.RowKit Go.Proofs.YtgjojppbichaiaaW.PrintWords Go.Proofs.YtgjojppbichaiaaW.PrintLast Go.Proofs.YtgjojppbichaiaaW.PrintMore
attribute [local go_sem] max2_int min2_int max_two min_two max_three min_three max_four min_four   -- for this text's walks alone
set_option linter.unusedVariables false
set_option linter.unusedSimpArgs false

/-! ### spec_l16Loops: function 76 -/
mutual
def spec_l16Loops.l0 : Nat → Int → List (S72) → Int → Int → Int → Int → List (S72) → Option (Int)
 | 0, _, _, _, _, _, _, _ => none
 | k + 1, x3, x8, x9, x10, x146000, x146001, x146002 => if x10 < x9 then (if 0 ≤ x10 then (if x10 < (x8.length : Int) then ((spec_l16Loops.f k ((rd_T72 x8 x10).f0) ((rd_T72 x8 x10).f1) ((rd_T72 x8 x10).f2)).bind fun t148 => (if t148 > x3 then (spec_l16Loops.l0 k t148 x8 x9 (wrap64 (x10 + 1)) x146000 x146001 x146002) else (spec_l16Loops.l0 k x3 x8 x9 (wrap64 (x10 + 1)) x146000 x146001 x146002))) else (none)) else (none)) else (if x146000 = 6 then (some (wrap64 (x3 + 1))) else (some x3))
def spec_l16Loops.f : Nat → Int → Int → List (S72) → Option (Int)
 | 0, _, _, _ => none
 | k + 1, a0_0, a0_1, l0_2 => spec_l16Loops.l0 k 0 l0_2 (l0_2.length : Int) 0 a0_0 a0_1 l0_2
end
theorem spec_l16Loops.mono_l : ∀ k, (∀ y0 y1 y2, LeO (spec_l16Loops.f k y0 y1 y2) (spec_l16Loops.f (k + 1) y0 y1 y2)) ∧ (∀ y0 y1 y2 y3 y4 y5 y6, LeO (spec_l16Loops.l0 k y0 y1 y2 y3 y4 y5 y6) (spec_l16Loops.l0 (k + 1) y0 y1 y2 y3 y4 y5 y6))
 | 0 => ⟨fun _ _ _ r h => by simp [spec_l16Loops.f] at h, fun _ _ _ _ _ _ _ r h => by simp [spec_l16Loops.l0] at h⟩
 | k + 1 => by
  obtain ⟨ih0, ih1⟩ := spec_l16Loops.mono_l k
  refine ⟨?_, ?_⟩
  ·intro y0 y1 y2
   unfold spec_l16Loops.f
   repeat' first
   | with_reducible apply ih0
   | with_reducible apply ih1
   | (with_reducible exact LeO.refl _)
   | (with_reducible exact LeO.none _)
   | (with_reducible refine LeO.ite ?_ ?_)
   | (with_reducible refine LeO.bind ?_ (fun _ => ?_))
   | apply ih0
   | apply ih1
   | exact LeO.none _
   | refine LeO.ite ?_ ?_
   | refine LeO.bind ?_ (fun _ => ?_)
  ·intro y0 y1 y2 y3 y4 y5 y6
   unfold spec_l16Loops.l0
   repeat' first
   | with_reducible apply ih0
   | with_reducible apply ih1
   | (with_reducible exact LeO.refl _)
   | (with_reducible exact LeO.none _)
   | (with_reducible refine LeO.ite ?_ ?_)
   | (with_reducible refine LeO.bind ?_ (fun _ => ?_))
   | apply ih0
   | apply ih1
   | exact LeO.none _
   | refine LeO.ite ?_ ?_
   | refine LeO.bind ?_ (fun _ => ?_)
theorem spec_l16Loops.mono : ∀ a0 a1 a2 k, LeO (spec_l16Loops.f k a0 a1 a2) (spec_l16Loops.f (k + 1) a0 a1 a2) := by
 intro a0 a1 a2 k
 obtain ⟨ih0, ih1⟩ := spec_l16Loops.mono_l k
 exact ih0 a0 a1 a2
set_option maxHeartbeats 8000000 in
set_option maxRecDepth 100000 in
theorem spec_l16Loops.calls (k : Nat) : ∀ (a0_0 : Int) (a0_1 : Int) (A0_2 : Option Addr) (c0_2 : Nat) (l0_2 : List (S72)) (r : Int) (w : World) (hr0_2 : Kd.C k72 w A0_2 l0_2.length l0_2) (hc0_2 : l0_2.length ≤ c0_2) (h : spec_l16Loops.f k a0_0 a0_1 l0_2 = some r),
  Calls Try.prog 76 #[.agg #[.int .i64 a0_0, .int .i64 a0_1, .slice A0_2 l0_2.length c0_2]] w fun e w' => e = .returned (.int .i64 r) ∧ Below w.heap.size w w' := by
 induction k using Nat.strongRecOn with
 | _ k ih =>
 intro a0_0 a0_1 A0_2 c0_2 l0_2 r w hr0_2 hc0_2 h
 cases k with
 | zero => exact absurd h (by simp [spec_l16Loops.f])
 | succ k =>
 simp only [spec_l16Loops.f] at h
 have hu72 := Try.underlying72
 have HR0_2 := Aside0.mk hr0_2
 have HC0_2 := Aside0.mk hc0_2
 clear hr0_2 hc0_2
 have HB := Aside0.mk (Below.refl w.heap.size w)
 have H : (spec_l16Loops.l0 k 0 l0_2 (l0_2.length : Int) 0 a0_0 a0_1 l0_2) = some r := h
 clear h
 have H' := Aside0.mk H
 clear H
 go_enter Try.func76, Try.ntmps76
 go_wp2_with (first | ((with_reducible refine gate_dst (N := 1) rfl ?_); refine bxe 1 #[.int .i64 a0_0, .int .i64 a0_1, .slice A0_2 l0_2.length c0_2] 72 ?_; intro gb145 hg w2 hbox hb; have n0_ := Aside0.mk (below_step lB hb); have n1_ := Aside0.mk (hbox); have n2_ := lG w hg; have n3_ := lG w hg; clear HB; have HB := n0_; have BK145 := n1_; have GW145 := n2_; have GE145 := n3_; clear n0_ n1_ n2_ n3_; clear hb hbox hg; obtain ⟨hcz3_0, hfz3_0, hcz3_1, hfz3_1, hcz3_2, hfz3_2⟩ := bk3 BK145.out))
 go_loopg [3, 10] k (fun kq v3 v10 w' => ∃ (x3_1 : Int) (x10_1 : Int), v3 = .int .i64 x3_1 ∧ v10 = .int .i64 x10_1 ∧ Aside0 (spec_l16Loops.l0 kq x3_1 l0_2 (l0_2.length : Int) x10_1 a0_0 a0_1 l0_2 = some r) ∧ Aside0 (kq ≤ k) ∧ Aside0 (w'.heap[gb145]? = some (.cells #[.int .i64 a0_0, .int .i64 a0_1, (.slice A0_2 l0_2.length c0_2)] 72 (0, 0))) ∧ Aside0 (Below w.heap.size w w'))
 case atStart => exact ⟨(0), (0), lF, lF, H', ⟨Nat.le_refl _⟩, ⟨lK BK145.out⟩, ⟨lB⟩⟩
 case round =>
  clear H'
  try clear p2
  try clear hcz3_0 hcz3_1 hcz3_2 hfz3_0 hfz3_1 hfz3_2
  obtain ⟨x3_1, x10_1, rfl, rfl, HA, HK1, BK145, HB⟩ := hrel
  cases gk with
  | zero => exact absurd HA.out (by simp [spec_l16Loops.l0])
  | succ k1 =>
   have H := HA.out
   clear HA
   simp only [spec_l16Loops.l0] at H
   by_cases c4 : x10_1 < (l0_2.length : Int)
   ·rw [if_pos c4] at H
    have c4b0 : decide (x10_1 < (l0_2.length : Int)) = true := decide_eq_true c4
    clear c4
    by_cases c5 : 0 ≤ x10_1
    ·rw [if_pos c5] at H
     have c5b0 : decide (0 ≤ x10_1) = true := decide_eq_true c5
     clear c5
     by_cases c6 : x10_1 < (l0_2.length : Int)
     ·rw [if_pos c6] at H
      have c6b0 : decide (x10_1 < (l0_2.length : Int)) = true := decide_eq_true c6
      clear c6
      replace H := lO H
      obtain ⟨t148, A7, H⟩ := H
      by_cases c8 : t148 > x3_1
      ·rw [if_pos c8] at H
       have c8b0 : decide (x3_1 < t148) = true := decide_eq_true c8
       clear c8
       have H' := Aside0.mk H
       clear H
       have p146 : 0 ≤ (x10_1 : Int) := lD
       have q146 : x10_1 < (l0_2.length : Int) := lD
       obtain ⟨ad146, A146_2, c146_2, e146, hx146_0, hx146_1, hx146_2, hl146_2, hi146_2⟩ := at_T72 HR0_2.out x10_1 p146 q146
       cases e146
       replace hx146_0 := pw_cell_below HB.out hx146_0
       replace hx146_1 := pw_cell_below HB.out hx146_1
       replace hx146_2 := pw_cell_below HB.out hx146_2
       have HR146_2 := Aside0.mk hi146_2
       have HC146_2 := Aside0.mk hl146_2
       clear hi146_2 hl146_2
       replace p146 := eq_true p146
       replace q146 := eq_true q146
       go_wp2_with (first | ((with_reducible refine gate_dst (N := 5) rfl ?_); refine bxe 5 #[.int .i64 0, .int .i64 0, .slice none 0 0] 72 ?_; intro gb147 hg w9 hbox hb; have n0_ := Aside0.mk (blk_below (lK BK145.out) hb); have n1_ := Aside0.mk (below_step lB hb); have n2_ := Aside0.mk (hbox); have n3_ := lG w hg; have n4_ := lG w hg; have n5_ := Aside0.mk ((by rw [hg]; exact Nat.ne_of_lt (blk_lt (lK BK145.out)) : gb145 ≠ gb147)); have n6_ := Aside0.mk ((by rw [hg]; exact Nat.ne_of_gt (blk_lt (lK BK145.out)) : gb147 ≠ gb145)); clear BK145; clear HB; have BK145 := n0_; have HB := n1_; have BK147 := n2_; have GW147 := n3_; have GE147 := n4_; have NB145_147 := n5_; have NB147_145 := n6_; clear n0_ n1_ n2_ n3_ n4_ n5_ n6_; clear hb hbox hg; have hnb10 := NB147_145.out; have hnc10 := NB145_147.out; obtain ⟨hcz11_0, hfz11_0, hcz11_1, hfz11_1, hcz11_2, hfz11_2⟩ := bk3 BK147.out) | ((with_reducible refine gate_callee (f := 76) rfl ?_); refine gl_ (some 15) (Try.func76) #[.agg #[.int .i64 ((rd_T72 l0_2 x10_1).f0), .int .i64 ((rd_T72 l0_2 x10_1).f1), .slice A146_2 ((rd_T72 l0_2 x10_1).f2).length c146_2]] ?_; (with_reducible refine (ih k1 (by have := HK1.out; omega) ((rd_T72 l0_2 x10_1).f0) ((rd_T72 l0_2 x10_1).f1) _ _ ((rd_T72 l0_2 x10_1).f2) t148 _ ?side1 ?side2 A7.out).mono ?_); (case side1 => exact Kd.C_below HR146_2.out lB); (case side2 => exact HC146_2.out); rintro e w12 ⟨rfl, hb⟩; refine ⟨_, rfl, ?_⟩; have n0_ := Aside0.mk (blk_below (lJ BK145.out) hb); have n1_ := Aside0.mk (blk_below (g := gb147) (o := .cells #[.int .i64 ((rd_T72 l0_2 x10_1).f0), .int .i64 ((rd_T72 l0_2 x10_1).f1), .slice A146_2 ((rd_T72 l0_2 x10_1).f2).length c146_2] 72 (0, 0)) (by (with_reducible repeat first | apply bN | apply bD | apply bA); refine blk_put (cs := #[.int .i64 ((rd_T72 l0_2 x10_1).f0), .int .i64 ((rd_T72 l0_2 x10_1).f1), .slice none 0 0]) ?_ 2 _ rfl; (with_reducible repeat first | apply bN | apply bD | apply bA); refine blk_put (cs := #[.int .i64 ((rd_T72 l0_2 x10_1).f0), .int .i64 0, .slice none 0 0]) ?_ 1 _ rfl; (with_reducible repeat first | apply bN | apply bD | apply bA); refine blk_put (cs := #[.int .i64 0, .int .i64 0, .slice none 0 0]) ?_ 0 _ rfl; (with_reducible repeat first | apply bN | apply bD | apply bA); exact BK147.out) hb); have n2_ := Aside0.mk (below_step lB hb); clear BK145; clear BK147; clear HB; have BK145 := n0_; have BK147 := n1_; have HB := n2_; clear n0_ n1_ n2_; (try clear hb); (try clear hb2); (try clear hk); (try clear hi)))
       go_roundg k1
       case measure => have := HK1.out; omega
       case rel => exact ⟨(t148), (wrap64 (x10_1 + 1)), lF, lF, H', ⟨by have := HK1.out; omega⟩, ⟨lK BK145.out⟩, ⟨lB⟩⟩
      ·rw [if_neg c8] at H
       have c8b0 : decide (x3_1 < t148) = false := decide_eq_false c8
       clear c8
       have H' := Aside0.mk H
       clear H
       have p146 : 0 ≤ (x10_1 : Int) := lD
       have q146 : x10_1 < (l0_2.length : Int) := lD
       obtain ⟨ad146, A146_2, c146_2, e146, hx146_0, hx146_1, hx146_2, hl146_2, hi146_2⟩ := at_T72 HR0_2.out x10_1 p146 q146
       cases e146
       replace hx146_0 := pw_cell_below HB.out hx146_0
       replace hx146_1 := pw_cell_below HB.out hx146_1
       replace hx146_2 := pw_cell_below HB.out hx146_2
       have HR146_2 := Aside0.mk hi146_2
       have HC146_2 := Aside0.mk hl146_2
       clear hi146_2 hl146_2
       replace p146 := eq_true p146
       replace q146 := eq_true q146
       go_wp2_with (first | ((with_reducible refine gate_dst (N := 5) rfl ?_); refine bxe 5 #[.int .i64 0, .int .i64 0, .slice none 0 0] 72 ?_; intro gb147 hg w13 hbox hb; have n0_ := Aside0.mk (blk_below (lK BK145.out) hb); have n1_ := Aside0.mk (below_step lB hb); have n2_ := Aside0.mk (hbox); have n3_ := lG w hg; have n4_ := lG w hg; have n5_ := Aside0.mk ((by rw [hg]; exact Nat.ne_of_lt (blk_lt (lK BK145.out)) : gb145 ≠ gb147)); have n6_ := Aside0.mk ((by rw [hg]; exact Nat.ne_of_gt (blk_lt (lK BK145.out)) : gb147 ≠ gb145)); clear BK145; clear HB; have BK145 := n0_; have HB := n1_; have BK147 := n2_; have GW147 := n3_; have GE147 := n4_; have NB145_147 := n5_; have NB147_145 := n6_; clear n0_ n1_ n2_ n3_ n4_ n5_ n6_; clear hb hbox hg; have hnb14 := NB147_145.out; have hnc14 := NB145_147.out; obtain ⟨hcz15_0, hfz15_0, hcz15_1, hfz15_1, hcz15_2, hfz15_2⟩ := bk3 BK147.out) | ((with_reducible refine gate_callee (f := 76) rfl ?_); refine gl_ (some 15) (Try.func76) #[.agg #[.int .i64 ((rd_T72 l0_2 x10_1).f0), .int .i64 ((rd_T72 l0_2 x10_1).f1), .slice A146_2 ((rd_T72 l0_2 x10_1).f2).length c146_2]] ?_; (with_reducible refine (ih k1 (by have := HK1.out; omega) ((rd_T72 l0_2 x10_1).f0) ((rd_T72 l0_2 x10_1).f1) _ _ ((rd_T72 l0_2 x10_1).f2) t148 _ ?side1 ?side2 A7.out).mono ?_); (case side1 => exact Kd.C_below HR146_2.out lB); (case side2 => exact HC146_2.out); rintro e w16 ⟨rfl, hb⟩; refine ⟨_, rfl, ?_⟩; have n0_ := Aside0.mk (blk_below (lJ BK145.out) hb); have n1_ := Aside0.mk (blk_below (g := gb147) (o := .cells #[.int .i64 ((rd_T72 l0_2 x10_1).f0), .int .i64 ((rd_T72 l0_2 x10_1).f1), .slice A146_2 ((rd_T72 l0_2 x10_1).f2).length c146_2] 72 (0, 0)) (by (with_reducible repeat first | apply bN | apply bD | apply bA); refine blk_put (cs := #[.int .i64 ((rd_T72 l0_2 x10_1).f0), .int .i64 ((rd_T72 l0_2 x10_1).f1), .slice none 0 0]) ?_ 2 _ rfl; (with_reducible repeat first | apply bN | apply bD | apply bA); refine blk_put (cs := #[.int .i64 ((rd_T72 l0_2 x10_1).f0), .int .i64 0, .slice none 0 0]) ?_ 1 _ rfl; (with_reducible repeat first | apply bN | apply bD | apply bA); refine blk_put (cs := #[.int .i64 0, .int .i64 0, .slice none 0 0]) ?_ 0 _ rfl; (with_reducible repeat first | apply bN | apply bD | apply bA); exact BK147.out) hb); have n2_ := Aside0.mk (below_step lB hb); clear BK145; clear BK147; clear HB; have BK145 := n0_; have BK147 := n1_; have HB := n2_; clear n0_ n1_ n2_; (try clear hb); (try clear hb2); (try clear hk); (try clear hi)))
       go_roundg k1
       case measure => have := HK1.out; omega
       case rel => exact ⟨(x3_1), (wrap64 (x10_1 + 1)), lF, lF, H', ⟨by have := HK1.out; omega⟩, ⟨lK BK145.out⟩, ⟨lB⟩⟩
     ·rw [if_neg c6] at H
      exact absurd H (by simp)
    ·rw [if_neg c5] at H
     exact absurd H (by simp)
   ·rw [if_neg c4] at H
    have c4b0 : decide (x10_1 < (l0_2.length : Int)) = false := decide_eq_false c4
    clear c4
    by_cases c17 : a0_0 = 6
    ·rw [if_pos c17] at H
     have c17b0 : (a0_0 == 6) = true := beq_iff_eq.mpr c17
     have c17b1 : (a0_0 != 6) = false := bne_eq_false_iff_eq.mpr c17
     clear c17
     obtain rfl := Option.some.inj H
     obtain ⟨hcz18_0, hfz18_0, hcz18_1, hfz18_1, hcz18_2, hfz18_2⟩ := bk3 BK145.out
     first | (go_wp2; go_ret; exact ⟨lE, lB⟩) | (exfalso; simp only [decide_eq_false_iff_not, decide_eq_true_eq] at *; omega)
    ·rw [if_neg c17] at H
     have c17b0 : (a0_0 == 6) = false := beq_eq_false_iff_ne.mpr c17
     have c17b1 : (a0_0 != 6) = true := bne_iff_ne.mpr c17
     obtain rfl := Option.some.inj H
     obtain ⟨hcz19_0, hfz19_0, hcz19_1, hfz19_1, hcz19_2, hfz19_2⟩ := bk3 BK145.out
     first | (go_wp2; go_ret; exact ⟨lE, lB⟩) | (exfalso; simp only [decide_eq_false_iff_not, decide_eq_true_eq] at *; omega)

/-! ### spec_l16Tree: function 44 -/
def spec_l16Tree.f (k : Nat) (l0 : List (S76)) : Option (Int × Int × (List (S72)) × Bool) := if (l0.length : Int) > 30 then (some (0, 0, ([] : List (S72)), false)) else ((spec_l16Read.f k l0 0).bind fun bt150 => (if bt150.2.2.2 > 0 then (if bt150.2.2.2 = (l0.length : Int) then ((spec_l16Loops.f k bt150.1 bt150.2.1 bt150.2.2.1).bind fun t157 => (some (bt150.1, bt150.2.1, bt150.2.2.1, decide (t157 ≤ 3)))) else (some (bt150.1, bt150.2.1, bt150.2.2.1, false))) else (some (bt150.1, bt150.2.1, bt150.2.2.1, false))))
theorem spec_l16Tree.mono : ∀ a0 k, LeO (spec_l16Tree.f k a0) (spec_l16Tree.f (k + 1) a0) := by
 intro a0 k
 unfold spec_l16Tree.f
 repeat' first
   | with_reducible apply spec_l16Loops.mono
   | with_reducible apply spec_l16Read.mono
   | (with_reducible exact LeO.refl _)
   | (with_reducible exact LeO.none _)
   | (with_reducible refine LeO.ite ?_ ?_)
   | (with_reducible refine LeO.bind ?_ (fun _ => ?_))
   | apply spec_l16Loops.mono
   | apply spec_l16Read.mono
   | exact LeO.none _
   | refine LeO.ite ?_ ?_
   | refine LeO.bind ?_ (fun _ => ?_)
def spec_l16Tree.T4 : Bool × List (List Nat × List Nat) := (true, [([], []), ([], []), ([1], [1]), ([2], [2]), ([3], [3]), ([3], [3]), ([5, 3], [3, 5]), ([4, 6, 3], [3, 4, 6]), ([3, 7], [3, 7]), ([8, 3], [8]), ([9], [9]), ([10, 9, 9], [9, 10]), ([11, 9], [9, 11]), ([9, 12], [9, 12]), ([0, 11, 0], [0]), ([13, 14, 0, 1, 2, 3, 4, 5, 6, 7, 8, 9, 10, 11, 12, 13, 14], [13])])
def spec_l16Tree.B4 : List Nat := [0, 0, 2, 6, 14, 14, 46, 126, 254, 510, 1022, 2046, 4094, 8190, 4095, 32767]
theorem spec_l16Tree.tab4 : rtab .any (opsOf Try.f44 4) = spec_l16Tree.T4 := by kernel_rfl
theorem spec_l16Tree.bits4 : waitsOk spec_l16Tree.T4.2 spec_l16Tree.B4 = true := by kernel_rfl
set_option maxHeartbeats 8000000 in
set_option maxRecDepth 100000 in
theorem spec_l16Tree.calls (k : Nat) (A0 : Option Addr) (c0 : Nat) (l0 : List (S76)) (r1 : Int) (r2 : Int) (r3 : List (S72)) (r4 : Bool) (w : World) (hr0 : Kd.C k76 w A0 l0.length l0) (hc0 : l0.length ≤ c0) (h : spec_l16Tree.f k l0 = some (r1, r2, r3, r4)) :
  Calls Try.prog 44 #[.slice A0 l0.length c0] w fun e w' => ∃ v2_ : Value, e = .returned (.tuple #[.agg #[.int .i64 r1, .int .i64 r2, v2_], .bool r4]) ∧ Kd.R k72 72 w' w.heap.size (fun _ => True) v2_ r3 ∧ Below w.heap.size w w' := by
 have hu72 := Try.underlying72
 have HR0 := Aside0.mk hr0
 have HC0 := Aside0.mk hc0
 clear hr0 hc0
 have HB := Aside0.mk (Below.refl w.heap.size w)
 have H : (if (l0.length : Int) > 30 then (some (0, 0, ([] : List (S72)), false)) else ((spec_l16Read.f k l0 0).bind fun bt150 => (if bt150.2.2.2 > 0 then (if bt150.2.2.2 = (l0.length : Int) then ((spec_l16Loops.f k bt150.1 bt150.2.1 bt150.2.2.1).bind fun t157 => (some (bt150.1, bt150.2.1, bt150.2.2.1, decide (t157 ≤ 3)))) else (some (bt150.1, bt150.2.1, bt150.2.2.1, false))) else (some (bt150.1, bt150.2.1, bt150.2.2.1, false))))) = some (r1, r2, r3, r4) := h
 clear h
 by_cases c2 : (l0.length : Int) > 30
 ·rw [if_pos c2] at H
  have c2b0 : decide (30 < (l0.length : Int)) = true := decide_eq_true c2
  have c2b1 : decide (30 < l0.length) = true := decide_eq_true (by omega)
  clear c2
  simp only [Option.some.injEq, Prod.mk.injEq] at H
  obtain ⟨rfl, rfl, rfl, rfl⟩ := H
  go_enter Try.func44, Try.ntmps44
  go_wp2_with (first | ((with_reducible refine gate_dst (N := 2) rfl ?_); (try (refine gate_guard (by rfl) ?_; dsimp only)); refine bxe 2 #[.int .i64 0, .int .i64 0, .slice none 0 0] 72 ?_; intro gb149 hg w3 hbox hb; have n0_ := Aside0.mk (below_step lB hb); have n1_ := Aside0.mk (hbox); have n2_ := lG w hg; have n3_ := lG w hg; clear HB; have HB := n0_; have BK149 := n1_; have GW149 := n2_; have GE149 := n3_; clear n0_ n1_ n2_ n3_; clear hb hbox hg; obtain ⟨hcz4_0, hfz4_0, hcz4_1, hfz4_1, hcz4_2, hfz4_2⟩ := bk3 BK149.out))
  refine bodyPost_ret (results_ct rfl _ _ gb149 72 #[.int .i64 0, .int .i64 0, .slice none 0 0] (0, 0) _ rfl (by (with_reducible repeat first | apply bN | apply bD | apply bA); refine blk_put (cs := #[.int .i64 0, .int .i64 0, .slice none 0 0]) ?_ 2 _ rfl; (with_reducible repeat first | apply bN | apply bD | apply bA); refine blk_put (cs := #[.int .i64 0, .int .i64 0, .slice none 0 0]) ?_ 1 _ rfl; (with_reducible repeat first | apply bN | apply bD | apply bA); refine blk_put (cs := #[.int .i64 0, .int .i64 0, .slice none 0 0]) ?_ 0 _ rfl; (with_reducible repeat first | apply bN | apply bD | apply bA); exact BK149.out) Try.underlying72 rfl (by kernel_rfl)) rfl ?_
  exact ⟨_, lE, by first | exact Kd.R_nil _ _ _ _ _ | exact Kd.N_nil _ _ _ _ _ | exact Kd.V_nil _ _ _ _ _ | exact Kd.Q_nil _ _ _ _ _ | exact Kd.S_nil _ _ _ _ _, lB⟩
 ·rw [if_neg c2] at H
  have c2b0 : decide (30 < (l0.length : Int)) = false := decide_eq_false c2
  have c2b1 : decide (30 < l0.length) = false := decide_eq_false (by omega)
  clear c2
  replace H := Option.bind_eq_some_iff.mp H
  obtain ⟨⟨t150, t151, t152, t155⟩, A50, H⟩ := H
  replace H : (if t155 > 0 then (if t155 = (l0.length : Int) then ((spec_l16Loops.f k t150 t151 t152).bind fun t157 => (some (t150, t151, t152, decide (t157 ≤ 3)))) else (some (t150, t151, t152, false))) else (some (t150, t151, t152, false))) = some (r1, r2, r3, r4) := H
  have A5 := Aside0.mk A50
  clear A50
  by_cases c6 : t155 > 0
  ·rw [if_pos c6] at H
   have c6b0 : decide (0 < t155) = true := decide_eq_true c6
   clear c6
   by_cases c7 : t155 = (l0.length : Int)
   ·rw [if_pos c7] at H
    have c7b0 : (t155 == (l0.length : Int)) = true := beq_iff_eq.mpr c7
    have c7b1 : (t155 != (l0.length : Int)) = false := bne_eq_false_iff_eq.mpr c7
    clear c7
    replace H := lO H
    obtain ⟨t157, A8, H⟩ := H
    simp only [Option.some.injEq, Prod.mk.injEq] at H
    obtain ⟨rfl, rfl, rfl, rfl⟩ := H
    go_enter Try.func44, Try.ntmps44
    try go_wp2_with (first | ((with_reducible refine gate_dst (N := 2) rfl ?_); (try (refine gate_guard (by rfl) ?_; dsimp only)); refine bxe 2 #[.int .i64 0, .int .i64 0, .slice none 0 0] 72 ?_; intro gb149 hg w9 hbox hb; have n0_ := Aside0.mk (below_step lB hb); have n1_ := Aside0.mk (hbox); have n2_ := lG w hg; have n3_ := lG w hg; clear HB; have HB := n0_; have BK149 := n1_; have GW149 := n2_; have GE149 := n3_; clear n0_ n1_ n2_ n3_; clear hb hbox hg) | ((with_reducible refine gate_callee (f := 75) rfl ?_); refine gl_ (some 12) (Try.func75) #[.slice A0 l0.length c0, .int .i64 0] ?_; (with_reducible refine (spec_l16Read.calls k _ _ l0 0 t150 t151 t152 t155 _ ?side1 ?side2 A5.out).mono ?_); (case side1 => exact lC (Kd.C_below HR0.out HB.out)); (case side2 => exact HC0.out); rintro e w10 ⟨v153, rfl, ho0, hb⟩; refine ⟨_, rfl, ?_⟩; have n0_ := Aside0.mk (Kd.R_lower (Kd.R_newB ho0 (lK BK149.out)) (below_size lB)); have n1_ := Aside0.mk (blk_below (lK BK149.out) hb); have n2_ := Aside0.mk (below_step lB hb); clear BK149; clear HB; have HO154 := n0_; have BK149 := n1_; have HB := n2_; clear n0_ n1_ n2_; (try clear hb); (try clear hb2); (try clear hk); (try clear hi); (try clear ho0)) | ((with_reducible refine gate_dst (N := 4) rfl ?_); (try (refine gate_guard (by rfl) ?_; dsimp only)); refine bxe 4 #[.int .i64 0, .int .i64 0, .slice none 0 0] 72 ?_; intro gb156 hg w11 hbox hb; have n0_ := Aside0.mk (Kd.R_below (Kd.R_elderB (lR HO154.out) gb156 (Nat.le_of_eq hg.symm)) hb); have n1_ := Aside0.mk (blk_below (lK BK149.out) hb); have n2_ := Aside0.mk (below_step lB hb); have n3_ := Aside0.mk (hbox); have n4_ := lG w hg; have n5_ := lG w hg; have n6_ := Aside0.mk ((by rw [hg]; exact Nat.ne_of_lt (blk_lt (lK BK149.out)) : gb149 ≠ gb156)); have n7_ := Aside0.mk ((by rw [hg]; exact Nat.ne_of_gt (blk_lt (lK BK149.out)) : gb156 ≠ gb149)); clear HO154; clear BK149; clear HB; have HO154 := n0_; have BK149 := n1_; have HB := n2_; have BK156 := n3_; have GW156 := n4_; have GE156 := n5_; have NB149_156 := n6_; have NB156_149 := n7_; clear n0_ n1_ n2_ n3_ n4_ n5_ n6_ n7_; clear hb hbox hg; have hnb12 := NB156_149.out; have hnc12 := NB149_156.out; obtain ⟨hcz13_0, hfz13_0, hcz13_1, hfz13_1, hcz13_2, hfz13_2⟩ := bk3 BK156.out; obtain ⟨Ao14, co14, eo14⟩ := Kd.R_slice HO154.out; subst eo14))
    have n0_ : Aside0 (Kd.R k72 72 (((w11.setCell ⟨gb156, 0, none⟩ (.int .i64 t150)).setCell ⟨gb156, 1, none⟩ (.int .i64 t151)).setCell ⟨gb156, 2, none⟩ (.slice Ao14 t152.length co14)) w.heap.size (fun k_ => k_ ≠ gb149 ∧ k_ ≠ gb156) (.slice Ao14 t152.length co14) t152) := ⟨by (with_reducible repeat (first | apply Kd.R_alloc | apply Kd.R_drewN | apply Kd.R_drew)); exact Kd.R_mono (Kd.R_far (p := ⟨gb156, 2, none⟩) (Kd.R_far (p := ⟨gb156, 1, none⟩) (Kd.R_far (p := ⟨gb156, 0, none⟩) (Kd.R_mono HO154.out (fun k_ hk => (⟨hk, hk.2⟩ : _ ∧ k_ ≠ gb156))) (fun _ hk => hk.2) (.int .i64 t150)) (fun _ hk => hk.2) (.int .i64 t151)) (fun _ hk => hk.2) (.slice Ao14 t152.length co14)) (fun _ hk => ⟨hk.1.1.2, hk.1.2⟩)⟩
    have n1_ : Aside0 ((((w11.setCell ⟨gb156, 0, none⟩ (.int .i64 t150)).setCell ⟨gb156, 1, none⟩ (.int .i64 t151)).setCell ⟨gb156, 2, none⟩ (.slice Ao14 t152.length co14)).heap[gb149]? = some (.cells #[.int .i64 0, .int .i64 0, .slice none 0 0] 72 (0, 0))) := ⟨lJ BK149.out⟩
    have n2_ : Aside0 ((((w11.setCell ⟨gb156, 0, none⟩ (.int .i64 t150)).setCell ⟨gb156, 1, none⟩ (.int .i64 t151)).setCell ⟨gb156, 2, none⟩ (.slice Ao14 t152.length co14)).heap[gb156]? = some (.cells #[.int .i64 t150, .int .i64 t151, .slice Ao14 t152.length co14] 72 (0, 0))) := ⟨by (with_reducible repeat first | apply bN | apply bD | apply bA); refine blk_put (cs := #[.int .i64 t150, .int .i64 t151, .slice none 0 0]) ?_ 2 _ rfl; (with_reducible repeat first | apply bN | apply bD | apply bA); refine blk_put (cs := #[.int .i64 t150, .int .i64 0, .slice none 0 0]) ?_ 1 _ rfl; (with_reducible repeat first | apply bN | apply bD | apply bA); refine blk_put (cs := #[.int .i64 0, .int .i64 0, .slice none 0 0]) ?_ 0 _ rfl; (with_reducible repeat first | apply bN | apply bD | apply bA); exact BK156.out⟩
    have n3_ : Aside0 (Below w.heap.size w (((w11.setCell ⟨gb156, 0, none⟩ (.int .i64 t150)).setCell ⟨gb156, 1, none⟩ (.int .i64 t151)).setCell ⟨gb156, 2, none⟩ (.slice Ao14 t152.length co14))) := ⟨lB⟩
    (try clear HO154)
    (try clear BK149)
    (try clear BK156)
    (try clear HB)
    generalize (((w11.setCell ⟨gb156, 0, none⟩ (.int .i64 t150)).setCell ⟨gb156, 1, none⟩ (.int .i64 t151)).setCell ⟨gb156, 2, none⟩ (.slice Ao14 t152.length co14)) = w15 at n0_ n1_ n2_ n3_ ⊢
    have HO154 := n0_
    have BK149 := n1_
    have BK156 := n2_
    have HB := n3_
    clear n0_ n1_ n2_ n3_
    have n0_ := Aside0.mk (Kd.R_drew HO154.out)
    have n1_ := Aside0.mk (blk_drew BK149.out)
    have n2_ := Aside0.mk (blk_drew BK156.out)
    have n3_ := Aside0.mk (below_drew1 HB.out)
    clear HO154
    clear BK149
    clear BK156
    clear HB
    have HO154 := n0_
    have BK149 := n1_
    have BK156 := n2_
    have HB := n3_
    clear n0_ n1_ n2_ n3_
    refine start_ (n := 16) (S := fun w' => w'.cell? ⟨gb156, 0, none⟩ = some (.int .i64 t150) ∧ w'.cell? ⟨gb156, 1, none⟩ = some (.int .i64 t151) ∧ w'.cell? ⟨gb156, 2, none⟩ = some (.slice Ao14 t152.length co14)) (ds := []) (bs 16 0) kR rfl kR ⟨bZ BK156.out 0, bZ BK156.out 1, bZ BK156.out 2⟩ (fun hHeld => ?_); refine with_tabW spec_l16Tree.tab4 spec_l16Tree.bits4 (fun HT_ HW_ => ?_)
    generalize w15.drew = w16 at HO154 BK149 BK156 HB hHeld ⊢
    refine pur_ 1 16 (bs 16 2) (any_of HT_.out kR) ?_
    refine pur_ 2 17 (bs 16 6) (any_of HT_.out kR) ?_
    refine pur_ 3 18 (bs 16 14) (any_of HT_.out kR) ?_
    refine pur_ 4 19 (bs 16 30) (any_of HT_.out kR) ?_
    refine pur_ 5 20 (bs 16 62) (any_of HT_.out kR) ?_
    refine pur_ 6 21 (bs 16 126) (any_of HT_.out kR) ?_
    refine pur_ 7 22 (bs 16 254) (any_of HT_.out kR) ?_
    refine pur_ 8 23 (bs 16 510) (any_of HT_.out kR) ?_
    refine pur_ 9 24 (bs 16 1022) (any_of HT_.out kR) ?_
    refine tak_ 0 15 (bs 16 1023) (take_ofW HT_.out HW_.out kR) hHeld ?_
    refine tak_ 10 25 (bs 16 2047) (take_ofW HT_.out HW_.out kR) hHeld ?_
    refine one_ (i := 11) (N := some 26) (bs 16 4095) rfl rfl (one_of HT_.out (by kernel_rfl)) (by decide) (fun K hK => ?_)
    refine goes_ Try.func76 (by kernel_rfl) rfl #[.agg #[.int .i64 t150, .int .i64 t151, .slice Ao14 t152.length co14]] (by rfl) rfl rfl (by (try simp only [List.map_toArray, List.map_cons, List.map_nil]); first | done | rfl | (simp only [List.length_drop, List.length_take]; rfl)) ?_
    with_reducible refine (spec_l16Loops.calls k t150 t151 _ _ t152 t157 _ ?side1 ?side2 A8.out).mono ?_
    (case side1 => repeat (first | exact (Kd.R_reads' HO154.out).2.2 | (with_reducible refine Kd.C_alloc ?_ _) | (with_reducible refine Kd.C_drewN ?_ _) | (with_reducible refine Kd.C_drew ?_)))
    (case side2 => exact (Kd.R_reads' HO154.out).2.1)
    rintro e w17 ⟨rfl, hb⟩
    refine ⟨_, rfl, ?_⟩
    have n0_ := Aside0.mk (Kd.R_below (lR HO154.out) hb)
    have n1_ := Aside0.mk (blk_below (lK BK149.out) hb)
    have n2_ := Aside0.mk (blk_below (lK BK156.out) hb)
    have n3_ := Aside0.mk (below_step lB hb)
    clear HO154
    clear BK149
    clear BK156
    clear HB
    have HO154 := n0_
    have BK149 := n1_
    have BK156 := n2_
    have HB := n3_
    clear n0_ n1_ n2_ n3_
    (try clear hb)
    (try clear hb2)
    (try clear hk)
    (try clear hi)
    refine hK.out _ _ ⟨bZ BK156.out 0, bZ BK156.out 1, bZ BK156.out 2⟩ (fun hHeld => ?_)
    clear hK K
    refine norm_ (a' := ?_) ?_ ?_
    rotate_left
    ·show Act.put _ (some 26) _ = _
     simp only [Act.put, List.setIfInBounds_toArray, List.set_cons_zero, List.set_cons_succ, i64_w, i32_w]
     rfl
    refine pur_ 12 27 (bs 16 8191) (any_of HT_.out kR) ?_
    refine pur_ 13 28 (bs 16 16383) (any_of HT_.out kR) ?_
    refine one_ (i := 14) (N := none) (bs 16 32767) rfl rfl (one_of HT_.out (by kernel_rfl)) (by decide) (fun K hK => ?_)
    have hs18 : w17.cell? ⟨gb149, 0, none⟩ = some (.int .i64 0) := bZ BK149.out 0
    have hfs18 := blk_frozen BK149.out 0
    have hns18_1 := NB156_149.out
    have hms18_1 := NB149_156.out
    have hs19 : w17.cell? ⟨gb149, 1, none⟩ = some (.int .i64 0) := bZ BK149.out 1
    have hfs19 := blk_frozen BK149.out 1
    have hns19_1 := NB156_149.out
    have hms19_1 := NB149_156.out
    have hs20 : w17.cell? ⟨gb149, 2, none⟩ = some (.slice none 0 0) := bZ BK149.out 2
    have hfs20 := blk_frozen BK149.out 2
    have hns20_1 := NB156_149.out
    have hms20_1 := NB149_156.out
    refine skip_ (w1 := ?_) (by rfl) rfl ?_ ?_
    rotate_left
    ·go_simp
     rfl
    refine hK.out _ _ ⟨((cell_far (p := ⟨gb149, _, none⟩) NB156_149.out _).trans (((cell_far (p := ⟨gb149, _, none⟩) NB156_149.out _).trans (((cell_far (p := ⟨gb149, _, none⟩) NB156_149.out _).trans (hHeld.1)))))), ((cell_far (p := ⟨gb149, _, none⟩) NB156_149.out _).trans (((cell_far (p := ⟨gb149, _, none⟩) NB156_149.out _).trans (((cell_far (p := ⟨gb149, _, none⟩) NB156_149.out _).trans (hHeld.2.1)))))), ((cell_far (p := ⟨gb149, _, none⟩) NB156_149.out _).trans (((cell_far (p := ⟨gb149, _, none⟩) NB156_149.out _).trans (((cell_far (p := ⟨gb149, _, none⟩) NB156_149.out _).trans (hHeld.2.2))))))⟩ (fun hHeld => ?_)
    clear hK K
    refine pur_ 15 3 (bs 16 65535) (any_of HT_.out kR) ?_
    refine done_ (done_of HT_.out (by kernel_rfl)) ?_
    try go_wp2
    refine bodyPost_ret (results_ct rfl _ _ gb149 72 #[.int .i64 t150, .int .i64 t151, .slice Ao14 t152.length co14] (0, 0) _ rfl (by (with_reducible repeat first | apply bN | apply bD | apply bA); refine blk_put (cs := #[.int .i64 t150, .int .i64 t151, .slice none 0 0]) ?_ 2 _ rfl; (with_reducible repeat first | apply bN | apply bD | apply bA); refine blk_put (cs := #[.int .i64 t150, .int .i64 0, .slice none 0 0]) ?_ 1 _ rfl; (with_reducible repeat first | apply bN | apply bD | apply bA); refine blk_put (cs := #[.int .i64 0, .int .i64 0, .slice none 0 0]) ?_ 0 _ rfl; (with_reducible repeat first | apply bN | apply bD | apply bA); exact BK149.out) Try.underlying72 rfl (by kernel_rfl)) rfl ?_
    exact ⟨_, lE, by (with_reducible repeat (first | apply Kd.R_alloc | apply Kd.R_drewN | apply Kd.R_drew)); exact Kd.R_mono (Kd.R_far (p := ⟨gb149, 2, none⟩) (Kd.R_far (p := ⟨gb149, 1, none⟩) (Kd.R_far (p := ⟨gb149, 0, none⟩) (Kd.R_mono HO154.out (fun k_ hk => (⟨hk, hk.1⟩ : _ ∧ k_ ≠ gb149))) (fun _ hk => hk.2) (.int .i64 t150)) (fun _ hk => hk.2) (.int .i64 t151)) (fun _ hk => hk.2) (.slice Ao14 t152.length co14)) (fun _ hk => trivial), lB⟩
   ·rw [if_neg c7] at H
    have c7b0 : (t155 == (l0.length : Int)) = false := beq_eq_false_iff_ne.mpr c7
    have c7b1 : (t155 != (l0.length : Int)) = true := bne_iff_ne.mpr c7
    simp only [Option.some.injEq, Prod.mk.injEq] at H
    obtain ⟨rfl, rfl, rfl, rfl⟩ := H
    go_enter Try.func44, Try.ntmps44
    try go_wp2_with (first | ((with_reducible refine gate_dst (N := 2) rfl ?_); (try (refine gate_guard (by rfl) ?_; dsimp only)); refine bxe 2 #[.int .i64 0, .int .i64 0, .slice none 0 0] 72 ?_; intro gb149 hg w21 hbox hb; have n0_ := Aside0.mk (below_step lB hb); have n1_ := Aside0.mk (hbox); have n2_ := lG w hg; have n3_ := lG w hg; clear HB; have HB := n0_; have BK149 := n1_; have GW149 := n2_; have GE149 := n3_; clear n0_ n1_ n2_ n3_; clear hb hbox hg) | ((with_reducible refine gate_callee (f := 75) rfl ?_); refine gl_ (some 12) (Try.func75) #[.slice A0 l0.length c0, .int .i64 0] ?_; (with_reducible refine (spec_l16Read.calls k _ _ l0 0 t150 t151 t152 t155 _ ?side1 ?side2 A5.out).mono ?_); (case side1 => exact lC (Kd.C_below HR0.out HB.out)); (case side2 => exact HC0.out); rintro e w22 ⟨v153, rfl, ho0, hb⟩; refine ⟨_, rfl, ?_⟩; have n0_ := Aside0.mk (Kd.R_lower (Kd.R_newB ho0 (lK BK149.out)) (below_size lB)); have n1_ := Aside0.mk (blk_below (lK BK149.out) hb); have n2_ := Aside0.mk (below_step lB hb); clear BK149; clear HB; have HO154 := n0_; have BK149 := n1_; have HB := n2_; clear n0_ n1_ n2_; (try clear hb); (try clear hb2); (try clear hk); (try clear hi); (try clear ho0)) | ((with_reducible refine gate_dst (N := 4) rfl ?_); (try (refine gate_guard (by rfl) ?_; dsimp only)); refine bxe 4 #[.int .i64 0, .int .i64 0, .slice none 0 0] 72 ?_; intro gb156 hg w23 hbox hb; have n0_ := Aside0.mk (Kd.R_below (Kd.R_elderB (lR HO154.out) gb156 (Nat.le_of_eq hg.symm)) hb); have n1_ := Aside0.mk (blk_below (lK BK149.out) hb); have n2_ := Aside0.mk (below_step lB hb); have n3_ := Aside0.mk (hbox); have n4_ := lG w hg; have n5_ := lG w hg; have n6_ := Aside0.mk ((by rw [hg]; exact Nat.ne_of_lt (blk_lt (lK BK149.out)) : gb149 ≠ gb156)); have n7_ := Aside0.mk ((by rw [hg]; exact Nat.ne_of_gt (blk_lt (lK BK149.out)) : gb156 ≠ gb149)); clear HO154; clear BK149; clear HB; have HO154 := n0_; have BK149 := n1_; have HB := n2_; have BK156 := n3_; have GW156 := n4_; have GE156 := n5_; have NB149_156 := n6_; have NB156_149 := n7_; clear n0_ n1_ n2_ n3_ n4_ n5_ n6_ n7_; clear hb hbox hg; have hnb24 := NB156_149.out; have hnc24 := NB149_156.out; obtain ⟨hcz25_0, hfz25_0, hcz25_1, hfz25_1, hcz25_2, hfz25_2⟩ := bk3 BK156.out; obtain ⟨Ao26, co26, eo26⟩ := Kd.R_slice HO154.out; subst eo26))
    have n0_ : Aside0 (Kd.R k72 72 (((w23.setCell ⟨gb156, 0, none⟩ (.int .i64 t150)).setCell ⟨gb156, 1, none⟩ (.int .i64 t151)).setCell ⟨gb156, 2, none⟩ (.slice Ao26 t152.length co26)) w.heap.size (fun k_ => k_ ≠ gb149 ∧ k_ ≠ gb156) (.slice Ao26 t152.length co26) t152) := ⟨by (with_reducible repeat (first | apply Kd.R_alloc | apply Kd.R_drewN | apply Kd.R_drew)); exact Kd.R_mono (Kd.R_far (p := ⟨gb156, 2, none⟩) (Kd.R_far (p := ⟨gb156, 1, none⟩) (Kd.R_far (p := ⟨gb156, 0, none⟩) (Kd.R_mono HO154.out (fun k_ hk => (⟨hk, hk.2⟩ : _ ∧ k_ ≠ gb156))) (fun _ hk => hk.2) (.int .i64 t150)) (fun _ hk => hk.2) (.int .i64 t151)) (fun _ hk => hk.2) (.slice Ao26 t152.length co26)) (fun _ hk => ⟨hk.1.1.2, hk.1.2⟩)⟩
    have n1_ : Aside0 ((((w23.setCell ⟨gb156, 0, none⟩ (.int .i64 t150)).setCell ⟨gb156, 1, none⟩ (.int .i64 t151)).setCell ⟨gb156, 2, none⟩ (.slice Ao26 t152.length co26)).heap[gb149]? = some (.cells #[.int .i64 0, .int .i64 0, .slice none 0 0] 72 (0, 0))) := ⟨lJ BK149.out⟩
    have n2_ : Aside0 ((((w23.setCell ⟨gb156, 0, none⟩ (.int .i64 t150)).setCell ⟨gb156, 1, none⟩ (.int .i64 t151)).setCell ⟨gb156, 2, none⟩ (.slice Ao26 t152.length co26)).heap[gb156]? = some (.cells #[.int .i64 t150, .int .i64 t151, .slice Ao26 t152.length co26] 72 (0, 0))) := ⟨by (with_reducible repeat first | apply bN | apply bD | apply bA); refine blk_put (cs := #[.int .i64 t150, .int .i64 t151, .slice none 0 0]) ?_ 2 _ rfl; (with_reducible repeat first | apply bN | apply bD | apply bA); refine blk_put (cs := #[.int .i64 t150, .int .i64 0, .slice none 0 0]) ?_ 1 _ rfl; (with_reducible repeat first | apply bN | apply bD | apply bA); refine blk_put (cs := #[.int .i64 0, .int .i64 0, .slice none 0 0]) ?_ 0 _ rfl; (with_reducible repeat first | apply bN | apply bD | apply bA); exact BK156.out⟩
    have n3_ : Aside0 (Below w.heap.size w (((w23.setCell ⟨gb156, 0, none⟩ (.int .i64 t150)).setCell ⟨gb156, 1, none⟩ (.int .i64 t151)).setCell ⟨gb156, 2, none⟩ (.slice Ao26 t152.length co26))) := ⟨lB⟩
    (try clear HO154)
    (try clear BK149)
    (try clear BK156)
    (try clear HB)
    generalize (((w23.setCell ⟨gb156, 0, none⟩ (.int .i64 t150)).setCell ⟨gb156, 1, none⟩ (.int .i64 t151)).setCell ⟨gb156, 2, none⟩ (.slice Ao26 t152.length co26)) = w27 at n0_ n1_ n2_ n3_ ⊢
    have HO154 := n0_
    have BK149 := n1_
    have BK156 := n2_
    have HB := n3_
    clear n0_ n1_ n2_ n3_
    have n0_ := Aside0.mk (Kd.R_drew HO154.out)
    have n1_ := Aside0.mk (blk_drew BK149.out)
    have n2_ := Aside0.mk (blk_drew BK156.out)
    have n3_ := Aside0.mk (below_drew1 HB.out)
    clear HO154
    clear BK149
    clear BK156
    clear HB
    have HO154 := n0_
    have BK149 := n1_
    have BK156 := n2_
    have HB := n3_
    clear n0_ n1_ n2_ n3_
    refine start_ (n := 16) (S := fun w' => w'.cell? ⟨gb156, 0, none⟩ = some (.int .i64 t150) ∧ w'.cell? ⟨gb156, 1, none⟩ = some (.int .i64 t151) ∧ w'.cell? ⟨gb156, 2, none⟩ = some (.slice Ao26 t152.length co26)) (ds := []) (bs 16 0) kR rfl kR ⟨bZ BK156.out 0, bZ BK156.out 1, bZ BK156.out 2⟩ (fun hHeld => ?_); refine with_tabW spec_l16Tree.tab4 spec_l16Tree.bits4 (fun HT_ HW_ => ?_)
    generalize w27.drew = w28 at HO154 BK149 BK156 HB hHeld ⊢
    refine pur_ 1 16 (bs 16 2) (any_of HT_.out kR) ?_
    refine pur_ 2 17 (bs 16 6) (any_of HT_.out kR) ?_
    refine pur_ 3 18 (bs 16 14) (any_of HT_.out kR) ?_
    refine pur_ 4 19 (bs 16 30) (any_of HT_.out kR) ?_
    refine pur_ 5 20 (bs 16 62) (any_of HT_.out kR) ?_
    refine pur_ 6 21 (bs 16 126) (any_of HT_.out kR) ?_
    refine pur_ 7 22 (bs 16 254) (any_of HT_.out kR) ?_
    refine pur_ 8 23 (bs 16 510) (any_of HT_.out kR) ?_
    refine pur_ 9 24 (bs 16 1022) (any_of HT_.out kR) ?_
    refine puu_ 10 25 (bs 16 2046) (any_of HT_.out kR) ?_
    refine puu_ 11 26 (bs 16 4094) (any_of HT_.out kR) ?_
    refine puu_ 12 27 (bs 16 8190) (any_of HT_.out kR) ?_
    refine pur_ 13 28 (bs 16 16382) (any_of HT_.out kR) ?_
    refine tak_ 0 15 (bs 16 16383) (take_ofW HT_.out HW_.out kR) hHeld ?_
    refine one_ (i := 14) (N := none) (bs 16 32767) rfl rfl (one_of HT_.out (by kernel_rfl)) (by decide) (fun K hK => ?_)
    have hs29 : w28.cell? ⟨gb149, 0, none⟩ = some (.int .i64 0) := bZ BK149.out 0
    have hfs29 := blk_frozen BK149.out 0
    have hns29_1 := NB156_149.out
    have hms29_1 := NB149_156.out
    have hs30 : w28.cell? ⟨gb149, 1, none⟩ = some (.int .i64 0) := bZ BK149.out 1
    have hfs30 := blk_frozen BK149.out 1
    have hns30_1 := NB156_149.out
    have hms30_1 := NB149_156.out
    have hs31 : w28.cell? ⟨gb149, 2, none⟩ = some (.slice none 0 0) := bZ BK149.out 2
    have hfs31 := blk_frozen BK149.out 2
    have hns31_1 := NB156_149.out
    have hms31_1 := NB149_156.out
    refine skip_ (w1 := ?_) (by rfl) rfl ?_ ?_
    rotate_left
    ·go_simp
     rfl
    refine hK.out _ _ ⟨((cell_far (p := ⟨gb149, _, none⟩) NB156_149.out _).trans (((cell_far (p := ⟨gb149, _, none⟩) NB156_149.out _).trans (((cell_far (p := ⟨gb149, _, none⟩) NB156_149.out _).trans (hHeld.1)))))), ((cell_far (p := ⟨gb149, _, none⟩) NB156_149.out _).trans (((cell_far (p := ⟨gb149, _, none⟩) NB156_149.out _).trans (((cell_far (p := ⟨gb149, _, none⟩) NB156_149.out _).trans (hHeld.2.1)))))), ((cell_far (p := ⟨gb149, _, none⟩) NB156_149.out _).trans (((cell_far (p := ⟨gb149, _, none⟩) NB156_149.out _).trans (((cell_far (p := ⟨gb149, _, none⟩) NB156_149.out _).trans (hHeld.2.2))))))⟩ (fun hHeld => ?_)
    clear hK K
    refine pur_ 15 3 (bs 16 65535) (any_of HT_.out kR) ?_
    refine done_ (done_of HT_.out (by kernel_rfl)) ?_
    try go_wp2
    refine bodyPost_ret (results_ct rfl _ _ gb149 72 #[.int .i64 t150, .int .i64 t151, .slice Ao26 t152.length co26] (0, 0) _ rfl (by (with_reducible repeat first | apply bN | apply bD | apply bA); refine blk_put (cs := #[.int .i64 t150, .int .i64 t151, .slice none 0 0]) ?_ 2 _ rfl; (with_reducible repeat first | apply bN | apply bD | apply bA); refine blk_put (cs := #[.int .i64 t150, .int .i64 0, .slice none 0 0]) ?_ 1 _ rfl; (with_reducible repeat first | apply bN | apply bD | apply bA); refine blk_put (cs := #[.int .i64 0, .int .i64 0, .slice none 0 0]) ?_ 0 _ rfl; (with_reducible repeat first | apply bN | apply bD | apply bA); exact BK149.out) Try.underlying72 rfl (by kernel_rfl)) rfl ?_
    exact ⟨_, lE, by (with_reducible repeat (first | apply Kd.R_alloc | apply Kd.R_drewN | apply Kd.R_drew)); exact Kd.R_mono (Kd.R_far (p := ⟨gb149, 2, none⟩) (Kd.R_far (p := ⟨gb149, 1, none⟩) (Kd.R_far (p := ⟨gb149, 0, none⟩) (Kd.R_mono HO154.out (fun k_ hk => (⟨hk, hk.1⟩ : _ ∧ k_ ≠ gb149))) (fun _ hk => hk.2) (.int .i64 t150)) (fun _ hk => hk.2) (.int .i64 t151)) (fun _ hk => hk.2) (.slice Ao26 t152.length co26)) (fun _ hk => trivial), lB⟩
  ·rw [if_neg c6] at H
   have c6b0 : decide (0 < t155) = false := decide_eq_false c6
   clear c6
   simp only [Option.some.injEq, Prod.mk.injEq] at H
   obtain ⟨rfl, rfl, rfl, rfl⟩ := H
   go_enter Try.func44, Try.ntmps44
   try go_wp2_with (first | ((with_reducible refine gate_dst (N := 2) rfl ?_); (try (refine gate_guard (by rfl) ?_; dsimp only)); refine bxe 2 #[.int .i64 0, .int .i64 0, .slice none 0 0] 72 ?_; intro gb149 hg w32 hbox hb; have n0_ := Aside0.mk (below_step lB hb); have n1_ := Aside0.mk (hbox); have n2_ := lG w hg; have n3_ := lG w hg; clear HB; have HB := n0_; have BK149 := n1_; have GW149 := n2_; have GE149 := n3_; clear n0_ n1_ n2_ n3_; clear hb hbox hg) | ((with_reducible refine gate_callee (f := 75) rfl ?_); refine gl_ (some 12) (Try.func75) #[.slice A0 l0.length c0, .int .i64 0] ?_; (with_reducible refine (spec_l16Read.calls k _ _ l0 0 t150 t151 t152 t155 _ ?side1 ?side2 A5.out).mono ?_); (case side1 => exact lC (Kd.C_below HR0.out HB.out)); (case side2 => exact HC0.out); rintro e w33 ⟨v153, rfl, ho0, hb⟩; refine ⟨_, rfl, ?_⟩; have n0_ := Aside0.mk (Kd.R_lower (Kd.R_newB ho0 (lK BK149.out)) (below_size lB)); have n1_ := Aside0.mk (blk_below (lK BK149.out) hb); have n2_ := Aside0.mk (below_step lB hb); clear BK149; clear HB; have HO154 := n0_; have BK149 := n1_; have HB := n2_; clear n0_ n1_ n2_; (try clear hb); (try clear hb2); (try clear hk); (try clear hi); (try clear ho0)) | ((with_reducible refine gate_dst (N := 4) rfl ?_); (try (refine gate_guard (by rfl) ?_; dsimp only)); refine bxe 4 #[.int .i64 0, .int .i64 0, .slice none 0 0] 72 ?_; intro gb156 hg w34 hbox hb; have n0_ := Aside0.mk (Kd.R_below (Kd.R_elderB (lR HO154.out) gb156 (Nat.le_of_eq hg.symm)) hb); have n1_ := Aside0.mk (blk_below (lK BK149.out) hb); have n2_ := Aside0.mk (below_step lB hb); have n3_ := Aside0.mk (hbox); have n4_ := lG w hg; have n5_ := lG w hg; have n6_ := Aside0.mk ((by rw [hg]; exact Nat.ne_of_lt (blk_lt (lK BK149.out)) : gb149 ≠ gb156)); have n7_ := Aside0.mk ((by rw [hg]; exact Nat.ne_of_gt (blk_lt (lK BK149.out)) : gb156 ≠ gb149)); clear HO154; clear BK149; clear HB; have HO154 := n0_; have BK149 := n1_; have HB := n2_; have BK156 := n3_; have GW156 := n4_; have GE156 := n5_; have NB149_156 := n6_; have NB156_149 := n7_; clear n0_ n1_ n2_ n3_ n4_ n5_ n6_ n7_; clear hb hbox hg; have hnb35 := NB156_149.out; have hnc35 := NB149_156.out; obtain ⟨hcz36_0, hfz36_0, hcz36_1, hfz36_1, hcz36_2, hfz36_2⟩ := bk3 BK156.out; obtain ⟨Ao37, co37, eo37⟩ := Kd.R_slice HO154.out; subst eo37))
   have n0_ : Aside0 (Kd.R k72 72 (((w34.setCell ⟨gb156, 0, none⟩ (.int .i64 t150)).setCell ⟨gb156, 1, none⟩ (.int .i64 t151)).setCell ⟨gb156, 2, none⟩ (.slice Ao37 t152.length co37)) w.heap.size (fun k_ => k_ ≠ gb149 ∧ k_ ≠ gb156) (.slice Ao37 t152.length co37) t152) := ⟨by (with_reducible repeat (first | apply Kd.R_alloc | apply Kd.R_drewN | apply Kd.R_drew)); exact Kd.R_mono (Kd.R_far (p := ⟨gb156, 2, none⟩) (Kd.R_far (p := ⟨gb156, 1, none⟩) (Kd.R_far (p := ⟨gb156, 0, none⟩) (Kd.R_mono HO154.out (fun k_ hk => (⟨hk, hk.2⟩ : _ ∧ k_ ≠ gb156))) (fun _ hk => hk.2) (.int .i64 t150)) (fun _ hk => hk.2) (.int .i64 t151)) (fun _ hk => hk.2) (.slice Ao37 t152.length co37)) (fun _ hk => ⟨hk.1.1.2, hk.1.2⟩)⟩
   have n1_ : Aside0 ((((w34.setCell ⟨gb156, 0, none⟩ (.int .i64 t150)).setCell ⟨gb156, 1, none⟩ (.int .i64 t151)).setCell ⟨gb156, 2, none⟩ (.slice Ao37 t152.length co37)).heap[gb149]? = some (.cells #[.int .i64 0, .int .i64 0, .slice none 0 0] 72 (0, 0))) := ⟨lJ BK149.out⟩
   have n2_ : Aside0 ((((w34.setCell ⟨gb156, 0, none⟩ (.int .i64 t150)).setCell ⟨gb156, 1, none⟩ (.int .i64 t151)).setCell ⟨gb156, 2, none⟩ (.slice Ao37 t152.length co37)).heap[gb156]? = some (.cells #[.int .i64 t150, .int .i64 t151, .slice Ao37 t152.length co37] 72 (0, 0))) := ⟨by (with_reducible repeat first | apply bN | apply bD | apply bA); refine blk_put (cs := #[.int .i64 t150, .int .i64 t151, .slice none 0 0]) ?_ 2 _ rfl; (with_reducible repeat first | apply bN | apply bD | apply bA); refine blk_put (cs := #[.int .i64 t150, .int .i64 0, .slice none 0 0]) ?_ 1 _ rfl; (with_reducible repeat first | apply bN | apply bD | apply bA); refine blk_put (cs := #[.int .i64 0, .int .i64 0, .slice none 0 0]) ?_ 0 _ rfl; (with_reducible repeat first | apply bN | apply bD | apply bA); exact BK156.out⟩
   have n3_ : Aside0 (Below w.heap.size w (((w34.setCell ⟨gb156, 0, none⟩ (.int .i64 t150)).setCell ⟨gb156, 1, none⟩ (.int .i64 t151)).setCell ⟨gb156, 2, none⟩ (.slice Ao37 t152.length co37))) := ⟨lB⟩
   (try clear HO154)
   (try clear BK149)
   (try clear BK156)
   (try clear HB)
   generalize (((w34.setCell ⟨gb156, 0, none⟩ (.int .i64 t150)).setCell ⟨gb156, 1, none⟩ (.int .i64 t151)).setCell ⟨gb156, 2, none⟩ (.slice Ao37 t152.length co37)) = w38 at n0_ n1_ n2_ n3_ ⊢
   have HO154 := n0_
   have BK149 := n1_
   have BK156 := n2_
   have HB := n3_
   clear n0_ n1_ n2_ n3_
   have n0_ := Aside0.mk (Kd.R_drew HO154.out)
   have n1_ := Aside0.mk (blk_drew BK149.out)
   have n2_ := Aside0.mk (blk_drew BK156.out)
   have n3_ := Aside0.mk (below_drew1 HB.out)
   clear HO154
   clear BK149
   clear BK156
   clear HB
   have HO154 := n0_
   have BK149 := n1_
   have BK156 := n2_
   have HB := n3_
   clear n0_ n1_ n2_ n3_
   refine start_ (n := 16) (S := fun w' => w'.cell? ⟨gb156, 0, none⟩ = some (.int .i64 t150) ∧ w'.cell? ⟨gb156, 1, none⟩ = some (.int .i64 t151) ∧ w'.cell? ⟨gb156, 2, none⟩ = some (.slice Ao37 t152.length co37)) (ds := []) (bs 16 0) kR rfl kR ⟨bZ BK156.out 0, bZ BK156.out 1, bZ BK156.out 2⟩ (fun hHeld => ?_); refine with_tabW spec_l16Tree.tab4 spec_l16Tree.bits4 (fun HT_ HW_ => ?_)
   generalize w38.drew = w39 at HO154 BK149 BK156 HB hHeld ⊢
   refine pur_ 1 16 (bs 16 2) (any_of HT_.out kR) ?_
   refine pur_ 2 17 (bs 16 6) (any_of HT_.out kR) ?_
   refine pur_ 3 18 (bs 16 14) (any_of HT_.out kR) ?_
   refine puu_ 4 19 (bs 16 30) (any_of HT_.out kR) ?_
   refine puu_ 5 20 (bs 16 62) (any_of HT_.out kR) ?_
   refine puu_ 6 21 (bs 16 126) (any_of HT_.out kR) ?_
   refine puu_ 7 22 (bs 16 254) (any_of HT_.out kR) ?_
   refine pur_ 8 23 (bs 16 510) (any_of HT_.out kR) ?_
   refine pur_ 9 24 (bs 16 1022) (any_of HT_.out kR) ?_
   refine puu_ 10 25 (bs 16 2046) (any_of HT_.out kR) ?_
   refine puu_ 11 26 (bs 16 4094) (any_of HT_.out kR) ?_
   refine puu_ 12 27 (bs 16 8190) (any_of HT_.out kR) ?_
   refine pur_ 13 28 (bs 16 16382) (any_of HT_.out kR) ?_
   refine tak_ 0 15 (bs 16 16383) (take_ofW HT_.out HW_.out kR) hHeld ?_
   refine one_ (i := 14) (N := none) (bs 16 32767) rfl rfl (one_of HT_.out (by kernel_rfl)) (by decide) (fun K hK => ?_)
   have hs40 : w39.cell? ⟨gb149, 0, none⟩ = some (.int .i64 0) := bZ BK149.out 0
   have hfs40 := blk_frozen BK149.out 0
   have hns40_1 := NB156_149.out
   have hms40_1 := NB149_156.out
   have hs41 : w39.cell? ⟨gb149, 1, none⟩ = some (.int .i64 0) := bZ BK149.out 1
   have hfs41 := blk_frozen BK149.out 1
   have hns41_1 := NB156_149.out
   have hms41_1 := NB149_156.out
   have hs42 : w39.cell? ⟨gb149, 2, none⟩ = some (.slice none 0 0) := bZ BK149.out 2
   have hfs42 := blk_frozen BK149.out 2
   have hns42_1 := NB156_149.out
   have hms42_1 := NB149_156.out
   refine skip_ (w1 := ?_) (by rfl) rfl ?_ ?_
   rotate_left
   ·go_simp
    rfl
   refine hK.out _ _ ⟨((cell_far (p := ⟨gb149, _, none⟩) NB156_149.out _).trans (((cell_far (p := ⟨gb149, _, none⟩) NB156_149.out _).trans (((cell_far (p := ⟨gb149, _, none⟩) NB156_149.out _).trans (hHeld.1)))))), ((cell_far (p := ⟨gb149, _, none⟩) NB156_149.out _).trans (((cell_far (p := ⟨gb149, _, none⟩) NB156_149.out _).trans (((cell_far (p := ⟨gb149, _, none⟩) NB156_149.out _).trans (hHeld.2.1)))))), ((cell_far (p := ⟨gb149, _, none⟩) NB156_149.out _).trans (((cell_far (p := ⟨gb149, _, none⟩) NB156_149.out _).trans (((cell_far (p := ⟨gb149, _, none⟩) NB156_149.out _).trans (hHeld.2.2))))))⟩ (fun hHeld => ?_)
   clear hK K
   refine pur_ 15 3 (bs 16 65535) (any_of HT_.out kR) ?_
   refine done_ (done_of HT_.out (by kernel_rfl)) ?_
   try go_wp2
   refine bodyPost_ret (results_ct rfl _ _ gb149 72 #[.int .i64 t150, .int .i64 t151, .slice Ao37 t152.length co37] (0, 0) _ rfl (by (with_reducible repeat first | apply bN | apply bD | apply bA); refine blk_put (cs := #[.int .i64 t150, .int .i64 t151, .slice none 0 0]) ?_ 2 _ rfl; (with_reducible repeat first | apply bN | apply bD | apply bA); refine blk_put (cs := #[.int .i64 t150, .int .i64 0, .slice none 0 0]) ?_ 1 _ rfl; (with_reducible repeat first | apply bN | apply bD | apply bA); refine blk_put (cs := #[.int .i64 0, .int .i64 0, .slice none 0 0]) ?_ 0 _ rfl; (with_reducible repeat first | apply bN | apply bD | apply bA); exact BK149.out) Try.underlying72 rfl (by kernel_rfl)) rfl ?_
   exact ⟨_, lE, by (with_reducible repeat (first | apply Kd.R_alloc | apply Kd.R_drewN | apply Kd.R_drew)); exact Kd.R_mono (Kd.R_far (p := ⟨gb149, 2, none⟩) (Kd.R_far (p := ⟨gb149, 1, none⟩) (Kd.R_far (p := ⟨gb149, 0, none⟩) (Kd.R_mono HO154.out (fun k_ hk => (⟨hk, hk.1⟩ : _ ∧ k_ ≠ gb149))) (fun _ hk => hk.2) (.int .i64 t150)) (fun _ hk => hk.2) (.int .i64 t151)) (fun _ hk => hk.2) (.slice Ao37 t152.length co37)) (fun _ hk => trivial), lB⟩

/-! ### spec_l16Eval: function 62 -/
theorem Se.info3 : (Try.prog.info? 3).map (fun i => (i.zero, i.size, i.bytes)) = some (some (.int .i64 0), 1, 8) := by kernel_rfl
abbrev Se.F := List Int → Option (List Int × Int)
def Se.rounds (f : Se.F) : Nat → Se.F
  | 0, told => some (told, 0)
  | m + 1, told => (f told).bind fun r => if r.2 = 0 then Se.rounds f m r.1 else some r
def Se.second (fs : List Se.F) (told : List Int) : Option (List Int × Int) := match fs[1]? with
  | none => none
  | some f => f told
def Se.node (k n : Int) (fs : List Se.F) (told : List Int) : Option (List Int × Int) :=
  if told.length > 200 then some (told, 0)
  else if k = 1 then some (told ++ [n], 0)
  else if k = 2 then some (told, n)
  else match fs[0]? with
    | none => none
    | some f => if k = 6 then (if n ≤ 1000 then Se.rounds f n.toNat told else none)
      else (f told).bind fun r =>
        if k = 3 then (if r.2 = 0 then Se.second fs r.1 else some r)
        else if k = 4 then (if r.2 = 0 ∨ n ≠ 0 ∧ n ≠ r.2 then some r else Se.second fs r.1)
        else (Se.second fs r.1).bind fun q => if q.2 = 0 then some (q.1, r.2) else some q
mutual
def Se.ev : S72 → Se.F
  | ⟨k, n, ts⟩, told => Se.node k n (Se.evs ts) told
def Se.evs : List S72 → List Se.F
  | [] => []
  | t :: ts => Se.ev t :: Se.evs ts
end
theorem Se.add0 (a : Addr) : a.add 0 = a := by unfold Addr.add; rw [if_pos rfl]
theorem Se.add3 (a : Addr) : a.add 3 = ⟨a.block, a.off + 3, none⟩ := by unfold Addr.add; rw [if_neg (by decide)]
theorem Se.evs_at : ∀ (ts : List S72) (i : Nat) (f : Se.F), (Se.evs ts)[i]? = some f → ∃ t, ts[i]? = some t ∧ f = Se.ev t
  | [], i, f, h => by simp [Se.evs] at h
  | t :: ts, 0, f, h => by
    simp only [Se.evs, List.getElem?_cons_zero, Option.some.injEq] at h
    exact ⟨t, rfl, h.symm⟩
  | t :: ts, i + 1, f, h => by
    simp only [Se.evs, List.getElem?_cons_succ] at h ⊢
    exact Se.evs_at ts i f h
/-- Of what was there no block but the row's own has turned, and the row lies where it lay, or in a new block. -/
structure Se.Gr (w : World) (v : Value) (w' : World) (v' : Value) : Prop where
  g : w.grownBy w' v.ownBlock
  at_ : v'.ownBlock = v.ownBlock ∨ ∃ b, v'.ownBlock = some b ∧ w.heap.size ≤ b
theorem Se.Gr.refl (w : World) (v : Value) : Se.Gr w v w v := ⟨World.grownBy.refl w _, .inl rfl⟩
theorem Se.Gr.trans {w w1 w2 : World} {v v1 v2 : Value} (h : Se.Gr w v w1 v1) (k : Se.Gr w1 v1 w2 v2) : Se.Gr w v w2 v2 := by
  have hne : ∀ i, i < w.heap.size → some i ≠ v.ownBlock → some i ≠ v1.ownBlock := by
    intro i hi hn
    rcases h.at_ with h1 | ⟨b, h1, h2⟩
    · rw [h1]; exact hn
    · rw [h1]; intro he; injection he with he; omega
  refine ⟨⟨k.g.os.trans h.g.os, k.g.tape.trans h.g.tape, k.g.output.trans h.g.output, Nat.le_trans h.g.size k.g.size, fun i hi hn => (k.g.block i (Nat.lt_of_lt_of_le hi h.g.size) (hne i hi hn)).trans (h.g.block i hi hn)⟩, ?_⟩
  rcases k.at_ with h1 | ⟨b, h1, h2⟩
  · rw [h1]; exact h.at_
  · exact .inr ⟨b, h1, Nat.le_trans h.g.size h2⟩
theorem Se.Gr.below {w w1 : World} (hb : Below w.heap.size w w1) (v : Value) : Se.Gr w v w1 v := ⟨⟨hb.os, hb.tape, hb.output, hb.size, fun i hi _ => hb.block i hi⟩, .inl rfl⟩
theorem Se.Gr.to {B : Nat} {w w1 : World} {v v1 : Value} (h : Se.Gr w v w1 v1) (hB : B ≤ w.heap.size) (hv : ∀ k, v.ownBlock = some k → B ≤ k) : Below B w w1 := (Below.refl B w).grown h.g hB hv
theorem Se.Gr.drewN {w w1 : World} {v v1 : Value} (h : Se.Gr w v w1 v1) (n : Nat) : Se.Gr w v (w1.drewN n) v1 := ⟨⟨h.g.os, h.g.tape, h.g.output, h.g.size, h.g.block⟩, h.at_⟩
def Se.Post (B : Nat) (w : World) (v : Value) (r : List Int × Int) (e : Ending) (w' : World) : Prop := ∃ v', e = .returned (.tuple #[v', .int .i64 r.2]) ∧ (Kd.int .i64).R 3 w' B (fun _ => True) v' r.1 ∧ Se.Gr w v w' v'
abbrev Se.Ok (w0 : World) (f : Se.F) (k n : Int) (A : Option Addr) (m c : Nat) : Prop :=
  ∀ (w : World) (v : Value) (told : List Int) (r : List Int × Int), Below w0.heap.size w0 w → (Kd.int .i64).R 3 w w0.heap.size (fun _ => True) v told → f told = some r →
    Calls Try.prog 62 #[.agg #[.int .i64 k, .int .i64 n, .slice A m c], v] w (Se.Post w0.heap.size w v r)
structure Se.Nd (w0 : World) (A : Option Addr) (m : Nat) (fs : List Se.F) : Prop where
  kid : ∀ i f, fs[i]? = some f → i < m ∧ ∃ ad k' n' A' m' c', A = some ad ∧ w0.cell? (ad.add (i * 3)) = some (.int .i64 k') ∧ w0.cell? ⟨(ad.add (i * 3)).block, (ad.add (i * 3)).off + 1, none⟩ = some (.int .i64 n') ∧ w0.cell? ⟨(ad.add (i * 3)).block, (ad.add (i * 3)).off + 2, none⟩ = some (.slice A' m' c') ∧ Se.Ok w0 f k' n' A' m' c'
theorem Se.kid {w0 : World} {A : Option Addr} {m : Nat} {fs : List Se.F} (hN : Se.Nd w0 A m fs) {i : Nat} {f : Se.F} (hf : fs[i]? = some f) : ∃ ad k' n' A' m' c', A = some ad ∧ i < m ∧ (∀ w, Below w0.heap.size w0 w → w.cell? (ad.add (i * 3)) = some (.int .i64 k') ∧ w.cell? ⟨(ad.add (i * 3)).block, (ad.add (i * 3)).off + 1, none⟩ = some (.int .i64 n') ∧ w.cell? ⟨(ad.add (i * 3)).block, (ad.add (i * 3)).off + 2, none⟩ = some (.slice A' m' c')) ∧ Se.Ok w0 f k' n' A' m' c' := by
  obtain ⟨h1, ad, k', n', A', m', c', h2, h3, h4, h5, h6⟩ := hN.kid i f hf
  exact ⟨ad, k', n', A', m', c', h2, h1, fun w hw => ⟨pw_cell_below hw h3, pw_cell_below hw h4, pw_cell_below hw h5⟩, h6⟩
set_option maxHeartbeats 8000000 in
set_option maxRecDepth 100000 in
theorem Se.node_ok {w0 : World} {k n : Int} {A : Option Addr} {m c : Nat} {fs : List Se.F} (hN : Se.Nd w0 A m fs) : Se.Ok w0 (Se.node k n fs) k n A m c := by
 intro w v told r hB0 hR h
 have hu45 := Try.underlying45
 have hu72 := Try.underlying72
 have HN := Aside0.mk hN
 have HO := Aside0.mk hR
 have HB := Aside0.mk (Below.refl w0.heap.size w)
 have HB0 := Aside0.mk hB0
 have HS := Aside0.mk hB0.size
 clear hR hB0 hN
 have HG := Aside0.mk (Se.Gr.refl w v)
 obtain ⟨Av, cv, ev⟩ := Kd.R_slice HO.out
 subst ev
 unfold Se.node at h
 by_cases kk : told.length > 200
 ·rw [if_pos kk] at h
  obtain rfl := Option.some.inj h
  clear h
  have kkb : decide ((200 : Int) < (told.length : Int)) = true := decide_eq_true (by omega)
  have kkc : decide (200 < told.length) = true := decide_eq_true kk
  go_enter Try.func62, Try.ntmps62
  go_wp2_with (first | ((with_reducible refine gate_dst (N := 2) rfl ?_); refine bxe 2 #[.int .i64 k, .int .i64 n, .slice A m c] 72 ?_; intro gb hgb_ w4 hbox hb_; have n0_ := Aside0.mk (HB.out.trans (hb_.mono HS.out)); have n1_ := Aside0.mk hbox; have n2_ := Aside0.mk (Kd.R_below HO.out hb_); have n3_ := Aside0.mk (HG.out.trans (Se.Gr.below hb_ _)); clear HB HO HG; have HB := n0_; have BK := n1_; have HO := n2_; have HG := n3_; clear n0_ n1_ n2_ n3_ hbox hb_ hgb_; obtain ⟨hcz0, hfz0, hcz1, hfz1, hcz2, hfz2⟩ := bk3 BK.out))
  refine bodyPost_ret (results_list (rs := [.tmp 4, .tmp 5]) rfl (by simp) (.tmp (.tmp .nil))) rfl ?_
  exact ⟨_, lE, HO.out, HG.out⟩
 ·rw [if_neg kk] at h
  have kkb : decide ((200 : Int) < (told.length : Int)) = false := decide_eq_false (by omega)
  have kkc : decide (200 < told.length) = false := decide_eq_false kk
  have HL := Aside0.mk kk
  by_cases k1 : k = 1
  ·rw [if_pos k1] at h
   subst k1
   obtain rfl := Option.some.inj h
   clear h
   go_enter Try.func62, Try.ntmps62
   go_wp2_with (first | ((with_reducible refine gate_dst (N := 2) rfl ?_); refine bxe 2 #[.int .i64 1, .int .i64 n, .slice A m c] 72 ?_; intro gb hgb_ w4 hbox hb_; have n0_ := Aside0.mk (HB.out.trans (hb_.mono HS.out)); have n1_ := Aside0.mk hbox; have n2_ := Aside0.mk (Kd.R_below HO.out hb_); have n3_ := Aside0.mk (HG.out.trans (Se.Gr.below hb_ _)); clear HB HO HG; have HB := n0_; have BK := n1_; have HO := n2_; have HG := n3_; clear n0_ n1_ n2_ n3_ hbox hb_ hgb_; obtain ⟨hcz0, hfz0, hcz1, hfz1, hcz2, hfz2⟩ := bk3 BK.out) | ((with_reducible refine gate_builtin (b := .append) (xs := #[.tmp 19, .tmp 22]) rfl ?_); at_builtin; refine Kd.R_append (Kd.int .i64) (w0 := w) w0.heap.size rfl (.tmp 19) (.tmp 22) 45 3 (.int .i64 0) 8 rfl Try.underlying45 Se.info3 rfl (by decide) (by omega) (.slice Av told.length cv) told n [.int .i64 n] (fun _ => True) (fun _ => False) rfl (by first | (go_simp; done) | (go_simp; rfl)) ?aP (fun _ hk => hk.elim) (fun _ _ => trivial) ?aO ?aB ?aS ?aL ?_; (case aP => exact rfl); (case aO => exact HO.out); (case aB => exact HB.out); (case aS => exact Nat.le_trans HS.out HB.out.size); (case aL => have := HL.out; omega); intro v6 w6 ho hb hg hat; have n0_ := Aside0.mk (HG.out.trans ⟨hg, hat⟩); clear HO HB HG; have HO := Aside0.mk ho; have HB := Aside0.mk hb; have HG := n0_; clear ho hb hg hat n0_; obtain ⟨Ap, cp, ep⟩ := Kd.R_slice HO.out; subst ep))
   refine bodyPost_ret (results_list (rs := [.tmp 4, .tmp 5]) rfl (by simp) (.tmp (.tmp .nil))) rfl ?_
   exact ⟨_, lE, HO.out, HG.out⟩
  ·rw [if_neg k1] at h
   have k1b : (k == 1) = false := beq_eq_false_iff_ne.mpr k1
   by_cases k2 : k = 2
   ·rw [if_pos k2] at h
    subst k2
    obtain rfl := Option.some.inj h
    clear h
    go_enter Try.func62, Try.ntmps62
    go_wp2_with (first | ((with_reducible refine gate_dst (N := 2) rfl ?_); refine bxe 2 #[.int .i64 2, .int .i64 n, .slice A m c] 72 ?_; intro gb hgb_ w4 hbox hb_; have n0_ := Aside0.mk (HB.out.trans (hb_.mono HS.out)); have n1_ := Aside0.mk hbox; have n2_ := Aside0.mk (Kd.R_below HO.out hb_); have n3_ := Aside0.mk (HG.out.trans (Se.Gr.below hb_ _)); clear HB HO HG; have HB := n0_; have BK := n1_; have HO := n2_; have HG := n3_; clear n0_ n1_ n2_ n3_ hbox hb_ hgb_; obtain ⟨hcz0, hfz0, hcz1, hfz1, hcz2, hfz2⟩ := bk3 BK.out))
    repeat (go_quiet (fail); try go_wp2)
    refine bodyPost_ret (results_list (rs := [.tmp 4, .tmp 5]) rfl (by simp) (.tmp (.tmp .nil))) rfl ?_
    exact ⟨_, lE, lR HO.out, HG.out.drewN _⟩
   ·rw [if_neg k2] at h
    have k2b : (k == 2) = false := beq_eq_false_iff_ne.mpr k2
    split at h
    ·cases h
    rename_i f0 hf0
    obtain ⟨ad0, k0_, n0_, A0, m0, c0, eA0, hm0, hc0, hok0⟩ := Se.kid HN.out hf0
    have HOK0 := Aside0.mk hok0
    have HC0 := Aside0.mk hc0
    clear hok0 hc0
    have hm0b : (0 < m) = True := eq_true hm0
    clear hm0
    subst eA0
    by_cases k6 : k = 6
    ·rw [if_pos k6] at h
     subst k6
     split at h
     case isFalse => cases h
     rename_i hn1000
     have H := Aside0.mk h
     clear h
     go_enter Try.func62, Try.ntmps62
     go_wp2_with (first | ((with_reducible refine gate_dst (N := 2) rfl ?_); refine bxe 2 #[.int .i64 6, .int .i64 n, .slice (some ad0) m c] 72 ?_; intro gb hgb_ w4 hbox hb_; have n0_ := Aside0.mk (HB.out.trans (hb_.mono HS.out)); have n1_ := Aside0.mk hbox; have n2_ := Aside0.mk (Kd.R_below HO.out hb_); have n3_ := Aside0.mk (HG.out.trans (Se.Gr.below hb_ _)); clear HB HO HG; have HB := n0_; have BK := n1_; have HO := n2_; have HG := n3_; clear n0_ n1_ n2_ n3_ hbox hb_ hgb_; obtain ⟨hcz0, hfz0, hcz1, hfz1, hcz2, hfz2⟩ := bk3 BK.out))
     go_loopg [1, 6] (n.toNat + 1) (fun j v1 v6 wr => ∃ (i q : Nat) (s1 : List Int), v6 = .int .i64 (i : Int) ∧ j = q + 1 ∧ i + q = n.toNat ∧ Aside0 (Se.rounds f0 q s1 = some r) ∧ Aside0 ((Kd.int .i64).R 3 wr w0.heap.size (fun _ => True) v1 s1) ∧ Aside0 (wr.heap[gb]? = some (.cells #[.int .i64 6, .int .i64 n, .slice (some ad0) m c] 72 (0, 0))) ∧ Aside0 (Below w0.heap.size w wr) ∧ Aside0 (Se.Gr w (.slice Av told.length cv) wr v1))
     case atStart => exact ⟨0, n.toNat, told, rfl, rfl, by omega, H, HO, BK, HB, HG⟩
     case round =>
      clear HO BK HB HG H hcz0 hfz0 hcz1 hfz1 hcz2 hfz2
      obtain ⟨i, q, s1, rfl, rfl, hiq, H, HO, BK, HB, HG⟩ := hrel
      obtain ⟨hcz0, hfz0, hcz1, hfz1, hcz2, hfz2⟩ := bk3 BK.out
      obtain ⟨Aw, cw, ew⟩ := Kd.R_slice HO.out
      subst ew
      have h := H.out
      clear H
      cases q with
      | zero =>
       have hd1 : decide ((i : Int) < n) = false := decide_eq_false (by omega)
       obtain rfl := Option.some.inj h
       clear h
       go_wp2
       refine bodyPost_ret (results_list (rs := [.tmp 4, .tmp 5]) rfl (by simp) (.tmp (.tmp .nil))) rfl ?_
       exact ⟨_, lE, HO.out, HG.out⟩
      | succ q =>
       have hd1 : decide ((i : Int) < n) = true := decide_eq_true (by omega)
       have hi1000 : (i : Int) ≤ 1000 := by omega
       simp only [Se.rounds] at h
       replace h := lO h; obtain ⟨rr, A2, h⟩ := h
       obtain ⟨rs, rc⟩ := rr
       obtain ⟨ha0, hb0, hd0⟩ := HC0.out _ (HB0.out.trans HB.out)
       simp only [Nat.zero_mul, Nat.one_mul, Se.add0, Se.add3] at ha0 hb0 hd0
       simp only at h
       by_cases hz : rc = 0
       ·subst hz
        rw [if_pos rfl] at h
        have H := Aside0.mk h
        clear h
        go_wp2_with (first | (go_at_call 62; (with_reducible refine (HOK0.out _ _ s1 (rs, _) (HB0.out.trans HB.out) HO.out A2.out).mono ?_); rintro e w5 ⟨v5, rfl, hro_, hb_⟩; have n0_ := Aside0.mk (HB.out.trans (hb_.to (Nat.le_trans HS.out HB.out.size) (Kd.R_base HO.out))); have n2_ := Aside0.mk hro_; have n3_ := Aside0.mk (blk_grown BK.out hb_.g (Kd.R_ne HO.out BK.out (by decide))); have n4_ := Aside0.mk (HG.out.trans hb_); clear HB HO BK HG hcz0 hfz0 hcz1 hfz1 hcz2 hfz2 hb_ hro_; have HB := n0_; have HO := n2_; have BK := n3_; have HG := n4_; clear n0_ n2_ n3_ n4_; obtain ⟨hcz0, hfz0, hcz1, hfz1, hcz2, hfz2⟩ := bk3 BK.out; obtain ⟨Av5, cv5, ev5⟩ := Kd.R_slice HO.out; subst ev5))
        go_roundg (q + 1)
        case measure => omega
        case rel => exact ⟨i + 1, q, rs, by go_num, rfl, by omega, H, HO, BK, HB, HG⟩
       ·rw [if_neg hz] at h
        obtain rfl := Option.some.inj h
        clear h
        have h0b : (rc != 0) = true := bne_iff_ne.mpr hz
        go_wp2_with (first | (go_at_call 62; (with_reducible refine (HOK0.out _ _ s1 (rs, _) (HB0.out.trans HB.out) HO.out A2.out).mono ?_); rintro e w5 ⟨v5, rfl, hro_, hb_⟩; have n0_ := Aside0.mk (HB.out.trans (hb_.to (Nat.le_trans HS.out HB.out.size) (Kd.R_base HO.out))); have n2_ := Aside0.mk hro_; have n3_ := Aside0.mk (blk_grown BK.out hb_.g (Kd.R_ne HO.out BK.out (by decide))); have n4_ := Aside0.mk (HG.out.trans hb_); clear HB HO BK HG hcz0 hfz0 hcz1 hfz1 hcz2 hfz2 hb_ hro_; have HB := n0_; have HO := n2_; have BK := n3_; have HG := n4_; clear n0_ n2_ n3_ n4_; obtain ⟨hcz0, hfz0, hcz1, hfz1, hcz2, hfz2⟩ := bk3 BK.out; obtain ⟨Av5, cv5, ev5⟩ := Kd.R_slice HO.out; subst ev5))
        refine bodyPost_ret (results_list (rs := [.tmp 4, .tmp 5]) rfl (by simp) (.tmp (.tmp .nil))) rfl ?_
        exact ⟨_, lE, HO.out, HG.out⟩
    ·rw [if_neg k6] at h
     have k6b : (k == 6) = false := beq_eq_false_iff_ne.mpr k6
     replace h := lO h; obtain ⟨rr, A2, h⟩ := h
     obtain ⟨rs, rc⟩ := rr
     simp only at h
     by_cases k3 : k = 3
     ·rw [if_pos k3] at h
      subst k3
      by_cases hz : rc = 0
      ·subst hz
       rw [if_pos rfl] at h
       go_enter Try.func62, Try.ntmps62
       go_upto_region 17 with (first | ((with_reducible refine gate_dst (N := 2) rfl ?_); refine bxe 2 #[.int .i64 3, .int .i64 n, .slice (some ad0) m c] 72 ?_; intro gb hgb_ w4 hbox hb_; have n0_ := Aside0.mk (HB.out.trans (hb_.mono HS.out)); have n1_ := Aside0.mk hbox; have n2_ := Aside0.mk (Kd.R_below HO.out hb_); have n3_ := Aside0.mk (HG.out.trans (Se.Gr.below hb_ _)); clear HB HO HG; have HB := n0_; have BK := n1_; have HO := n2_; have HG := n3_; clear n0_ n1_ n2_ n3_ hbox hb_ hgb_; obtain ⟨hcz0, hfz0, hcz1, hfz1, hcz2, hfz2⟩ := bk3 BK.out))
       obtain ⟨ha0, hb0, hd0⟩ := HC0.out _ (HB0.out.trans HB.out)
       simp only [Nat.zero_mul, Nat.one_mul, Se.add0, Se.add3] at ha0 hb0 hd0
       go_upto_region 22 with (first | (go_at_call 62; (with_reducible refine (HOK0.out _ _ told (rs, _) (HB0.out.trans HB.out) HO.out A2.out).mono ?_); rintro e w5 ⟨v5, rfl, hro_, hb_⟩; have n0_ := Aside0.mk (HB.out.trans (hb_.to (Nat.le_trans HS.out HB.out.size) (Kd.R_base HO.out))); have n2_ := Aside0.mk hro_; have n3_ := Aside0.mk (blk_grown BK.out hb_.g (Kd.R_ne HO.out BK.out (by decide))); have n4_ := Aside0.mk (HG.out.trans hb_); clear HB HO BK HG hcz0 hfz0 hcz1 hfz1 hcz2 hfz2 hb_ hro_; have HB := n0_; have HO := n2_; have BK := n3_; have HG := n4_; clear n0_ n2_ n3_ n4_; obtain ⟨hcz0, hfz0, hcz1, hfz1, hcz2, hfz2⟩ := bk3 BK.out; obtain ⟨Av5, cv5, ev5⟩ := Kd.R_slice HO.out; subst ev5))
       unfold Se.second at h
       split at h
       ·cases h
       rename_i f1 hf1
       obtain ⟨ad1, k1_, n1_, A1, m1, c1, eA1, hm1, hc1, hok1⟩ := Se.kid HN.out hf1
       have HOK1 := Aside0.mk hok1
       have HC1 := Aside0.mk hc1
       clear hok1 hc1
       obtain rfl : ad0 = ad1 := by injection eA1
       have hm1b : (1 < m) = True := eq_true hm1
       have hm1c : ((1 : Int) < (m : Int)) = True := eq_true (by omega)
       have A3 := Aside0.mk h
       clear h hm1 eA1
       obtain ⟨ha1, hb1, hd1⟩ := HC1.out _ (HB0.out.trans HB.out)
       simp only [Nat.zero_mul, Nat.one_mul, Se.add0, Se.add3] at ha1 hb1 hd1
       go_wp2_with (first | (go_at_call 62; (with_reducible refine (HOK1.out _ _ rs r (HB0.out.trans HB.out) HO.out A3.out).mono ?_); rintro e w5 ⟨v5, rfl, hro_, hb_⟩; have n0_ := Aside0.mk (HB.out.trans (hb_.to (Nat.le_trans HS.out HB.out.size) (Kd.R_base HO.out))); have n2_ := Aside0.mk hro_; have n3_ := Aside0.mk (blk_grown BK.out hb_.g (Kd.R_ne HO.out BK.out (by decide))); have n4_ := Aside0.mk (HG.out.trans hb_); clear HB HO BK HG hcz0 hfz0 hcz1 hfz1 hcz2 hfz2 hb_ hro_; have HB := n0_; have HO := n2_; have BK := n3_; have HG := n4_; clear n0_ n2_ n3_ n4_; obtain ⟨hcz0, hfz0, hcz1, hfz1, hcz2, hfz2⟩ := bk3 BK.out; obtain ⟨Av5, cv5, ev5⟩ := Kd.R_slice HO.out; subst ev5))
       refine bodyPost_ret (results_list (rs := [.tmp 4, .tmp 5]) rfl (by simp) (.tmp (.tmp .nil))) rfl ?_
       exact ⟨_, lE, HO.out, HG.out⟩
      ·rw [if_neg hz] at h
       have h0b : (rc != 0) = true := bne_iff_ne.mpr hz
       obtain rfl := Option.some.inj h
       clear h
       go_enter Try.func62, Try.ntmps62
       go_upto_region 17 with (first | ((with_reducible refine gate_dst (N := 2) rfl ?_); refine bxe 2 #[.int .i64 3, .int .i64 n, .slice (some ad0) m c] 72 ?_; intro gb hgb_ w4 hbox hb_; have n0_ := Aside0.mk (HB.out.trans (hb_.mono HS.out)); have n1_ := Aside0.mk hbox; have n2_ := Aside0.mk (Kd.R_below HO.out hb_); have n3_ := Aside0.mk (HG.out.trans (Se.Gr.below hb_ _)); clear HB HO HG; have HB := n0_; have BK := n1_; have HO := n2_; have HG := n3_; clear n0_ n1_ n2_ n3_ hbox hb_ hgb_; obtain ⟨hcz0, hfz0, hcz1, hfz1, hcz2, hfz2⟩ := bk3 BK.out))
       obtain ⟨ha0, hb0, hd0⟩ := HC0.out _ (HB0.out.trans HB.out)
       simp only [Nat.zero_mul, Nat.one_mul, Se.add0, Se.add3] at ha0 hb0 hd0
       go_wp2_with (first | (go_at_call 62; (with_reducible refine (HOK0.out _ _ told (rs, _) (HB0.out.trans HB.out) HO.out A2.out).mono ?_); rintro e w5 ⟨v5, rfl, hro_, hb_⟩; have n0_ := Aside0.mk (HB.out.trans (hb_.to (Nat.le_trans HS.out HB.out.size) (Kd.R_base HO.out))); have n2_ := Aside0.mk hro_; have n3_ := Aside0.mk (blk_grown BK.out hb_.g (Kd.R_ne HO.out BK.out (by decide))); have n4_ := Aside0.mk (HG.out.trans hb_); clear HB HO BK HG hcz0 hfz0 hcz1 hfz1 hcz2 hfz2 hb_ hro_; have HB := n0_; have HO := n2_; have BK := n3_; have HG := n4_; clear n0_ n2_ n3_ n4_; obtain ⟨hcz0, hfz0, hcz1, hfz1, hcz2, hfz2⟩ := bk3 BK.out; obtain ⟨Av5, cv5, ev5⟩ := Kd.R_slice HO.out; subst ev5))
       refine bodyPost_ret (results_list (rs := [.tmp 4, .tmp 5]) rfl (by simp) (.tmp (.tmp .nil))) rfl ?_
       exact ⟨_, lE, HO.out, HG.out⟩
     ·rw [if_neg k3] at h
      have k3b : (k == 3) = false := beq_eq_false_iff_ne.mpr k3
      by_cases k4 : k = 4
      ·rw [if_pos k4] at h
       subst k4
       by_cases hz : rc = 0
       ·subst hz
        rw [if_pos (.inl rfl)] at h
        obtain rfl := Option.some.inj h
        clear h
        go_enter Try.func62, Try.ntmps62
        go_upto_region 17 with (first | ((with_reducible refine gate_dst (N := 2) rfl ?_); refine bxe 2 #[.int .i64 4, .int .i64 n, .slice (some ad0) m c] 72 ?_; intro gb hgb_ w4 hbox hb_; have n0_ := Aside0.mk (HB.out.trans (hb_.mono HS.out)); have n1_ := Aside0.mk hbox; have n2_ := Aside0.mk (Kd.R_below HO.out hb_); have n3_ := Aside0.mk (HG.out.trans (Se.Gr.below hb_ _)); clear HB HO HG; have HB := n0_; have BK := n1_; have HO := n2_; have HG := n3_; clear n0_ n1_ n2_ n3_ hbox hb_ hgb_; obtain ⟨hcz0, hfz0, hcz1, hfz1, hcz2, hfz2⟩ := bk3 BK.out))
        obtain ⟨ha0, hb0, hd0⟩ := HC0.out _ (HB0.out.trans HB.out)
        simp only [Nat.zero_mul, Nat.one_mul, Se.add0, Se.add3] at ha0 hb0 hd0
        go_wp2_with (first | (go_at_call 62; (with_reducible refine (HOK0.out _ _ told (rs, _) (HB0.out.trans HB.out) HO.out A2.out).mono ?_); rintro e w5 ⟨v5, rfl, hro_, hb_⟩; have n0_ := Aside0.mk (HB.out.trans (hb_.to (Nat.le_trans HS.out HB.out.size) (Kd.R_base HO.out))); have n2_ := Aside0.mk hro_; have n3_ := Aside0.mk (blk_grown BK.out hb_.g (Kd.R_ne HO.out BK.out (by decide))); have n4_ := Aside0.mk (HG.out.trans hb_); clear HB HO BK HG hcz0 hfz0 hcz1 hfz1 hcz2 hfz2 hb_ hro_; have HB := n0_; have HO := n2_; have BK := n3_; have HG := n4_; clear n0_ n2_ n3_ n4_; obtain ⟨hcz0, hfz0, hcz1, hfz1, hcz2, hfz2⟩ := bk3 BK.out; obtain ⟨Av5, cv5, ev5⟩ := Kd.R_slice HO.out; subst ev5))
        refine bodyPost_ret (results_list (rs := [.tmp 4, .tmp 5]) rfl (by simp) (.tmp (.tmp .nil))) rfl ?_
        exact ⟨_, lE, HO.out, HG.out⟩
       ·have h0b : (rc == 0) = false := beq_eq_false_iff_ne.mpr hz
        by_cases hn0 : n = 0
        ·subst hn0
         rw [if_neg (by omega)] at h
         go_enter Try.func62, Try.ntmps62
         go_upto_region 17 with (first | ((with_reducible refine gate_dst (N := 2) rfl ?_); refine bxe 2 #[.int .i64 4, .int .i64 0, .slice (some ad0) m c] 72 ?_; intro gb hgb_ w4 hbox hb_; have n0_ := Aside0.mk (HB.out.trans (hb_.mono HS.out)); have n1_ := Aside0.mk hbox; have n2_ := Aside0.mk (Kd.R_below HO.out hb_); have n3_ := Aside0.mk (HG.out.trans (Se.Gr.below hb_ _)); clear HB HO HG; have HB := n0_; have BK := n1_; have HO := n2_; have HG := n3_; clear n0_ n1_ n2_ n3_ hbox hb_ hgb_; obtain ⟨hcz0, hfz0, hcz1, hfz1, hcz2, hfz2⟩ := bk3 BK.out))
         obtain ⟨ha0, hb0, hd0⟩ := HC0.out _ (HB0.out.trans HB.out)
         simp only [Nat.zero_mul, Nat.one_mul, Se.add0, Se.add3] at ha0 hb0 hd0
         go_upto_region 26 with (first | (go_at_call 62; (with_reducible refine (HOK0.out _ _ told (rs, _) (HB0.out.trans HB.out) HO.out A2.out).mono ?_); rintro e w5 ⟨v5, rfl, hro_, hb_⟩; have n0_ := Aside0.mk (HB.out.trans (hb_.to (Nat.le_trans HS.out HB.out.size) (Kd.R_base HO.out))); have n2_ := Aside0.mk hro_; have n3_ := Aside0.mk (blk_grown BK.out hb_.g (Kd.R_ne HO.out BK.out (by decide))); have n4_ := Aside0.mk (HG.out.trans hb_); clear HB HO BK HG hcz0 hfz0 hcz1 hfz1 hcz2 hfz2 hb_ hro_; have HB := n0_; have HO := n2_; have BK := n3_; have HG := n4_; clear n0_ n2_ n3_ n4_; obtain ⟨hcz0, hfz0, hcz1, hfz1, hcz2, hfz2⟩ := bk3 BK.out; obtain ⟨Av5, cv5, ev5⟩ := Kd.R_slice HO.out; subst ev5))
         unfold Se.second at h
         split at h
         ·cases h
         rename_i f1 hf1
         obtain ⟨ad1, k1_, n1_, A1, m1, c1, eA1, hm1, hc1, hok1⟩ := Se.kid HN.out hf1
         have HOK1 := Aside0.mk hok1
         have HC1 := Aside0.mk hc1
         clear hok1 hc1
         obtain rfl : ad0 = ad1 := by injection eA1
         have hm1b : (1 < m) = True := eq_true hm1
         have hm1c : ((1 : Int) < (m : Int)) = True := eq_true (by omega)
         have A3 := Aside0.mk h
         clear h hm1 eA1
         obtain ⟨ha1, hb1, hd1⟩ := HC1.out _ (HB0.out.trans HB.out)
         simp only [Nat.zero_mul, Nat.one_mul, Se.add0, Se.add3] at ha1 hb1 hd1
         go_wp2_with (first | (go_at_call 62; (with_reducible refine (HOK1.out _ _ rs r (HB0.out.trans HB.out) HO.out A3.out).mono ?_); rintro e w5 ⟨v5, rfl, hro_, hb_⟩; have n0_ := Aside0.mk (HB.out.trans (hb_.to (Nat.le_trans HS.out HB.out.size) (Kd.R_base HO.out))); have n2_ := Aside0.mk hro_; have n3_ := Aside0.mk (blk_grown BK.out hb_.g (Kd.R_ne HO.out BK.out (by decide))); have n4_ := Aside0.mk (HG.out.trans hb_); clear HB HO BK HG hcz0 hfz0 hcz1 hfz1 hcz2 hfz2 hb_ hro_; have HB := n0_; have HO := n2_; have BK := n3_; have HG := n4_; clear n0_ n2_ n3_ n4_; obtain ⟨hcz0, hfz0, hcz1, hfz1, hcz2, hfz2⟩ := bk3 BK.out; obtain ⟨Av5, cv5, ev5⟩ := Kd.R_slice HO.out; subst ev5))
         refine bodyPost_ret (results_list (rs := [.tmp 4, .tmp 5]) rfl (by simp) (.tmp (.tmp .nil))) rfl ?_
         exact ⟨_, lE, HO.out, HG.out⟩
        ·have hn0b : (n != 0) = true := bne_iff_ne.mpr hn0
         by_cases hnc : n = rc
         ·subst hnc
          rw [if_neg (by omega)] at h
          have hncb : (n != n) = false := bne_self_eq_false n
          go_enter Try.func62, Try.ntmps62
          go_upto_region 17 with (first | ((with_reducible refine gate_dst (N := 2) rfl ?_); refine bxe 2 #[.int .i64 4, .int .i64 n, .slice (some ad0) m c] 72 ?_; intro gb hgb_ w4 hbox hb_; have n0_ := Aside0.mk (HB.out.trans (hb_.mono HS.out)); have n1_ := Aside0.mk hbox; have n2_ := Aside0.mk (Kd.R_below HO.out hb_); have n3_ := Aside0.mk (HG.out.trans (Se.Gr.below hb_ _)); clear HB HO HG; have HB := n0_; have BK := n1_; have HO := n2_; have HG := n3_; clear n0_ n1_ n2_ n3_ hbox hb_ hgb_; obtain ⟨hcz0, hfz0, hcz1, hfz1, hcz2, hfz2⟩ := bk3 BK.out))
          obtain ⟨ha0, hb0, hd0⟩ := HC0.out _ (HB0.out.trans HB.out)
          simp only [Nat.zero_mul, Nat.one_mul, Se.add0, Se.add3] at ha0 hb0 hd0
          go_upto_region 26 with (first | (go_at_call 62; (with_reducible refine (HOK0.out _ _ told (rs, _) (HB0.out.trans HB.out) HO.out A2.out).mono ?_); rintro e w5 ⟨v5, rfl, hro_, hb_⟩; have n0_ := Aside0.mk (HB.out.trans (hb_.to (Nat.le_trans HS.out HB.out.size) (Kd.R_base HO.out))); have n2_ := Aside0.mk hro_; have n3_ := Aside0.mk (blk_grown BK.out hb_.g (Kd.R_ne HO.out BK.out (by decide))); have n4_ := Aside0.mk (HG.out.trans hb_); clear HB HO BK HG hcz0 hfz0 hcz1 hfz1 hcz2 hfz2 hb_ hro_; have HB := n0_; have HO := n2_; have BK := n3_; have HG := n4_; clear n0_ n2_ n3_ n4_; obtain ⟨hcz0, hfz0, hcz1, hfz1, hcz2, hfz2⟩ := bk3 BK.out; obtain ⟨Av5, cv5, ev5⟩ := Kd.R_slice HO.out; subst ev5))
          unfold Se.second at h
          split at h
          ·cases h
          rename_i f1 hf1
          obtain ⟨ad1, k1_, n1_, A1, m1, c1, eA1, hm1, hc1, hok1⟩ := Se.kid HN.out hf1
          have HOK1 := Aside0.mk hok1
          have HC1 := Aside0.mk hc1
          clear hok1 hc1
          obtain rfl : ad0 = ad1 := by injection eA1
          have hm1b : (1 < m) = True := eq_true hm1
          have hm1c : ((1 : Int) < (m : Int)) = True := eq_true (by omega)
          have A3 := Aside0.mk h
          clear h hm1 eA1
          obtain ⟨ha1, hb1, hd1⟩ := HC1.out _ (HB0.out.trans HB.out)
          simp only [Nat.zero_mul, Nat.one_mul, Se.add0, Se.add3] at ha1 hb1 hd1
          go_wp2_with (first | (go_at_call 62; (with_reducible refine (HOK1.out _ _ rs r (HB0.out.trans HB.out) HO.out A3.out).mono ?_); rintro e w5 ⟨v5, rfl, hro_, hb_⟩; have n0_ := Aside0.mk (HB.out.trans (hb_.to (Nat.le_trans HS.out HB.out.size) (Kd.R_base HO.out))); have n2_ := Aside0.mk hro_; have n3_ := Aside0.mk (blk_grown BK.out hb_.g (Kd.R_ne HO.out BK.out (by decide))); have n4_ := Aside0.mk (HG.out.trans hb_); clear HB HO BK HG hcz0 hfz0 hcz1 hfz1 hcz2 hfz2 hb_ hro_; have HB := n0_; have HO := n2_; have BK := n3_; have HG := n4_; clear n0_ n2_ n3_ n4_; obtain ⟨hcz0, hfz0, hcz1, hfz1, hcz2, hfz2⟩ := bk3 BK.out; obtain ⟨Av5, cv5, ev5⟩ := Kd.R_slice HO.out; subst ev5))
          refine bodyPost_ret (results_list (rs := [.tmp 4, .tmp 5]) rfl (by simp) (.tmp (.tmp .nil))) rfl ?_
          exact ⟨_, lE, HO.out, HG.out⟩
         ·rw [if_pos (.inr ⟨hn0, hnc⟩)] at h
          have hncb : (n != rc) = true := bne_iff_ne.mpr hnc
          obtain rfl := Option.some.inj h
          clear h
          go_enter Try.func62, Try.ntmps62
          go_upto_region 17 with (first | ((with_reducible refine gate_dst (N := 2) rfl ?_); refine bxe 2 #[.int .i64 4, .int .i64 n, .slice (some ad0) m c] 72 ?_; intro gb hgb_ w4 hbox hb_; have n0_ := Aside0.mk (HB.out.trans (hb_.mono HS.out)); have n1_ := Aside0.mk hbox; have n2_ := Aside0.mk (Kd.R_below HO.out hb_); have n3_ := Aside0.mk (HG.out.trans (Se.Gr.below hb_ _)); clear HB HO HG; have HB := n0_; have BK := n1_; have HO := n2_; have HG := n3_; clear n0_ n1_ n2_ n3_ hbox hb_ hgb_; obtain ⟨hcz0, hfz0, hcz1, hfz1, hcz2, hfz2⟩ := bk3 BK.out))
          obtain ⟨ha0, hb0, hd0⟩ := HC0.out _ (HB0.out.trans HB.out)
          simp only [Nat.zero_mul, Nat.one_mul, Se.add0, Se.add3] at ha0 hb0 hd0
          go_wp2_with (first | (go_at_call 62; (with_reducible refine (HOK0.out _ _ told (rs, _) (HB0.out.trans HB.out) HO.out A2.out).mono ?_); rintro e w5 ⟨v5, rfl, hro_, hb_⟩; have n0_ := Aside0.mk (HB.out.trans (hb_.to (Nat.le_trans HS.out HB.out.size) (Kd.R_base HO.out))); have n2_ := Aside0.mk hro_; have n3_ := Aside0.mk (blk_grown BK.out hb_.g (Kd.R_ne HO.out BK.out (by decide))); have n4_ := Aside0.mk (HG.out.trans hb_); clear HB HO BK HG hcz0 hfz0 hcz1 hfz1 hcz2 hfz2 hb_ hro_; have HB := n0_; have HO := n2_; have BK := n3_; have HG := n4_; clear n0_ n2_ n3_ n4_; obtain ⟨hcz0, hfz0, hcz1, hfz1, hcz2, hfz2⟩ := bk3 BK.out; obtain ⟨Av5, cv5, ev5⟩ := Kd.R_slice HO.out; subst ev5))
          refine bodyPost_ret (results_list (rs := [.tmp 4, .tmp 5]) rfl (by simp) (.tmp (.tmp .nil))) rfl ?_
          exact ⟨_, lE, HO.out, HG.out⟩
      ·rw [if_neg k4] at h
       have k4b : (k == 4) = false := beq_eq_false_iff_ne.mpr k4
       replace h := lO h; obtain ⟨q, A4, h⟩ := h
       obtain ⟨qs, qc⟩ := q
       have h5 := A4.out
       unfold Se.second at h5
       split at h5
       ·cases h5
       rename_i f1 hf1
       obtain ⟨ad1, k1_, n1_, A1, m1, c1, eA1, hm1, hc1, hok1⟩ := Se.kid HN.out hf1
       have HOK1 := Aside0.mk hok1
       have HC1 := Aside0.mk hc1
       clear hok1 hc1
       obtain rfl : ad0 = ad1 := by injection eA1
       have hm1b : (1 < m) = True := eq_true hm1
       have hm1c : ((1 : Int) < (m : Int)) = True := eq_true (by omega)
       have A3 := Aside0.mk h5
       clear h5 A4 hm1 eA1
       simp only at h
       go_enter Try.func62, Try.ntmps62
       go_upto_region 17 with (first | ((with_reducible refine gate_dst (N := 2) rfl ?_); refine bxe 2 #[.int .i64 k, .int .i64 n, .slice (some ad0) m c] 72 ?_; intro gb hgb_ w4 hbox hb_; have n0_ := Aside0.mk (HB.out.trans (hb_.mono HS.out)); have n1_ := Aside0.mk hbox; have n2_ := Aside0.mk (Kd.R_below HO.out hb_); have n3_ := Aside0.mk (HG.out.trans (Se.Gr.below hb_ _)); clear HB HO HG; have HB := n0_; have BK := n1_; have HO := n2_; have HG := n3_; clear n0_ n1_ n2_ n3_ hbox hb_ hgb_; obtain ⟨hcz0, hfz0, hcz1, hfz1, hcz2, hfz2⟩ := bk3 BK.out))
       obtain ⟨ha0, hb0, hd0⟩ := HC0.out _ (HB0.out.trans HB.out)
       simp only [Nat.zero_mul, Nat.one_mul, Se.add0, Se.add3] at ha0 hb0 hd0
       go_upto_region 27 with (first | (go_at_call 62; (with_reducible refine (HOK0.out _ _ told (rs, _) (HB0.out.trans HB.out) HO.out A2.out).mono ?_); rintro e w5 ⟨v5, rfl, hro_, hb_⟩; have n0_ := Aside0.mk (HB.out.trans (hb_.to (Nat.le_trans HS.out HB.out.size) (Kd.R_base HO.out))); have n2_ := Aside0.mk hro_; have n3_ := Aside0.mk (blk_grown BK.out hb_.g (Kd.R_ne HO.out BK.out (by decide))); have n4_ := Aside0.mk (HG.out.trans hb_); clear HB HO BK HG hcz0 hfz0 hcz1 hfz1 hcz2 hfz2 hb_ hro_; have HB := n0_; have HO := n2_; have BK := n3_; have HG := n4_; clear n0_ n2_ n3_ n4_; obtain ⟨hcz0, hfz0, hcz1, hfz1, hcz2, hfz2⟩ := bk3 BK.out; obtain ⟨Av5, cv5, ev5⟩ := Kd.R_slice HO.out; subst ev5))
       obtain ⟨ha1, hb1, hd1⟩ := HC1.out _ (HB0.out.trans HB.out)
       simp only [Nat.zero_mul, Nat.one_mul, Se.add0, Se.add3] at ha1 hb1 hd1
       by_cases hz : qc = 0
       ·subst hz
        rw [if_pos rfl] at h
        obtain rfl := Option.some.inj h
        clear h
        go_wp2_with (first | (go_at_call 62; (with_reducible refine (HOK1.out _ _ rs (qs, _) (HB0.out.trans HB.out) HO.out A3.out).mono ?_); rintro e w5 ⟨v5, rfl, hro_, hb_⟩; have n0_ := Aside0.mk (HB.out.trans (hb_.to (Nat.le_trans HS.out HB.out.size) (Kd.R_base HO.out))); have n2_ := Aside0.mk hro_; have n3_ := Aside0.mk (blk_grown BK.out hb_.g (Kd.R_ne HO.out BK.out (by decide))); have n4_ := Aside0.mk (HG.out.trans hb_); clear HB HO BK HG hcz0 hfz0 hcz1 hfz1 hcz2 hfz2 hb_ hro_; have HB := n0_; have HO := n2_; have BK := n3_; have HG := n4_; clear n0_ n2_ n3_ n4_; obtain ⟨hcz0, hfz0, hcz1, hfz1, hcz2, hfz2⟩ := bk3 BK.out; obtain ⟨Av5, cv5, ev5⟩ := Kd.R_slice HO.out; subst ev5))
        refine bodyPost_ret (results_list (rs := [.tmp 4, .tmp 5]) rfl (by simp) (.tmp (.tmp .nil))) rfl ?_
        exact ⟨_, lE, HO.out, HG.out⟩
       ·rw [if_neg hz] at h
        have h0b : (qc != 0) = true := bne_iff_ne.mpr hz
        obtain rfl := Option.some.inj h
        clear h
        go_wp2_with (first | (go_at_call 62; (with_reducible refine (HOK1.out _ _ rs (qs, _) (HB0.out.trans HB.out) HO.out A3.out).mono ?_); rintro e w5 ⟨v5, rfl, hro_, hb_⟩; have n0_ := Aside0.mk (HB.out.trans (hb_.to (Nat.le_trans HS.out HB.out.size) (Kd.R_base HO.out))); have n2_ := Aside0.mk hro_; have n3_ := Aside0.mk (blk_grown BK.out hb_.g (Kd.R_ne HO.out BK.out (by decide))); have n4_ := Aside0.mk (HG.out.trans hb_); clear HB HO BK HG hcz0 hfz0 hcz1 hfz1 hcz2 hfz2 hb_ hro_; have HB := n0_; have HO := n2_; have BK := n3_; have HG := n4_; clear n0_ n2_ n3_ n4_; obtain ⟨hcz0, hfz0, hcz1, hfz1, hcz2, hfz2⟩ := bk3 BK.out; obtain ⟨Av5, cv5, ev5⟩ := Kd.R_slice HO.out; subst ev5))
        refine bodyPost_ret (results_list (rs := [.tmp 4, .tmp 5]) rfl (by simp) (.tmp (.tmp .nil))) rfl ?_
        exact ⟨_, lE, HO.out, HG.out⟩
theorem spec_l16Eval.calls : ∀ (t : S72) (w0 : World) (A : Option Addr) (c : Nat), Kd.C k72 w0 A t.f2.length t.f2 → Se.Ok w0 (Se.ev t) t.f0 t.f1 A t.f2.length c := by
 intro t
 induction hN : SizeOf.sizeOf t using Nat.strongRecOn generalizing t with
 | _ N ih =>
 subst hN
 intro w0 A c h
 obtain ⟨k, n, ks⟩ := t
 have e : Se.ev ⟨k, n, ks⟩ = Se.node k n (Se.evs ks) := by funext told; unfold Se.ev; rfl
 rw [e]
 simp only at h ⊢
 refine Se.node_ok ⟨fun i f hf => ?_⟩
 obtain ⟨t, ht, rfl⟩ := Se.evs_at ks i f hf
 have hil : i < ks.length := by
  by_cases hl : i < ks.length
  ·exact hl
  ·rw [List.getElem?_eq_none (by omega)] at ht; cases ht
 obtain ⟨ad, A2, c2, e1, h1, h2, h3, h4, h5⟩ := at_T72 h (i : Int) (by omega) (by omega)
 have e2 : rd_T72 ks (i : Int) = t := by unfold rd_T72; rw [Int.toNat_natCast, List.getD, ht]; rfl
 rw [e2, Int.toNat_natCast] at h1 h2 h3
 rw [e2] at h4 h5
 refine ⟨hil, ad, t.f0, t.f1, A2, t.f2.length, c2, e1, h1, h2, h3, ih (SizeOf.sizeOf t) ?_ t rfl w0 A2 c2 h5⟩
 have hm : t ∈ ks := List.mem_of_getElem? ht
 have := List.sizeOf_lt_of_mem hm
 simp
 omega


end Go.Proofs.Ytgjojppbichaiaa.Q
