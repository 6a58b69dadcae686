-- Written by the program wip/tools/pr.py of this claim's session, over the kit's print.py.
import Derived.Test.YtpnhlccdhflogaaQx0
import Derived.Test.YtpnhlccdhflogaaQx2
namespace Go.Proofs.Ytpnhlccdhflogaa.Q
open Go.RowKit Go.Proofs.YtpnhlccdhflogaaW.PrintWords Go.Proofs.YtpnhlccdhflogaaW.PrintLast Go.Proofs.YtpnhlccdhflogaaW.PrintMore
attribute [local go_sem] max2_int min2_int max_two min_two max_three min_three max_four min_four   -- for this text's walks alone
set_option linter.unusedVariables false
set_option linter.unusedSimpArgs false

/-! ### spec_l11Straight: function 65 -/
mutual
def spec_l11Straight.l0 : Nat → List Int → Int → Int → List (S48) → Int → Int → Option (Int × Int)
 | 0, _, _, _, _, _, _ => none
 | k + 1, x1, x6, x7, x12, x13, x14 => if x14 < x13 then (if 0 ≤ x14 then (if x14 < (x12.length : Int) then (spec_l11Straight.l1 k x1 x6 x7 false 1 x12 x13 x14 ((rd_T48 x12 x14).f0) ((rd_T48 x12 x14).f1) ((rd_T48 x12 x14).f2)) else (none)) else (none)) else (some (x6, x7))
def spec_l11Straight.l1 : Nat → List Int → Int → Int → Bool → Int → List (S48) → Int → Int → Int → Int → Int → Option (Int × Int)
 | 0, _, _, _, _, _, _, _, _, _, _, _ => none
 | k + 1, x1, x6, x7, x10, x11, x12, x13, x14, x143000, x143001, x143002 => if x11 < (x1.length : Int) then (if x10 = true then (spec_l11Straight.l1 k x1 x6 x7 true (wrap64 (x11 + 1)) x12 x13 x14 x143000 x143001 x143002) else (if 0 ≤ (wrap64 (x11 - 1)) then (if (wrap64 (x11 - 1)) < (x1.length : Int) then (if (rd x1 (wrap64 (x11 - 1))) = x143000 then (if 0 ≤ x11 then (spec_l11Straight.l1 k x1 x6 x7 ((rd x1 x11) == x143001) (wrap64 (x11 + 1)) x12 x13 x14 x143000 x143001 x143002) else (none)) else (spec_l11Straight.l1 k x1 x6 x7 false (wrap64 (x11 + 1)) x12 x13 x14 x143000 x143001 x143002)) else (none)) else (none))) else (if x10 = true then (spec_l11Straight.l0 k x1 (wrap64 (x6 + x143002)) x7 x12 x13 (wrap64 (x14 + 1))) else (spec_l11Straight.l0 k x1 x6 (wrap64 (x7 + x143002)) x12 x13 (wrap64 (x14 + 1))))
end
def spec_l11Straight.f (k : Nat) (l0 : List (S48)) (l1 : List Int) : Option (Int × Int) := spec_l11Straight.l0 k l1 0 0 l0 (l0.length : Int) 0
theorem spec_l11Straight.mono_l : ∀ k, (∀ y0 y1 y2 y3 y4 y5, LeO (spec_l11Straight.l0 k y0 y1 y2 y3 y4 y5) (spec_l11Straight.l0 (k + 1) y0 y1 y2 y3 y4 y5)) ∧ (∀ y0 y1 y2 y3 y4 y5 y6 y7 y8 y9 y10, LeO (spec_l11Straight.l1 k y0 y1 y2 y3 y4 y5 y6 y7 y8 y9 y10) (spec_l11Straight.l1 (k + 1) y0 y1 y2 y3 y4 y5 y6 y7 y8 y9 y10))
 | 0 => ⟨fun _ _ _ _ _ _ r h => by simp [spec_l11Straight.l0] at h, fun _ _ _ _ _ _ _ _ _ _ _ r h => by simp [spec_l11Straight.l1] at h⟩
 | k + 1 => by
  obtain ⟨ih0, ih1⟩ := spec_l11Straight.mono_l k
  refine ⟨?_, ?_⟩
  ·intro y0 y1 y2 y3 y4 y5
   unfold spec_l11Straight.l0
   repeat' first
   | with_reducible apply ih0
   | with_reducible apply ih1
   | (with_reducible exact LeO.refl _)
   | (with_reducible exact LeO.none _)
   | (with_reducible refine LeO.ite ?_ ?_)
   | (with_reducible refine LeO.bind ?_ (fun _ => ?_))
   | apply ih0
   | apply ih1
   | exact LeO.none _
   | refine LeO.ite ?_ ?_
   | refine LeO.bind ?_ (fun _ => ?_)
  ·intro y0 y1 y2 y3 y4 y5 y6 y7 y8 y9 y10
   unfold spec_l11Straight.l1
   repeat' first
   | with_reducible apply ih0
   | with_reducible apply ih1
   | (with_reducible exact LeO.refl _)
   | (with_reducible exact LeO.none _)
   | (with_reducible refine LeO.ite ?_ ?_)
   | (with_reducible refine LeO.bind ?_ (fun _ => ?_))
   | apply ih0
   | apply ih1
   | exact LeO.none _
   | refine LeO.ite ?_ ?_
   | refine LeO.bind ?_ (fun _ => ?_)
theorem spec_l11Straight.mono : ∀ a0 a1 k, LeO (spec_l11Straight.f k a0 a1) (spec_l11Straight.f (k + 1) a0 a1) := by
 intro a0 a1 k
 obtain ⟨ih0, ih1⟩ := spec_l11Straight.mono_l k
 unfold spec_l11Straight.f
 repeat' first
   | with_reducible apply ih0
   | with_reducible apply ih1
   | (with_reducible exact LeO.refl _)
   | (with_reducible exact LeO.none _)
   | (with_reducible refine LeO.ite ?_ ?_)
   | (with_reducible refine LeO.bind ?_ (fun _ => ?_))
   | apply ih0
   | apply ih1
   | exact LeO.none _
   | refine LeO.ite ?_ ?_
   | refine LeO.bind ?_ (fun _ => ?_)
set_option maxHeartbeats 8000000 in
set_option maxRecDepth 100000 in
theorem spec_l11Straight.calls (k : Nat) (A0 : Option Addr) (c0 : Nat) (l0 : List (S48)) (A1 : Option Addr) (c1 : Nat) (l1 : List Int) (r1 : Int) (r2 : Int) (w : World) (hr0 : Kd.C k48 w A0 l0.length l0) (hc0 : l0.length ≤ c0) (hr1 : Kd.C (Kd.int .i64) w A1 l1.length l1) (hc1 : l1.length ≤ c1) (h : spec_l11Straight.f k l0 l1 = some (r1, r2)) :
  Calls Try.prog 65 #[.slice A0 l0.length c0, .slice A1 l1.length c1] w fun e w' => e = .returned (.tuple #[.int .i64 r1, .int .i64 r2]) ∧ Below w.heap.size w w' := by
 have hu48 := Try.underlying48
 have HR0 := Aside0.mk hr0
 have HC0 := Aside0.mk hc0
 clear hr0 hc0
 have HR1 := Aside0.mk hr1
 have HC1 := Aside0.mk hc1
 clear hr1 hc1
 have HB := Aside0.mk (Below.refl w.heap.size w)
 have H : (spec_l11Straight.l0 k l1 0 0 l0 (l0.length : Int) 0) = some (r1, r2) := h
 clear h
 have H' := Aside0.mk H
 clear H
 go_enter Try.func65, Try.ntmps65
 go_wp2
 repeat (go_quiet (fail); try go_wp2)
 go_loopg [6, 7, 14] k (fun kq v6 v7 v14 w' => ∃ (x6_1 : Int) (x7_1 : Int) (x14_1 : Int), v6 = .int .i64 x6_1 ∧ v7 = .int .i64 x7_1 ∧ v14 = .int .i64 x14_1 ∧ Aside0 (spec_l11Straight.l0 kq l1 x6_1 x7_1 l0 (l0.length : Int) x14_1 = some (r1, r2)) ∧ Aside0 (kq ≤ k) ∧ Aside0 (Below w.heap.size w w'))
 case atStart => exact ⟨(0), (0), (0), lF, lF, lF, H', ⟨Nat.le_refl _⟩, ⟨lB⟩⟩
 case round =>
  clear H'
  try clear c1
  try clear p2
  obtain ⟨x6_1, x7_1, x14_1, rfl, rfl, rfl, HA, HK1, HB⟩ := hrel
  cases gk with
  | zero => exact absurd HA.out (by simp [spec_l11Straight.l0])
  | succ k1 =>
   have H := HA.out
   clear HA
   simp only [spec_l11Straight.l0] at H
   by_cases c3 : x14_1 < (l0.length : Int)
   ·rw [if_pos c3] at H
    have c3b0 : decide (x14_1 < (l0.length : Int)) = true := decide_eq_true c3
    clear c3
    by_cases c4 : 0 ≤ x14_1
    ·rw [if_pos c4] at H
     have c4b0 : decide (0 ≤ x14_1) = true := decide_eq_true c4
     clear c4
     by_cases c5 : x14_1 < (l0.length : Int)
     ·rw [if_pos c5] at H
      have c5b0 : decide (x14_1 < (l0.length : Int)) = true := decide_eq_true c5
      clear c5
      have H' := Aside0.mk H
      clear H
      have p141 : 0 ≤ (x14_1 : Int) := lD
      have q141 : x14_1 < (l0.length : Int) := lD
      obtain ⟨ad141, e141, hx141_0, hx141_1, hx141_2⟩ := at_T48 HR0.out x14_1 p141 q141
      cases e141
      replace hx141_0 := pw_cell_below HB.out hx141_0
      replace hx141_1 := pw_cell_below HB.out hx141_1
      replace hx141_2 := pw_cell_below HB.out hx141_2
      replace p141 := eq_true p141
      replace q141 := eq_true q141
      go_wp2_with (first | ((with_reducible refine gate_dst (N := 9) rfl ?_); refine bxe 9 #[.int .i64 0, .int .i64 0, .int .i64 0] 48 ?_; intro gb142 hg w6 hbox hb; have n0_ := Aside0.mk (below_step lB hb); have n1_ := Aside0.mk (hbox); have n2_ := lG w hg; have n3_ := lG w hg; clear HB; have HB := n0_; have BK142 := n1_; have GW142 := n2_; have GE142 := n3_; clear n0_ n1_ n2_ n3_; clear hb hbox hg; obtain ⟨hcz7_0, hfz7_0, hcz7_1, hfz7_1, hcz7_2, hfz7_2⟩ := bk3 BK142.out))
      repeat (go_quiet (fail); try go_wp2_with (first | ((with_reducible refine gate_dst (N := 9) rfl ?_); refine bxe 9 #[.int .i64 0, .int .i64 0, .int .i64 0] 48 ?_; intro gb142 hg w6 hbox hb; have n0_ := Aside0.mk (below_step lB hb); have n1_ := Aside0.mk (hbox); have n2_ := lG w hg; have n3_ := lG w hg; clear HB; have HB := n0_; have BK142 := n1_; have GW142 := n2_; have GE142 := n3_; clear n0_ n1_ n2_ n3_; clear hb hbox hg; obtain ⟨hcz7_0, hfz7_0, hcz7_1, hfz7_1, hcz7_2, hfz7_2⟩ := bk3 BK142.out)))
      go_loopg [10, 11] k1 (fun kq v10 v11 w' => ∃ (x10_2 : Bool) (x11_2 : Int), v10 = .bool x10_2 ∧ v11 = .int .i64 x11_2 ∧ Aside0 (spec_l11Straight.l1 kq l1 x6_1 x7_1 x10_2 x11_2 l0 (l0.length : Int) x14_1 ((rd_T48 l0 x14_1).f0) ((rd_T48 l0 x14_1).f1) ((rd_T48 l0 x14_1).f2) = some (r1, r2)) ∧ Aside0 (kq ≤ k1) ∧ Aside0 (w'.heap[gb142]? = some (.cells #[.int .i64 ((rd_T48 l0 x14_1).f0), .int .i64 ((rd_T48 l0 x14_1).f1), .int .i64 ((rd_T48 l0 x14_1).f2)] 48 (0, 0))) ∧ Aside0 (Below w.heap.size w w'))
      case atStart => exact ⟨(false), (1), lF, lF, H', ⟨Nat.le_refl _⟩, ⟨by (with_reducible repeat first | apply bN | apply bD | apply bA); refine blk_put (cs := #[.int .i64 ((rd_T48 l0 x14_1).f0), .int .i64 ((rd_T48 l0 x14_1).f1), .int .i64 0]) ?_ 2 _ rfl; (with_reducible repeat first | apply bN | apply bD | apply bA); refine blk_put (cs := #[.int .i64 ((rd_T48 l0 x14_1).f0), .int .i64 0, .int .i64 0]) ?_ 1 _ rfl; (with_reducible repeat first | apply bN | apply bD | apply bA); refine blk_put (cs := #[.int .i64 0, .int .i64 0, .int .i64 0]) ?_ 0 _ rfl; (with_reducible repeat first | apply bN | apply bD | apply bA); exact BK142.out⟩, ⟨lB⟩⟩
      case round =>
       clear H'
       try clear c1
       try clear p1
       try clear q1
       try clear hx1
       try clear p2
       try clear c3
       try clear c3b0
       try clear c4
       try clear c4b0
       try clear c5
       try clear c5b0
       try clear c6
       try clear hcz7_0 hcz7_1 hcz7_2 hfz7_0 hfz7_1 hfz7_2
       try clear hx141_0
       try clear hx141_1
       try clear hx141_2
       try clear p141
       try clear p2
       try clear q141
       obtain ⟨x10_2, x11_2, rfl, rfl, HA, HK2, BK142, HB⟩ := hrel
       cases gk with
       | zero => exact absurd HA.out (by simp [spec_l11Straight.l1])
       | succ k2 =>
        have H := HA.out
        clear HA
        simp only [spec_l11Straight.l1] at H
        by_cases c8 : x11_2 < (l1.length : Int)
        ·rw [if_pos c8] at H
         have c8b0 : decide (x11_2 < (l1.length : Int)) = true := decide_eq_true c8
         clear c8
         by_cases c9 : x10_2 = true
         ·subst c9
          rw [if_pos rfl] at H
          have H' := Aside0.mk H
          clear H
          go_wp2
          repeat (go_quiet (fail); try go_wp2)
          go_roundg k2
          case measure => have := HK1.out; have := HK2.out; omega
          case rel => exact ⟨(true), (wrap64 (x11_2 + 1)), lF, lF, H', ⟨by have := HK1.out; have := HK2.out; omega⟩, ⟨lK BK142.out⟩, ⟨lB⟩⟩
         ·replace c9 := Bool.eq_false_iff.mpr c9
          subst c9
          rw [if_neg (show ¬ (false = true) by decide)] at H
          obtain ⟨ji10, hji10⟩ : ∃ j_ : Int, (wrap64 (x11_2 - 1)) = j_ := ⟨_, rfl⟩
          replace H : (if 0 ≤ (ji10) then (if (ji10) < (l1.length : Int) then (if (rd l1 (ji10)) = ((rd_T48 l0 x14_1).f0) then (if 0 ≤ x11_2 then (spec_l11Straight.l1 k2 l1 x6_1 x7_1 ((rd l1 x11_2) == ((rd_T48 l0 x14_1).f1)) (wrap64 (x11_2 + 1)) l0 (l0.length : Int) x14_1 ((rd_T48 l0 x14_1).f0) ((rd_T48 l0 x14_1).f1) ((rd_T48 l0 x14_1).f2)) else (none)) else (spec_l11Straight.l1 k2 l1 x6_1 x7_1 false (wrap64 (x11_2 + 1)) l0 (l0.length : Int) x14_1 ((rd_T48 l0 x14_1).f0) ((rd_T48 l0 x14_1).f1) ((rd_T48 l0 x14_1).f2))) else (none)) else (none)) = some (r1, r2) := by first | (rw [hji10] at H; exact H) | (simp only [hji10] at H ⊢; exact H)
          have hji10w : (IntKind.i64.wrap (x11_2 - 1)) = ji10 := (i64_w _).trans hji10
          by_cases c11 : 0 ≤ (ji10)
          ·rw [if_pos c11] at H
           have c11b0 : decide (0 ≤ (ji10)) = true := decide_eq_true c11
           clear c11
           by_cases c12 : (ji10) < (l1.length : Int)
           ·rw [if_pos c12] at H
            have c12b0 : decide ((ji10) < (l1.length : Int)) = true := decide_eq_true c12
            clear c12
            by_cases c13 : (rd l1 (ji10)) = ((rd_T48 l0 x14_1).f0)
            ·rw [if_pos c13] at H
             have c13b0 : ((rd l1 (ji10)) == ((rd_T48 l0 x14_1).f0)) = true := beq_iff_eq.mpr c13
             have c13b1 : ((rd l1 (ji10)) != ((rd_T48 l0 x14_1).f0)) = false := bne_eq_false_iff_eq.mpr c13
             clear c13
             by_cases c14 : 0 ≤ x11_2
             ·rw [if_pos c14] at H
              have c14b0 : decide (0 ≤ x11_2) = true := decide_eq_true c14
              clear c14
              have H' := Aside0.mk H
              clear H
              have p143 : 0 ≤ ((ji10) : Int) := lD
              have q143 : (ji10) < (l1.length : Int) := lD
              obtain ⟨ad143, e143, hx143_0⟩ := Kd.at_int HR1.out (ji10) p143 q143
              cases e143
              replace hx143_0 := pw_cell_below HB.out hx143_0
              replace p143 := eq_true p143
              replace q143 := eq_true q143
              obtain ⟨hcz15_0, hfz15_0, hcz15_1, hfz15_1, hcz15_2, hfz15_2⟩ := bk3 BK142.out
              have p144 : 0 ≤ (x11_2 : Int) := lD
              have q144 : x11_2 < (l1.length : Int) := lD
              obtain ⟨ad144, e144, hx144_0⟩ := Kd.at_int HR1.out x11_2 p144 q144
              obtain rfl : ad143 = ad144 := (by injection e144)
              replace hx144_0 := pw_cell_below HB.out hx144_0
              replace p144 := eq_true p144
              replace q144 := eq_true q144
              go_wp2
              repeat (go_quiet (fail); try go_wp2)
              go_roundg k2
              case measure => have := HK1.out; have := HK2.out; omega
              case rel => exact ⟨(((rd l1 x11_2) == ((rd_T48 l0 x14_1).f1))), (wrap64 (x11_2 + 1)), lF, lF, H', ⟨by have := HK1.out; have := HK2.out; omega⟩, ⟨lK BK142.out⟩, ⟨lB⟩⟩
             ·rw [if_neg c14] at H
              exact absurd H (by simp)
            ·rw [if_neg c13] at H
             have c13b0 : ((rd l1 (ji10)) == ((rd_T48 l0 x14_1).f0)) = false := beq_eq_false_iff_ne.mpr c13
             have c13b1 : ((rd l1 (ji10)) != ((rd_T48 l0 x14_1).f0)) = true := bne_iff_ne.mpr c13
             have H' := Aside0.mk H
             clear H
             have p143 : 0 ≤ ((ji10) : Int) := lD
             have q143 : (ji10) < (l1.length : Int) := lD
             obtain ⟨ad143, e143, hx143_0⟩ := Kd.at_int HR1.out (ji10) p143 q143
             cases e143
             replace hx143_0 := pw_cell_below HB.out hx143_0
             replace p143 := eq_true p143
             replace q143 := eq_true q143
             obtain ⟨hcz16_0, hfz16_0, hcz16_1, hfz16_1, hcz16_2, hfz16_2⟩ := bk3 BK142.out
             go_wp2
             repeat (go_quiet (fail); try go_wp2)
             go_roundg k2
             case measure => have := HK1.out; have := HK2.out; omega
             case rel => exact ⟨(false), (wrap64 (x11_2 + 1)), lF, lF, H', ⟨by have := HK1.out; have := HK2.out; omega⟩, ⟨lK BK142.out⟩, ⟨lB⟩⟩
           ·rw [if_neg c12] at H
            exact absurd H (by simp)
          ·rw [if_neg c11] at H
           exact absurd H (by simp)
        ·rw [if_neg c8] at H
         have c8b0 : decide (x11_2 < (l1.length : Int)) = false := decide_eq_false c8
         clear c8
         by_cases c17 : x10_2 = true
         ·subst c17
          rw [if_pos rfl] at H
          have H' := Aside0.mk H
          clear H
          obtain ⟨hcz18_0, hfz18_0, hcz18_1, hfz18_1, hcz18_2, hfz18_2⟩ := bk3 BK142.out
          go_wp2
          repeat (go_quiet (fail); try go_wp2)
          go_roundg k2
          case measure => have := HK1.out; have := HK2.out; omega
          case rel => exact ⟨(wrap64 (x6_1 + ((rd_T48 l0 x14_1).f2))), (x7_1), (wrap64 (x14_1 + 1)), lF, lF, lF, H', ⟨by have := HK1.out; have := HK2.out; omega⟩, ⟨lB⟩⟩
         ·replace c17 := Bool.eq_false_iff.mpr c17
          subst c17
          rw [if_neg (show ¬ (false = true) by decide)] at H
          have H' := Aside0.mk H
          clear H
          obtain ⟨hcz19_0, hfz19_0, hcz19_1, hfz19_1, hcz19_2, hfz19_2⟩ := bk3 BK142.out
          go_wp2
          repeat (go_quiet (fail); try go_wp2)
          go_roundg k2
          case measure => have := HK1.out; have := HK2.out; omega
          case rel => exact ⟨(x6_1), (wrap64 (x7_1 + ((rd_T48 l0 x14_1).f2))), (wrap64 (x14_1 + 1)), lF, lF, lF, H', ⟨by have := HK1.out; have := HK2.out; omega⟩, ⟨lB⟩⟩
     ·rw [if_neg c5] at H
      exact absurd H (by simp)
    ·rw [if_neg c4] at H
     exact absurd H (by simp)
   ·rw [if_neg c3] at H
    have c3b0 : decide (x14_1 < (l0.length : Int)) = false := decide_eq_false c3
    clear c3
    simp only [Option.some.injEq, Prod.mk.injEq] at H
    obtain ⟨rfl, rfl⟩ := H
    go_wp2
    repeat (go_quiet (fail); try go_wp2)
    go_ret2
    exact ⟨lE, lB⟩

/-! ### spec_JumpsIn: function 28 -/
def spec_JumpsIn.f (k : Nat) (a0 : Int) (l1 : List (S48)) (l2 : List Int) : Option (Int × Bool) := (spec_GoodEdges.f k a0 l1).bind fun t145 => (if t145 = true then ((spec_IsLayout.f k a0 l2).bind fun t146 => (if t146 = true then ((spec_l11Straight.f k l1 l2).bind fun bt147 => (some (bt147.2, true))) else (some (0, false)))) else (some (0, false)))
theorem spec_JumpsIn.mono : ∀ a0 a1 a2 k, LeO (spec_JumpsIn.f k a0 a1 a2) (spec_JumpsIn.f (k + 1) a0 a1 a2) := by
 intro a0 a1 a2 k
 unfold spec_JumpsIn.f
 repeat' first
   | with_reducible apply spec_GoodEdges.mono
   | with_reducible apply spec_IsLayout.mono
   | with_reducible apply spec_l11Straight.mono
   | (with_reducible exact LeO.refl _)
   | (with_reducible exact LeO.none _)
   | (with_reducible refine LeO.ite ?_ ?_)
   | (with_reducible refine LeO.bind ?_ (fun _ => ?_))
   | apply spec_GoodEdges.mono
   | apply spec_IsLayout.mono
   | apply spec_l11Straight.mono
   | exact LeO.none _
   | refine LeO.ite ?_ ?_
   | refine LeO.bind ?_ (fun _ => ?_)
set_option maxHeartbeats 8000000 in
set_option maxRecDepth 100000 in
theorem spec_JumpsIn.calls (k : Nat) (a0 : Int) (A1 : Option Addr) (c1 : Nat) (l1 : List (S48)) (A2 : Option Addr) (c2 : Nat) (l2 : List Int) (r1 : Int) (r2 : Bool) (w : World) (hr1 : Kd.C k48 w A1 l1.length l1) (hc1 : l1.length ≤ c1) (hr2 : Kd.C (Kd.int .i64) w A2 l2.length l2) (hc2 : l2.length ≤ c2) (h : spec_JumpsIn.f k a0 l1 l2 = some (r1, r2)) :
  Calls Try.prog 28 #[.int .i64 a0, .slice A1 l1.length c1, .slice A2 l2.length c2] w fun e w' => e = .returned (.tuple #[.int .i64 r1, .bool r2]) ∧ Below w.heap.size w w' := by
 have HR1 := Aside0.mk hr1
 have HC1 := Aside0.mk hc1
 clear hr1 hc1
 have HR2 := Aside0.mk hr2
 have HC2 := Aside0.mk hc2
 clear hr2 hc2
 have HB := Aside0.mk (Below.refl w.heap.size w)
 have H : ((spec_GoodEdges.f k a0 l1).bind fun t145 => (if t145 = true then ((spec_IsLayout.f k a0 l2).bind fun t146 => (if t146 = true then ((spec_l11Straight.f k l1 l2).bind fun bt147 => (some (bt147.2, true))) else (some (0, false)))) else (some (0, false)))) = some (r1, r2) := h
 clear h
 replace H := lO H
 obtain ⟨t145, A4, H⟩ := H
 by_cases c5 : t145 = true
 ·subst c5
  rw [if_pos rfl] at H
  replace H := lO H
  obtain ⟨t146, A6, H⟩ := H
  by_cases c7 : t146 = true
  ·subst c7
   rw [if_pos rfl] at H
   replace H := Option.bind_eq_some_iff.mp H
   obtain ⟨⟨t147, t148⟩, A80, H⟩ := H
   replace H : (some (t148, true)) = some (r1, r2) := H
   have A8 := Aside0.mk A80
   clear A80
   simp only [Option.some.injEq, Prod.mk.injEq] at H
   obtain ⟨rfl, rfl⟩ := H
   go_enter Try.func28, Try.ntmps28
   go_wp2_with (first | ((with_reducible refine gate_callee (f := 56) rfl ?_); refine gl_ (some 12) (Try.func56) #[.int .i64 a0, .slice A1 l1.length c1] ?_; (with_reducible refine (spec_GoodEdges.calls k a0 _ _ l1 true _ ?side1 ?side2 A4.out).mono ?_); (case side1 => repeat (first | exact HR1.out | (with_reducible refine Kd.C_alloc ?_ _) | (with_reducible refine Kd.C_drewN ?_ _) | (with_reducible refine Kd.C_drew ?_))); (case side2 => exact HC1.out); rintro e w9 ⟨rfl, hb⟩; refine ⟨_, rfl, ?_⟩; have n0_ := Aside0.mk (below_step lB hb); clear HB; have HB := n0_; clear n0_; (try clear hb); (try clear hb2); (try clear hk); (try clear hi)) | (go_at_call 37; (with_reducible refine (spec_IsLayout.calls k a0 _ _ l2 true _ ?side1 ?side2 A6.out).mono ?_); (case side1 => exact lC (Kd.C_below HR2.out HB.out)); (case side2 => exact HC2.out); rintro e w' ⟨rfl, ⟨nd, rfl⟩⟩) | ((with_reducible refine gate_callee (f := 65) rfl ?_); refine gl_ (some 23) (Try.func65) #[.slice A1 l1.length c1, .slice A2 l2.length c2] ?_; (with_reducible refine (spec_l11Straight.calls k _ _ l1 _ _ l2 t147 t148 _ ?side1 ?side2 ?side3 ?side4 A8.out).mono ?_); (case side1 => repeat (first | exact (Kd.C_below HR1.out lB) | (with_reducible refine Kd.C_alloc ?_ _) | (with_reducible refine Kd.C_drewN ?_ _) | (with_reducible refine Kd.C_drew ?_))); (case side2 => exact HC1.out); (case side3 => repeat (first | exact (Kd.C_below HR2.out lB) | (with_reducible refine Kd.C_alloc ?_ _) | (with_reducible refine Kd.C_drewN ?_ _) | (with_reducible refine Kd.C_drew ?_))); (case side4 => exact HC2.out); rintro e w10 ⟨rfl, hb⟩; refine ⟨_, rfl, ?_⟩; have n0_ := Aside0.mk (below_step lB hb); clear HB; have HB := n0_; clear n0_; (try clear hb); (try clear hb2); (try clear hk); (try clear hi)))
   go_ret2
   exact ⟨lE, lB⟩
  ·replace c7 := Bool.eq_false_iff.mpr c7
   subst c7
   rw [if_neg (show ¬ (false = true) by decide)] at H
   simp only [Option.some.injEq, Prod.mk.injEq] at H
   obtain ⟨rfl, rfl⟩ := H
   go_enter Try.func28, Try.ntmps28
   go_wp2_with (first | ((with_reducible refine gate_callee (f := 56) rfl ?_); refine gl_ (some 12) (Try.func56) #[.int .i64 a0, .slice A1 l1.length c1] ?_; (with_reducible refine (spec_GoodEdges.calls k a0 _ _ l1 true _ ?side1 ?side2 A4.out).mono ?_); (case side1 => repeat (first | exact HR1.out | (with_reducible refine Kd.C_alloc ?_ _) | (with_reducible refine Kd.C_drewN ?_ _) | (with_reducible refine Kd.C_drew ?_))); (case side2 => exact HC1.out); rintro e w11 ⟨rfl, hb⟩; refine ⟨_, rfl, ?_⟩; have n0_ := Aside0.mk (below_step lB hb); clear HB; have HB := n0_; clear n0_; (try clear hb); (try clear hb2); (try clear hk); (try clear hi)) | (go_at_call 37; (with_reducible refine (spec_IsLayout.calls k a0 _ _ l2 false _ ?side1 ?side2 A6.out).mono ?_); (case side1 => exact lC (Kd.C_below HR2.out HB.out)); (case side2 => exact HC2.out); rintro e w' ⟨rfl, ⟨nd, rfl⟩⟩))
   go_ret2
   exact ⟨lE, lB⟩
 ·replace c5 := Bool.eq_false_iff.mpr c5
  subst c5
  rw [if_neg (show ¬ (false = true) by decide)] at H
  simp only [Option.some.injEq, Prod.mk.injEq] at H
  obtain ⟨rfl, rfl⟩ := H
  go_enter Try.func28, Try.ntmps28
  go_wp2_with (first | ((with_reducible refine gate_callee (f := 56) rfl ?_); refine gl_ (some 12) (Try.func56) #[.int .i64 a0, .slice A1 l1.length c1] ?_; (with_reducible refine (spec_GoodEdges.calls k a0 _ _ l1 false _ ?side1 ?side2 A4.out).mono ?_); (case side1 => repeat (first | exact HR1.out | (with_reducible refine Kd.C_alloc ?_ _) | (with_reducible refine Kd.C_drewN ?_ _) | (with_reducible refine Kd.C_drew ?_))); (case side2 => exact HC1.out); rintro e w12 ⟨rfl, hb⟩; refine ⟨_, rfl, ?_⟩; have n0_ := Aside0.mk (below_step lB hb); clear HB; have HB := n0_; clear n0_; (try clear hb); (try clear hb2); (try clear hk); (try clear hi)))
  go_ret2
  exact ⟨lE, lB⟩

/-! ### impl_in: function 87 -/
def impl_in.f (a0 : Int) (a1 : Int) (a2 : Int) : Option (Bool) := if a0 ≥ a1 then (some (decide (a0 ≤ a2))) else (some false)
set_option maxHeartbeats 8000000 in
set_option maxRecDepth 100000 in
theorem impl_in.calls (a0 : Int) (a1 : Int) (a2 : Int) (r : Bool) (w : World) (h : impl_in.f a0 a1 a2 = some r) :
  Calls Try.prog 87 #[.int .i64 a0, .int .i64 a1, .int .i64 a2] w fun e w' => e = .returned (.bool r) ∧ Drawn0 w w' := by
 have H : (if a0 ≥ a1 then (some (decide (a0 ≤ a2))) else (some false)) = some r := h
 clear h
 by_cases c4 : a0 ≥ a1
 ·rw [if_pos c4] at H
  have c4b0 : decide (a1 ≤ a0) = true := decide_eq_true c4
  clear c4
  obtain rfl := Option.some.inj H
  go_enter Try.func87, Try.ntmps87
  first | (go_wp2; go_ret; exact ⟨by first | rfl | (simp; done) | (simp [*]; done), by repeat (first | exact Drawn0.refl _ | apply Drawn0.step)⟩) | (exfalso; simp only [decide_eq_false_iff_not, decide_eq_true_eq] at *; omega)
 ·rw [if_neg c4] at H
  have c4b0 : decide (a1 ≤ a0) = false := decide_eq_false c4
  clear c4
  obtain rfl := Option.some.inj H
  go_enter Try.func87, Try.ntmps87
  first | (go_wp2; go_ret; exact ⟨by first | rfl | (simp; done) | (simp [*]; done), by repeat (first | exact Drawn0.refl _ | apply Drawn0.step)⟩) | (exfalso; simp only [decide_eq_false_iff_not, decide_eq_true_eq] at *; omega)

/-! ### impl_areEdges: function 59 -/
def Eds.inB (a b c : Int) : Bool := if a ≥ b then decide (a ≤ c) else false
theorem Eds.inB_iff (a b c : Int) : Eds.inB a b c = true ↔ b ≤ a ∧ a ≤ c := by
 unfold Eds.inB; split <;> simp <;> omega
theorem Eds.in_eq (a b c : Int) : impl_in.f a b c = some (Eds.inB a b c) := by unfold impl_in.f Eds.inB; split <;> rfl
def Eds.had (pre : List S48) (i j : Int) : Bool := pre.any fun o => o.f0 == i && o.f1 == j
def Eds.seen (pre : List S48) : Array Value := ((List.range 64).map fun (i : Nat) => Value.bool (Eds.had pre ((i / 8 : Nat) : Int) ((i % 8 : Nat) : Int))).toArray
def Eds.ok1 (a0 : Int) (pre : List S48) (e : S48) : Bool := Eds.inB e.f0 0 (a0 - 1) && Eds.inB e.f1 0 (a0 - 1) && Eds.inB e.f2 0 100000 && !Eds.had pre e.f0 e.f1
def Eds.ok (a0 : Int) : List S48 → List S48 → Bool
 | _, [] => true
 | pre, e :: post => Eds.ok1 a0 pre e && Eds.ok a0 (pre ++ [e]) post
/-- Are edges good, of so many blocks? -/
def impl_areEdges.f (a0 : Int) (l1 : List S48) : Option Bool := some (Eds.inB a0 1 8 && decide ((l1.length : Int) ≤ 20) && Eds.ok a0 [] l1)
theorem Eds.build {ops : Array Oper} {rest : List Oper} {o : Oper} {a : Act} {w : World} {Q : Exit → Act → World → Prop} (hg : o.guard = none) (ho : o.op = .build 117 #[])
  (h : wpList Try.prog ops Q rest (a.put o.dst (.agg (Eds.seen []))) w) : wpList Try.prog ops Q (o :: rest) a w := by
 have hz : Try.prog.built 117 ((#[] : Array (Nat × Operand)).map fun (i, x) => (i, a.eval x)).toList = some (Eds.seen []) := by
  simp only [Array.map_empty, List.map_toArray, List.map_nil]; kernel_rfl
 exact wpList_build hg 117 #[] ho (by rw [hz]; rfl) (by rw [hz]; exact h)
theorem Eds.at_ (pre : List S48) (i j : Int) (hi0 : 0 ≤ i) (hi : i < 8) (hj0 : 0 ≤ j) (hj : j < 8) : (Eds.seen pre)[i.toNat * 8 + j.toNat]? = some (.bool (Eds.had pre i j)) := by
 unfold Eds.seen
 have h : i.toNat * 8 + j.toNat < 64 := by omega
 rw [List.getElem?_toArray, List.getElem?_map, List.getElem?_range h]
 simp only [Option.map_some]
 congr 3
 · omega
 · omega
theorem Eds.set_ (pre : List S48) (e : S48) (hi0 : 0 ≤ e.f0) (hi : e.f0 < 8) (hj0 : 0 ≤ e.f1) (hj : e.f1 < 8) : (Eds.seen pre).setIfInBounds (e.f0.toNat * 8 + e.f1.toNat) (.bool true) = Eds.seen (pre ++ [e]) := by
 apply Array.ext'
 apply List.ext_getElem?
 intro m
 unfold Eds.seen
 simp only [List.setIfInBounds_toArray, List.getElem?_set, List.length_map, List.length_range, List.getElem?_map]
 by_cases hm : m < 64
 · rw [List.getElem?_range hm]
   simp only [Option.map_some]
   by_cases he : e.f0.toNat * 8 + e.f1.toNat = m
   · rw [if_pos he, if_pos (by omega)]
     subst he
     have e1 : ((((e.f0.toNat * 8 + e.f1.toNat) / 8 : Nat)) : Int) = e.f0 := by omega
     have e2 : ((((e.f0.toNat * 8 + e.f1.toNat) % 8 : Nat)) : Int) = e.f1 := by omega
     rw [e1, e2]
     simp [Eds.had]
   · rw [if_neg he]
     congr 2
     unfold Eds.had
     rw [List.any_append]
     have h0 : ((e.f0 == ((m / 8 : Nat) : Int)) && (e.f1 == ((m % 8 : Nat) : Int))) = false := by
       rw [Bool.and_eq_false_iff]
       by_cases h0 : e.f0 = ((m / 8 : Nat) : Int)
       · right; simp; omega
       · left; simpa using h0
     simp only [List.any_cons, List.any_nil, h0, Bool.or_false]
 · rw [List.getElem?_eq_none (by simpa using hm)]
   by_cases he : e.f0.toNat * 8 + e.f1.toNat = m
   · omega
   · rw [if_neg he]; rfl
set_option maxHeartbeats 8000000 in
set_option maxRecDepth 100000 in
theorem Eds.calls (a0 : Int) (A1 : Option Addr) (c1 : Nat) (l1 : List S48) (r : Bool) (w : World) (hr1 : Kd.C k48 w A1 l1.length l1) (hc1 : l1.length ≤ c1) (h1 : Eds.inB a0 1 8 = true) (h2 : (l1.length : Int) ≤ 20) (hr : Eds.ok a0 [] l1 = r) :
  Calls Try.prog 59 #[.int .i64 a0, .slice A1 l1.length c1] w fun e w' => e = .returned (.bool r) ∧ Below w.heap.size w w' := by
 have HR1 := Aside0.mk hr1
 have HB := Aside0.mk (Below.refl w.heap.size w)
 have A3 := Aside0.mk ((Eds.in_eq a0 1 8).trans (congrArg some h1))
 have hd : decide (20 < (l1.length : Int)) = false := decide_eq_false (by omega)
 have h3 := (Eds.inB_iff _ _ _).1 h1
 have ha1 := h3.1
 have ha8 := h3.2
 have HK := Aside0.mk hr
 have hu48 := Try.underlying48
 have hu117 := Try.underlying117
 have hu116 := Try.underlying116
 clear hr1 h1 hr h3
 go_enter Try.func59, Try.ntmps59
 go_wp2_with (first | (go_at_call 87; (with_reducible refine (impl_in.calls a0 1 8 true _ A3.out).mono ?_); rintro e w' ⟨rfl, ⟨nd, rfl⟩⟩) | ((with_reducible refine gate_dst (N := 16) rfl ?_); refine Eds.build rfl rfl ?_) | ((with_reducible refine gate_dst (N := 5) rfl ?_); refine bxe 5 (Eds.seen []) 117 ?_; intro gs hg w3 hbox hb; have n0_ := Aside0.mk (below_step lB hb); have n1_ := Aside0.mk (hbox); have n2_ := lG w hg; clear HB; have HB := n0_; have BK := n1_; have GE := n2_; clear n0_ n1_ n2_; clear hb hbox hg) | ((with_reducible refine gate_store (t := 117) (p := 5) rfl ?_); refine wpList_store_row rfl 117 (.tmp 5) (.tmp 16) rfl gs (Eds.seen []) rfl rfl 117 (Eds.seen []) BK.out (by kernel_rfl) rfl (by kernel_rfl) ?_; rw [setRow_self _ _ _ _ _ BK.out]))
 go_loopg [7, 19] l1.length (fun gg _ s19 wr => ∃ kk : Nat, kk ≤ l1.length ∧ l1.length - kk ≤ gg ∧ s19 = .int .i64 kk ∧ Aside0 (Below w.heap.size w wr) ∧ Aside0 (wr.heap[gs]? = some (.cells (Eds.seen (l1.take kk)) 117 (0, 0))) ∧ Aside0 (Eds.ok a0 (l1.take kk) (l1.drop kk) = r))
 case atStart => exact ⟨0, Nat.zero_le _, by omega, rfl, HB, BK, HK⟩
 case round =>
  obtain ⟨kk, hkk, hg, rfl, HB, BK, HI⟩ := hrel
  by_cases hlt : kk < l1.length
  ·have hltz : (kk : Int) < (l1.length : Int) := by omega
   have hd0 : decide (kk < l1.length) = true := decide_eq_true hlt
   obtain ⟨ad, e_, hx0, hx1, hx2⟩ := at_T48 HR1.out (kk : Int) (by omega) (by omega)
   cases e_
   replace hx0 := pw_cell_below HB.out hx0
   replace hx1 := pw_cell_below HB.out hx1
   replace hx2 := pw_cell_below HB.out hx2
   simp only [Int.toNat_natCast] at hx0 hx1 hx2
   have hdp : l1.drop kk = rd_T48 l1 (kk : Int) :: l1.drop (kk + 1) := by
    rw [List.drop_eq_getElem_cons hlt]; simp [rd_T48, List.getD, hlt]
   have htk : l1.take (kk + 1) = l1.take kk ++ [rd_T48 l1 (kk : Int)] := by
    rw [List.take_succ_eq_append_getElem hlt]; simp [rd_T48, List.getD, hlt]
   generalize rd_T48 l1 (kk : Int) = y at hdp htk hx0 hx1 hx2
   have HI' := HI.out
   rw [hdp] at HI'
   simp only [Eds.ok, Eds.ok1] at HI'
   have HN := Aside0.mk HI'
   have HT := Aside0.mk htk
   clear HI HI' hdp htk
   have HNE := Aside0.mk (blk_lt BK.out)
   have A4 := Aside0.mk (Eds.in_eq y.f0 0 (a0 - 1))
   have A5 := Aside0.mk (Eds.in_eq y.f1 0 (a0 - 1))
   have A6 := Aside0.mk (Eds.in_eq y.f2 0 100000)
   go_wp2_with (first | ((with_reducible refine gate_dst (N := 7) rfl ?_); refine bxe 7 #[.int .i64 0, .int .i64 0, .int .i64 0] 48 ?_; intro gb hg2 w4 hbox hb; have n0_ := Aside0.mk (below_step HB.out hb); have n1_ := Aside0.mk (hbox); have n2_ := Aside0.mk (blk_below BK.out hb); have n3_ := Aside0.mk (show gs ≠ gb by have := HNE.out; omega); have n4_ := lG w hg2; have n5_ := pw_cell_below hb hx0; have n6_ := pw_cell_below hb hx1; have n7_ := pw_cell_below hb hx2; clear HB BK HNE hx0 hx1 hx2; have HB := n0_; have BB := n1_; have BK := n2_; have NE := n3_; have GB := n4_; have hx0 := n5_; have hx1 := n6_; have hx2 := n7_; clear n0_ n1_ n2_ n3_ n4_ n5_ n6_ n7_; clear hb hbox hg2; obtain ⟨hcz0, hfz0, hcz1, hfz1, hcz2, hfz2⟩ := bk3 BB.out) | ((with_reducible refine gate_store (t := 48) (p := 7) rfl ?_); refine store_event (t := 48) (p := 7) (v := ?vo_5) (w1 := (((w4.setCell ⟨gb, 0, none⟩ (.int .i64 y.f0)).setCell ⟨gb, 1, none⟩ (.int .i64 y.f1)).setCell ⟨gb, 2, none⟩ (.int .i64 y.f2))) ?hg ?ho ?hn ?hr ?_; (case ho => rfl); (case hg => rfl); (case hn => rfl); (case hr => first | (go_simp; done) | (go_simp; rfl)); intro w5 hw; have n0_ : Aside0 (Below w.heap.size w w5) := ⟨by rw [hw]; exact below_set (below_set (below_set HB.out GB.out) GB.out) GB.out⟩; have n1_ : Aside0 (w5.heap[gb]? = some (.cells #[.int .i64 y.f0, .int .i64 y.f1, .int .i64 y.f2] 48 (0, 0))) := ⟨by rw [hw]; exact blk_set (blk_set (blk_set BB.out 0 _) 1 _) 2 _⟩; have n2_ : Aside0 (w5.heap[gs]? = some (.cells (Eds.seen (l1.take kk)) 117 (0, 0))) := ⟨by rw [hw]; exact blk_far (blk_far (blk_far BK.out NE.out _) NE.out _) NE.out _⟩; clear hw HB BB BK hcz0 hfz0 hcz1 hfz1 hcz2 hfz2 hx0 hx1 hx2; have HB := n0_; have BB := n1_; have BK := n2_; clear n0_ n1_ n2_; obtain ⟨hcz0, hfz0, hcz1, hfz1, hcz2, hfz2⟩ := bk3 BB.out))
   have hwr : IntKind.i64.wrap (a0 - 1) = a0 - 1 := IntWalk.i64_in _ (by omega)
   cases hb4 : Eds.inB y.f0 0 (a0 - 1) with
   | false =>
    rw [hb4] at A4
    have HN2 := HN.out
    simp only [hb4, Bool.and_false, Bool.false_and, Bool.and_true, Bool.true_and] at HN2
    obtain rfl : false = r := by simpa using HN2
    clear HN2 HN
    refine start_ (n := 29) (S := fun w' => w'.cell? ⟨gb, 0, none⟩ = some (.int .i64 y.f0) ∧ w'.cell? ⟨gb, 1, none⟩ = some (.int .i64 y.f1) ∧ w'.cell? ⟨gb, 2, none⟩ = some (.int .i64 y.f2)) (ds := []) (bs 29 0) kR rfl kR ⟨hcz0, hcz1, hcz2⟩ (fun hHeld => ?_)
    refine pur_ 0 23 (bs 29 1) kR ?_
    refine tak_ 1 24 (bs 29 3) kR hHeld ?_
    refine pur_ 2 25 (bs 29 7) kR ?_
    refine pur_ 3 26 (bs 29 15) kR ?_
    refine one_ (i := 4) (N := some 27) (bs 29 31) rfl rfl kR (by decide) (fun K hK => ?_)
    refine goes_ Try.func87 (by kernel_rfl) rfl #[.int .i64 y.f0, .int .i64 0, .int .i64 (a0 - 1)] (by rfl) rfl rfl (by (try simp only [List.map_toArray, List.map_cons, List.map_nil]); first | done | rfl) ?_
    refine (impl_in.calls y.f0 0 (a0 - 1) false _ A4.out).mono ?_
    rintro e w' ⟨rfl, ⟨nd, rfl⟩⟩
    refine ⟨_, rfl, ?_⟩
    refine hK.out _ _ hHeld (fun hHeld => ?_)
    clear hK K
    refine norm_ (a' := ?_) ?_ ?_
    rotate_left
    ·show Act.put _ (some 27) _ = _
     simp only [Act.put, List.setIfInBounds_toArray, List.set_cons_zero, List.set_cons_succ, i64_w, i32_w]
     rfl
    refine pur_ 5 28 (bs 29 63) kR ?_
    refine pur_ 6 29 (bs 29 127) kR ?_
    refine puu_ 7 30 (bs 29 255) kR ?_
    refine puu_ 8 31 (bs 29 511) kR ?_
    refine puu_ 9 32 (bs 29 1023) kR ?_
    refine puu_ 10 33 (bs 29 2047) kR ?_
    refine puu_ 11 34 (bs 29 4095) kR ?_
    refine puu_ 12 35 (bs 29 8191) kR ?_
    refine pur_ 13 36 (bs 29 16383) kR ?_
    refine pur_ 14 37 (bs 29 32767) kR ?_
    refine puu_ 15 38 (bs 29 65535) kR ?_
    refine puu_ 16 39 (bs 29 131071) kR ?_
    refine puu_ 17 40 (bs 29 262143) kR ?_
    refine puu_ 18 41 (bs 29 524287) kR ?_
    refine pur_ 19 42 (bs 29 1048575) kR ?_
    refine pur_ 20 43 (bs 29 2097151) kR ?_
    refine puu_ 21 44 (bs 29 4194303) kR ?_
    refine puu_ 22 45 (bs 29 8388607) kR ?_
    refine puu_ 23 46 (bs 29 16777215) kR ?_
    refine puu_ 24 47 (bs 29 33554431) kR ?_
    refine puu_ 25 48 (bs 29 67108863) kR ?_
    refine puu_ 26 49 (bs 29 134217727) kR ?_
    refine puu_ 27 50 (bs 29 268435455) kR ?_
    refine pur_ 28 51 (bs 29 536870911) kR ?_
    refine done_ kR ?_
    go_wp2
    go_ret
    exact ⟨rfl, lB⟩
   | true =>
    rw [hb4] at A4
    cases hb5 : Eds.inB y.f1 0 (a0 - 1) with
    | false =>
     rw [hb5] at A5
     have HN2 := HN.out
     simp only [hb4, hb5, Bool.and_false, Bool.false_and, Bool.and_true, Bool.true_and] at HN2
     obtain rfl : false = r := by simpa using HN2
     clear HN2 HN
     refine start_ (n := 29) (S := fun w' => w'.cell? ⟨gb, 0, none⟩ = some (.int .i64 y.f0) ∧ w'.cell? ⟨gb, 1, none⟩ = some (.int .i64 y.f1) ∧ w'.cell? ⟨gb, 2, none⟩ = some (.int .i64 y.f2)) (ds := []) (bs 29 0) kR rfl kR ⟨hcz0, hcz1, hcz2⟩ (fun hHeld => ?_)
     refine pur_ 0 23 (bs 29 1) kR ?_
     refine tak_ 1 24 (bs 29 3) kR hHeld ?_
     refine pur_ 2 25 (bs 29 7) kR ?_
     refine pur_ 3 26 (bs 29 15) kR ?_
     refine one_ (i := 4) (N := some 27) (bs 29 31) rfl rfl kR (by decide) (fun K hK => ?_)
     refine goes_ Try.func87 (by kernel_rfl) rfl #[.int .i64 y.f0, .int .i64 0, .int .i64 (a0 - 1)] (by rfl) rfl rfl (by (try simp only [List.map_toArray, List.map_cons, List.map_nil]); first | done | rfl) ?_
     refine (impl_in.calls y.f0 0 (a0 - 1) true _ A4.out).mono ?_
     rintro e w' ⟨rfl, ⟨nd, rfl⟩⟩
     refine ⟨_, rfl, ?_⟩
     refine hK.out _ _ hHeld (fun hHeld => ?_)
     clear hK K
     refine norm_ (a' := ?_) ?_ ?_
     rotate_left
     ·show Act.put _ (some 27) _ = _
      simp only [Act.put, List.setIfInBounds_toArray, List.set_cons_zero, List.set_cons_succ, i64_w, i32_w]
      rfl
     refine pur_ 5 28 (bs 29 63) kR ?_
     refine pur_ 6 29 (bs 29 127) kR ?_
     refine pur_ 7 30 (bs 29 255) kR ?_
     refine tak_ 8 31 (bs 29 511) kR hHeld ?_
     refine pur_ 9 32 (bs 29 1023) kR ?_
     refine pur_ 10 33 (bs 29 2047) kR ?_
     refine one_ (i := 11) (N := some 34) (bs 29 4095) rfl rfl kR (by decide) (fun K hK => ?_)
     refine goes_ Try.func87 (by kernel_rfl) rfl #[.int .i64 y.f1, .int .i64 0, .int .i64 (a0 - 1)] (by rfl) rfl rfl (by (try simp only [List.map_toArray, List.map_cons, List.map_nil]); first | done | rfl) ?_
     refine (impl_in.calls y.f1 0 (a0 - 1) false _ A5.out).mono ?_
     rintro e w' ⟨rfl, ⟨nd, rfl⟩⟩
     refine ⟨_, rfl, ?_⟩
     refine hK.out _ _ hHeld (fun hHeld => ?_)
     clear hK K
     refine norm_ (a' := ?_) ?_ ?_
     rotate_left
     ·show Act.put _ (some 34) _ = _
      simp only [Act.put, List.setIfInBounds_toArray, List.set_cons_zero, List.set_cons_succ, i64_w, i32_w]
      rfl
     refine pur_ 12 35 (bs 29 8191) kR ?_
     refine pur_ 13 36 (bs 29 16383) kR ?_
     refine pur_ 14 37 (bs 29 32767) kR ?_
     refine puu_ 15 38 (bs 29 65535) kR ?_
     refine puu_ 16 39 (bs 29 131071) kR ?_
     refine puu_ 17 40 (bs 29 262143) kR ?_
     refine puu_ 18 41 (bs 29 524287) kR ?_
     refine pur_ 19 42 (bs 29 1048575) kR ?_
     refine pur_ 20 43 (bs 29 2097151) kR ?_
     refine puu_ 21 44 (bs 29 4194303) kR ?_
     refine puu_ 22 45 (bs 29 8388607) kR ?_
     refine puu_ 23 46 (bs 29 16777215) kR ?_
     refine puu_ 24 47 (bs 29 33554431) kR ?_
     refine puu_ 25 48 (bs 29 67108863) kR ?_
     refine puu_ 26 49 (bs 29 134217727) kR ?_
     refine puu_ 27 50 (bs 29 268435455) kR ?_
     refine pur_ 28 51 (bs 29 536870911) kR ?_
     refine done_ kR ?_
     go_wp2
     go_ret
     exact ⟨rfl, lB⟩
    | true =>
     rw [hb5] at A5
     cases hb6 : Eds.inB y.f2 0 100000 with
     | false =>
      rw [hb6] at A6
      have HN2 := HN.out
      simp only [hb4, hb5, hb6, Bool.and_false, Bool.false_and, Bool.and_true, Bool.true_and] at HN2
      obtain rfl : false = r := by simpa using HN2
      clear HN2 HN
      refine start_ (n := 29) (S := fun w' => w'.cell? ⟨gb, 0, none⟩ = some (.int .i64 y.f0) ∧ w'.cell? ⟨gb, 1, none⟩ = some (.int .i64 y.f1) ∧ w'.cell? ⟨gb, 2, none⟩ = some (.int .i64 y.f2)) (ds := []) (bs 29 0) kR rfl kR ⟨hcz0, hcz1, hcz2⟩ (fun hHeld => ?_)
      refine pur_ 0 23 (bs 29 1) kR ?_
      refine tak_ 1 24 (bs 29 3) kR hHeld ?_
      refine pur_ 2 25 (bs 29 7) kR ?_
      refine pur_ 3 26 (bs 29 15) kR ?_
      refine one_ (i := 4) (N := some 27) (bs 29 31) rfl rfl kR (by decide) (fun K hK => ?_)
      refine goes_ Try.func87 (by kernel_rfl) rfl #[.int .i64 y.f0, .int .i64 0, .int .i64 (a0 - 1)] (by rfl) rfl rfl (by (try simp only [List.map_toArray, List.map_cons, List.map_nil]); first | done | rfl) ?_
      refine (impl_in.calls y.f0 0 (a0 - 1) true _ A4.out).mono ?_
      rintro e w' ⟨rfl, ⟨nd, rfl⟩⟩
      refine ⟨_, rfl, ?_⟩
      refine hK.out _ _ hHeld (fun hHeld => ?_)
      clear hK K
      refine norm_ (a' := ?_) ?_ ?_
      rotate_left
      ·show Act.put _ (some 27) _ = _
       simp only [Act.put, List.setIfInBounds_toArray, List.set_cons_zero, List.set_cons_succ, i64_w, i32_w]
       rfl
      refine pur_ 5 28 (bs 29 63) kR ?_
      refine pur_ 6 29 (bs 29 127) kR ?_
      refine pur_ 7 30 (bs 29 255) kR ?_
      refine tak_ 8 31 (bs 29 511) kR hHeld ?_
      refine pur_ 9 32 (bs 29 1023) kR ?_
      refine pur_ 10 33 (bs 29 2047) kR ?_
      refine one_ (i := 11) (N := some 34) (bs 29 4095) rfl rfl kR (by decide) (fun K hK => ?_)
      refine goes_ Try.func87 (by kernel_rfl) rfl #[.int .i64 y.f1, .int .i64 0, .int .i64 (a0 - 1)] (by rfl) rfl rfl (by (try simp only [List.map_toArray, List.map_cons, List.map_nil]); first | done | rfl) ?_
      refine (impl_in.calls y.f1 0 (a0 - 1) true _ A5.out).mono ?_
      rintro e w' ⟨rfl, ⟨nd, rfl⟩⟩
      refine ⟨_, rfl, ?_⟩
      refine hK.out _ _ hHeld (fun hHeld => ?_)
      clear hK K
      refine norm_ (a' := ?_) ?_ ?_
      rotate_left
      ·show Act.put _ (some 34) _ = _
       simp only [Act.put, List.setIfInBounds_toArray, List.set_cons_zero, List.set_cons_succ, i64_w, i32_w]
       rfl
      refine pur_ 12 35 (bs 29 8191) kR ?_
      refine pur_ 13 36 (bs 29 16383) kR ?_
      refine pur_ 14 37 (bs 29 32767) kR ?_
      refine pur_ 15 38 (bs 29 65535) kR ?_
      refine tak_ 16 39 (bs 29 131071) kR hHeld ?_
      refine one_ (i := 17) (N := some 40) (bs 29 262143) rfl rfl kR (by decide) (fun K hK => ?_)
      refine goes_ Try.func87 (by kernel_rfl) rfl #[.int .i64 y.f2, .int .i64 0, .int .i64 100000] (by rfl) rfl rfl (by (try simp only [List.map_toArray, List.map_cons, List.map_nil]); first | done | rfl) ?_
      refine (impl_in.calls y.f2 0 100000 false _ A6.out).mono ?_
      rintro e w' ⟨rfl, ⟨nd, rfl⟩⟩
      refine ⟨_, rfl, ?_⟩
      refine hK.out _ _ hHeld (fun hHeld => ?_)
      clear hK K
      refine norm_ (a' := ?_) ?_ ?_
      rotate_left
      ·show Act.put _ (some 40) _ = _
       simp only [Act.put, List.setIfInBounds_toArray, List.set_cons_zero, List.set_cons_succ, i64_w, i32_w]
       rfl
      refine pur_ 18 41 (bs 29 524287) kR ?_
      refine pur_ 19 42 (bs 29 1048575) kR ?_
      refine pur_ 20 43 (bs 29 2097151) kR ?_
      refine puu_ 21 44 (bs 29 4194303) kR ?_
      refine puu_ 22 45 (bs 29 8388607) kR ?_
      refine puu_ 23 46 (bs 29 16777215) kR ?_
      refine puu_ 24 47 (bs 29 33554431) kR ?_
      refine puu_ 25 48 (bs 29 67108863) kR ?_
      refine puu_ 26 49 (bs 29 134217727) kR ?_
      refine puu_ 27 50 (bs 29 268435455) kR ?_
      refine pur_ 28 51 (bs 29 536870911) kR ?_
      refine done_ kR ?_
      go_wp2
      go_ret
      exact ⟨rfl, lB⟩
     | true =>
      rw [hb6] at A6
      have hq4 := (Eds.inB_iff _ _ _).1 hb4
      have hq5 := (Eds.inB_iff _ _ _).1 hb5
      have h40 := hq4.1
      have h48 : y.f0 < 8 := by omega
      have h50 := hq5.1
      have h58 : y.f1 < 8 := by omega
      clear hq4 hq5
      have hsn : w5.cell? ⟨gs, y.f0.toNat * 8 + y.f1.toNat, none⟩ = some (.bool (Eds.had (l1.take kk) y.f0 y.f1)) := (blk_cell BK.out _).trans (Eds.at_ _ _ _ h40 h48 h50 h58)
      have hsf := blk_frozen BK.out (y.f0.toNat * 8 + y.f1.toNat)
      cases hb7 : Eds.had (l1.take kk) y.f0 y.f1 with
      | true =>
       rw [hb7] at hsn
       have HN2 := HN.out
       simp only [hb4, hb5, hb6, hb7, Bool.and_false, Bool.false_and, Bool.and_true, Bool.true_and, Bool.not_true] at HN2
       obtain rfl : false = r := by simpa using HN2
       clear HN2 HN
       refine start_ (n := 29) (S := fun w' => w'.cell? ⟨gb, 0, none⟩ = some (.int .i64 y.f0) ∧ w'.cell? ⟨gb, 1, none⟩ = some (.int .i64 y.f1) ∧ w'.cell? ⟨gb, 2, none⟩ = some (.int .i64 y.f2) ∧ w'.cell? ⟨gs, y.f0.toNat * 8 + y.f1.toNat, none⟩ = some (.bool true)) (ds := []) (bs 29 0) kR rfl kR ⟨hcz0, hcz1, hcz2, hsn⟩ (fun hHeld => ?_)
       refine pur_ 0 23 (bs 29 1) kR ?_
       refine tak_ 1 24 (bs 29 3) kR hHeld ?_
       refine pur_ 2 25 (bs 29 7) kR ?_
       refine pur_ 3 26 (bs 29 15) kR ?_
       refine one_ (i := 4) (N := some 27) (bs 29 31) rfl rfl kR (by decide) (fun K hK => ?_)
       refine goes_ Try.func87 (by kernel_rfl) rfl #[.int .i64 y.f0, .int .i64 0, .int .i64 (a0 - 1)] (by rfl) rfl rfl (by (try simp only [List.map_toArray, List.map_cons, List.map_nil]); first | done | rfl) ?_
       refine (impl_in.calls y.f0 0 (a0 - 1) true _ A4.out).mono ?_
       rintro e w' ⟨rfl, ⟨nd, rfl⟩⟩
       refine ⟨_, rfl, ?_⟩
       refine hK.out _ _ hHeld (fun hHeld => ?_)
       clear hK K
       refine norm_ (a' := ?_) ?_ ?_
       rotate_left
       ·show Act.put _ (some 27) _ = _
        simp only [Act.put, List.setIfInBounds_toArray, List.set_cons_zero, List.set_cons_succ, i64_w, i32_w]
        rfl
       refine pur_ 5 28 (bs 29 63) kR ?_
       refine pur_ 6 29 (bs 29 127) kR ?_
       refine pur_ 7 30 (bs 29 255) kR ?_
       refine tak_ 8 31 (bs 29 511) kR hHeld ?_
       refine pur_ 9 32 (bs 29 1023) kR ?_
       refine pur_ 10 33 (bs 29 2047) kR ?_
       refine one_ (i := 11) (N := some 34) (bs 29 4095) rfl rfl kR (by decide) (fun K hK => ?_)
       refine goes_ Try.func87 (by kernel_rfl) rfl #[.int .i64 y.f1, .int .i64 0, .int .i64 (a0 - 1)] (by rfl) rfl rfl (by (try simp only [List.map_toArray, List.map_cons, List.map_nil]); first | done | rfl) ?_
       refine (impl_in.calls y.f1 0 (a0 - 1) true _ A5.out).mono ?_
       rintro e w' ⟨rfl, ⟨nd, rfl⟩⟩
       refine ⟨_, rfl, ?_⟩
       refine hK.out _ _ hHeld (fun hHeld => ?_)
       clear hK K
       refine norm_ (a' := ?_) ?_ ?_
       rotate_left
       ·show Act.put _ (some 34) _ = _
        simp only [Act.put, List.setIfInBounds_toArray, List.set_cons_zero, List.set_cons_succ, i64_w, i32_w]
        rfl
       refine pur_ 12 35 (bs 29 8191) kR ?_
       refine pur_ 13 36 (bs 29 16383) kR ?_
       refine pur_ 14 37 (bs 29 32767) kR ?_
       refine pur_ 15 38 (bs 29 65535) kR ?_
       refine tak_ 16 39 (bs 29 131071) kR hHeld ?_
       refine one_ (i := 17) (N := some 40) (bs 29 262143) rfl rfl kR (by decide) (fun K hK => ?_)
       refine goes_ Try.func87 (by kernel_rfl) rfl #[.int .i64 y.f2, .int .i64 0, .int .i64 100000] (by rfl) rfl rfl (by (try simp only [List.map_toArray, List.map_cons, List.map_nil]); first | done | rfl) ?_
       refine (impl_in.calls y.f2 0 100000 true _ A6.out).mono ?_
       rintro e w' ⟨rfl, ⟨nd, rfl⟩⟩
       refine ⟨_, rfl, ?_⟩
       refine hK.out _ _ hHeld (fun hHeld => ?_)
       clear hK K
       refine norm_ (a' := ?_) ?_ ?_
       rotate_left
       ·show Act.put _ (some 40) _ = _
        simp only [Act.put, List.setIfInBounds_toArray, List.set_cons_zero, List.set_cons_succ, i64_w, i32_w]
        rfl
       refine pur_ 18 41 (bs 29 524287) kR ?_
       refine pur_ 19 42 (bs 29 1048575) kR ?_
       refine pur_ 20 43 (bs 29 2097151) kR ?_
       refine pur_ 21 44 (bs 29 4194303) kR ?_
       refine tak_ 22 45 (bs 29 8388607) kR hHeld ?_
       refine pur_ 23 46 (bs 29 16777215) kR ?_
       refine tak_ 24 47 (bs 29 33554431) kR hHeld ?_
       refine pur_ 25 48 (bs 29 67108863) kR ?_
       refine pur_ 26 49 (bs 29 134217727) kR ?_
       refine tak_ 27 50 (bs 29 268435455) kR hHeld ?_
       refine pur_ 28 51 (bs 29 536870911) kR ?_
       refine done_ kR ?_
       go_wp2
       go_ret
       exact ⟨rfl, lB⟩
      | false =>
       rw [hb7] at hsn
       refine start_ (n := 29) (S := fun w' => w'.cell? ⟨gb, 0, none⟩ = some (.int .i64 y.f0) ∧ w'.cell? ⟨gb, 1, none⟩ = some (.int .i64 y.f1) ∧ w'.cell? ⟨gb, 2, none⟩ = some (.int .i64 y.f2) ∧ w'.cell? ⟨gs, y.f0.toNat * 8 + y.f1.toNat, none⟩ = some (.bool false)) (ds := []) (bs 29 0) kR rfl kR ⟨hcz0, hcz1, hcz2, hsn⟩ (fun hHeld => ?_)
       refine pur_ 0 23 (bs 29 1) kR ?_
       refine tak_ 1 24 (bs 29 3) kR hHeld ?_
       refine pur_ 2 25 (bs 29 7) kR ?_
       refine pur_ 3 26 (bs 29 15) kR ?_
       refine one_ (i := 4) (N := some 27) (bs 29 31) rfl rfl kR (by decide) (fun K hK => ?_)
       refine goes_ Try.func87 (by kernel_rfl) rfl #[.int .i64 y.f0, .int .i64 0, .int .i64 (a0 - 1)] (by rfl) rfl rfl (by (try simp only [List.map_toArray, List.map_cons, List.map_nil]); first | done | rfl) ?_
       refine (impl_in.calls y.f0 0 (a0 - 1) true _ A4.out).mono ?_
       rintro e w' ⟨rfl, ⟨nd, rfl⟩⟩
       refine ⟨_, rfl, ?_⟩
       refine hK.out _ _ hHeld (fun hHeld => ?_)
       clear hK K
       refine norm_ (a' := ?_) ?_ ?_
       rotate_left
       ·show Act.put _ (some 27) _ = _
        simp only [Act.put, List.setIfInBounds_toArray, List.set_cons_zero, List.set_cons_succ, i64_w, i32_w]
        rfl
       refine pur_ 5 28 (bs 29 63) kR ?_
       refine pur_ 6 29 (bs 29 127) kR ?_
       refine pur_ 7 30 (bs 29 255) kR ?_
       refine tak_ 8 31 (bs 29 511) kR hHeld ?_
       refine pur_ 9 32 (bs 29 1023) kR ?_
       refine pur_ 10 33 (bs 29 2047) kR ?_
       refine one_ (i := 11) (N := some 34) (bs 29 4095) rfl rfl kR (by decide) (fun K hK => ?_)
       refine goes_ Try.func87 (by kernel_rfl) rfl #[.int .i64 y.f1, .int .i64 0, .int .i64 (a0 - 1)] (by rfl) rfl rfl (by (try simp only [List.map_toArray, List.map_cons, List.map_nil]); first | done | rfl) ?_
       refine (impl_in.calls y.f1 0 (a0 - 1) true _ A5.out).mono ?_
       rintro e w' ⟨rfl, ⟨nd, rfl⟩⟩
       refine ⟨_, rfl, ?_⟩
       refine hK.out _ _ hHeld (fun hHeld => ?_)
       clear hK K
       refine norm_ (a' := ?_) ?_ ?_
       rotate_left
       ·show Act.put _ (some 34) _ = _
        simp only [Act.put, List.setIfInBounds_toArray, List.set_cons_zero, List.set_cons_succ, i64_w, i32_w]
        rfl
       refine pur_ 12 35 (bs 29 8191) kR ?_
       refine pur_ 13 36 (bs 29 16383) kR ?_
       refine pur_ 14 37 (bs 29 32767) kR ?_
       refine pur_ 15 38 (bs 29 65535) kR ?_
       refine tak_ 16 39 (bs 29 131071) kR hHeld ?_
       refine one_ (i := 17) (N := some 40) (bs 29 262143) rfl rfl kR (by decide) (fun K hK => ?_)
       refine goes_ Try.func87 (by kernel_rfl) rfl #[.int .i64 y.f2, .int .i64 0, .int .i64 100000] (by rfl) rfl rfl (by (try simp only [List.map_toArray, List.map_cons, List.map_nil]); first | done | rfl) ?_
       refine (impl_in.calls y.f2 0 100000 true _ A6.out).mono ?_
       rintro e w' ⟨rfl, ⟨nd, rfl⟩⟩
       refine ⟨_, rfl, ?_⟩
       refine hK.out _ _ hHeld (fun hHeld => ?_)
       clear hK K
       refine norm_ (a' := ?_) ?_ ?_
       rotate_left
       ·show Act.put _ (some 40) _ = _
        simp only [Act.put, List.setIfInBounds_toArray, List.set_cons_zero, List.set_cons_succ, i64_w, i32_w]
        rfl
       refine pur_ 18 41 (bs 29 524287) kR ?_
       refine pur_ 19 42 (bs 29 1048575) kR ?_
       refine pur_ 20 43 (bs 29 2097151) kR ?_
       refine pur_ 21 44 (bs 29 4194303) kR ?_
       refine tak_ 22 45 (bs 29 8388607) kR hHeld ?_
       refine pur_ 23 46 (bs 29 16777215) kR ?_
       refine tak_ 24 47 (bs 29 33554431) kR hHeld ?_
       refine pur_ 25 48 (bs 29 67108863) kR ?_
       refine pur_ 26 49 (bs 29 134217727) kR ?_
       refine tak_ 27 50 (bs 29 268435455) kR hHeld ?_
       refine pur_ 28 51 (bs 29 536870911) kR ?_
       refine done_ kR ?_
       go_wp2
       refine start_ (n := 7) (S := fun w' => (w'.cell? ⟨gb, 0, none⟩ = some (.int .i64 y.f0) ∧ w'.cell? ⟨gb, 1, none⟩ = some (.int .i64 y.f1) ∧ w'.cell? ⟨gb, 2, none⟩ = some (.int .i64 y.f2)) ∧ w'.frozen? ⟨gs, y.f0.toNat * 8 + y.f1.toNat, none⟩ = false ∧ w'.cell? ⟨gs, y.f0.toNat * 8 + y.f1.toNat, none⟩ = some (.bool false)) (ds := [6]) (bs 7 0) kR rfl kR ⟨⟨hcz0, hcz1, hcz2⟩, hsf, hsn⟩ (fun hHeld => ?_)
       refine pur_ 0 52 (bs 7 1) kR ?_
       refine tak_ 1 53 (bs 7 3) kR hHeld ?_
       refine pur_ 2 54 (bs 7 7) kR ?_
       refine tak_ 3 55 (bs 7 15) kR hHeld ?_
       refine pur_ 4 56 (bs 7 31) kR ?_
       refine pur_ 5 57 (bs 7 63) kR ?_
       refine last_ (i := 6) (N := none) (bs 7 127) rfl rfl kR (by decide) (fun K hK => ?_)
       have hs0_ := hHeld.2.1
       have hs1_ := hHeld.2.2
       refine skip_ (w1 := World.setCell _ ⟨gs, y.f0.toNat * 8 + y.f1.toNat, none⟩ (.bool true)) (by rfl) rfl (by first | (go_simp; done) | (go_simp; rfl)) ?_
       refine hK.out _ _ ?_
       clear hK K
       refine done_ kR ?_
       go_wp2_with fail
       go_roundg (l1.length - (kk + 1))
       case measure => omega
       case rel => exact ⟨kk + 1, by omega, by omega, by go_num, ⟨below_set (pw_below_drewN HB.out _) GE.out⟩, ⟨by rw [HT.out, ← Eds.set_ _ _ h40 h48 h50 h58]; exact blk_set (bN BK.out _) _ _⟩, ⟨by have h_ := HN.out; simp only [hb4, hb5, hb6, hb7, Bool.and_true, Bool.true_and, Bool.not_false] at h_; rw [← HT.out] at h_; exact h_⟩⟩
  ·have hltz : ¬ (kk : Int) < (l1.length : Int) := by omega
   have hd0 : decide (kk < l1.length) = false := decide_eq_false hlt
   have hkl : kk = l1.length := by omega
   have hI := HI.out
   rw [hkl, List.drop_length] at hI
   obtain rfl : true = r := hI
   clear HI hkl
   go_wp2
   go_ret
   exact ⟨rfl, lB⟩
set_option maxHeartbeats 8000000 in
set_option maxRecDepth 100000 in
theorem impl_areEdges.calls (a0 : Int) (A1 : Option Addr) (c1 : Nat) (l1 : List S48) (r : Bool) (w : World) (hr1 : Kd.C k48 w A1 l1.length l1) (hc1 : l1.length ≤ c1) (h : impl_areEdges.f a0 l1 = some r) :
  Calls Try.prog 59 #[.int .i64 a0, .slice A1 l1.length c1] w fun e w' => e = .returned (.bool r) ∧ Below w.heap.size w w' := by
 unfold impl_areEdges.f at h
 have hI := Option.some.inj h
 clear h
 cases h1 : Eds.inB a0 1 8 with
 | false =>
  rw [h1] at hI
  obtain rfl : false = r := by simpa using hI
  have A3 := Aside0.mk ((Eds.in_eq a0 1 8).trans (congrArg some h1))
  clear hI hr1 h1
  go_enter Try.func59, Try.ntmps59
  go_wp2_with (first | (go_at_call 87; (with_reducible refine (impl_in.calls a0 1 8 false _ A3.out).mono ?_); rintro e w' ⟨rfl, ⟨nd, rfl⟩⟩))
  go_ret
  exact ⟨rfl, pw_below_drewN (Below.refl _ _) _⟩
 | true =>
  by_cases h2 : (l1.length : Int) ≤ 20
  ·rw [h1, decide_eq_true h2] at hI
   exact Eds.calls a0 A1 c1 l1 r w hr1 hc1 h1 h2 (by simpa using hI)
  ·rw [h1, decide_eq_false h2] at hI
   obtain rfl : false = r := by simpa using hI
   have hd : decide (20 < (l1.length : Int)) = true := decide_eq_true (by omega)
   have A3 := Aside0.mk ((Eds.in_eq a0 1 8).trans (congrArg some h1))
   clear hI hr1 h1
   go_enter Try.func59, Try.ntmps59
   go_wp2_with (first | (go_at_call 87; (with_reducible refine (impl_in.calls a0 1 8 true _ A3.out).mono ?_); rintro e w' ⟨rfl, ⟨nd, rfl⟩⟩))
   go_ret
   exact ⟨rfl, pw_below_drewN (Below.refl _ _) _⟩


end Go.Proofs.Ytpnhlccdhflogaa.Q
