-- Written by the program wip/tools/pr.py of this claim's session, over the kit's print.py.
import Derived.Test.YtpnhlccdhflogaaQx0
import Derived.Test.YtpnhlccdhflogaaQx1
namespace Go.Proofs.Ytpnhlccdhflogaa.Q
open Go.RowKit Go.Proofs.YtpnhlccdhflogaaW.PrintWords Go.Proofs.YtpnhlccdhflogaaW.PrintLast Go.Proofs.YtpnhlccdhflogaaW.PrintMore
attribute [local go_sem] max2_int min2_int max_two min_two max_three min_three max_four min_four   -- for this text's walks alone
set_option linter.unusedVariables false
set_option linter.unusedSimpArgs false

/-! ### spec_GoodEdges: function 56 -/
mutual
def spec_GoodEdges.l0 : Nat → Int → List (S48) → List (S48) → Int → Int → Option (Bool)
 | 0, _, _, _, _, _ => none
 | k + 1, x0, x1, x9, x10, x11 => if x11 < x10 then (if 0 ≤ x11 then (if x11 < (x9.length : Int) then (if ((rd_T48 x9 x11).f0) < 0 then (spec_GoodEdges.j1 k x0 x1 x11 x9 x10 x11 true ((rd_T48 x9 x11).f0) ((rd_T48 x9 x11).f1) ((rd_T48 x9 x11).f2)) else (if ((rd_T48 x9 x11).f0) ≥ x0 then (spec_GoodEdges.j1 k x0 x1 x11 x9 x10 x11 true ((rd_T48 x9 x11).f0) ((rd_T48 x9 x11).f1) ((rd_T48 x9 x11).f2)) else (if ((rd_T48 x9 x11).f1) < 0 then (spec_GoodEdges.j1 k x0 x1 x11 x9 x10 x11 true ((rd_T48 x9 x11).f0) ((rd_T48 x9 x11).f1) ((rd_T48 x9 x11).f2)) else (if ((rd_T48 x9 x11).f1) ≥ x0 then (spec_GoodEdges.j1 k x0 x1 x11 x9 x10 x11 true ((rd_T48 x9 x11).f0) ((rd_T48 x9 x11).f1) ((rd_T48 x9 x11).f2)) else ((spec_l1In.f ((rd_T48 x9 x11).f2) 0 100000).bind fun t124 => (spec_GoodEdges.j1 k x0 x1 x11 x9 x10 x11 (!t124) ((rd_T48 x9 x11).f0) ((rd_T48 x9 x11).f1) ((rd_T48 x9 x11).f2))))))) else (none)) else (none)) else ((spec_l11Blocks.f x0).bind fun t121 => (if t121 = true then (some (decide ((x1.length : Int) ≤ 20))) else (some false)))
def spec_GoodEdges.j1 : Nat → Int → List (S48) → Int → List (S48) → Int → Int → Bool → Int → Int → Int → Option (Bool)
 | 0, _, _, _, _, _, _, _, _, _, _ => none
 | k + 1, x0, x1, x5, x9, x10, x11, x41, x124000, x124001, x124002 => if x41 = true then (some false) else (if 0 ≤ x5 then (if x5 ≤ (x1.length : Int) then ((some (x1.take (x5 : Int).toNat : List (S48))).bind fun y125 => (spec_GoodEdges.l1 k x0 x1 x9 x10 x11 y125 (y125.length : Int) 0 x124000 x124001 x124002)) else (none)) else (none))
def spec_GoodEdges.l1 : Nat → Int → List (S48) → List (S48) → Int → Int → List (S48) → Int → Int → Int → Int → Int → Option (Bool)
 | 0, _, _, _, _, _, _, _, _, _, _, _ => none
 | k + 1, x0, x1, x9, x10, x11, x44, x45, x46, x124000, x124001, x124002 => if x46 < x45 then (if 0 ≤ x46 then (if x46 < (x44.length : Int) then (if ((rd_T48 x44 x46).f0) = x124000 then (if ((rd_T48 x44 x46).f1) = x124001 then (some false) else (spec_GoodEdges.l1 k x0 x1 x9 x10 x11 x44 x45 (wrap64 (x46 + 1)) x124000 x124001 x124002)) else (spec_GoodEdges.l1 k x0 x1 x9 x10 x11 x44 x45 (wrap64 (x46 + 1)) x124000 x124001 x124002)) else (none)) else (none)) else (spec_GoodEdges.l0 k x0 x1 x9 x10 (wrap64 (x11 + 1)))
end
def spec_GoodEdges.f (k : Nat) (a0 : Int) (l1 : List (S48)) : Option (Bool) := spec_GoodEdges.l0 k a0 l1 l1 (l1.length : Int) 0
theorem spec_GoodEdges.mono_l : ∀ k, (∀ y0 y1 y2 y3 y4, LeO (spec_GoodEdges.l0 k y0 y1 y2 y3 y4) (spec_GoodEdges.l0 (k + 1) y0 y1 y2 y3 y4)) ∧ (∀ y0 y1 y2 y3 y4 y5 y6 y7 y8 y9, LeO (spec_GoodEdges.j1 k y0 y1 y2 y3 y4 y5 y6 y7 y8 y9) (spec_GoodEdges.j1 (k + 1) y0 y1 y2 y3 y4 y5 y6 y7 y8 y9)) ∧ (∀ y0 y1 y2 y3 y4 y5 y6 y7 y8 y9 y10, LeO (spec_GoodEdges.l1 k y0 y1 y2 y3 y4 y5 y6 y7 y8 y9 y10) (spec_GoodEdges.l1 (k + 1) y0 y1 y2 y3 y4 y5 y6 y7 y8 y9 y10))
 | 0 => ⟨fun _ _ _ _ _ r h => by simp [spec_GoodEdges.l0] at h, fun _ _ _ _ _ _ _ _ _ _ r h => by simp [spec_GoodEdges.j1] at h, fun _ _ _ _ _ _ _ _ _ _ _ r h => by simp [spec_GoodEdges.l1] at h⟩
 | k + 1 => by
  obtain ⟨ih0, ih1, ih2⟩ := spec_GoodEdges.mono_l k
  refine ⟨?_, ?_, ?_⟩
  ·intro y0 y1 y2 y3 y4
   unfold spec_GoodEdges.l0
   repeat' first
   | with_reducible apply ih0
   | with_reducible apply ih1
   | with_reducible apply ih2
   | (with_reducible exact LeO.refl _)
   | (with_reducible exact LeO.none _)
   | (with_reducible refine LeO.ite ?_ ?_)
   | (with_reducible refine LeO.bind ?_ (fun _ => ?_))
   | apply ih0
   | apply ih1
   | apply ih2
   | exact LeO.none _
   | refine LeO.ite ?_ ?_
   | refine LeO.bind ?_ (fun _ => ?_)
  ·intro y0 y1 y2 y3 y4 y5 y6 y7 y8 y9
   unfold spec_GoodEdges.j1
   repeat' first
   | with_reducible apply ih0
   | with_reducible apply ih1
   | with_reducible apply ih2
   | (with_reducible exact LeO.refl _)
   | (with_reducible exact LeO.none _)
   | (with_reducible refine LeO.ite ?_ ?_)
   | (with_reducible refine LeO.bind ?_ (fun _ => ?_))
   | apply ih0
   | apply ih1
   | apply ih2
   | exact LeO.none _
   | refine LeO.ite ?_ ?_
   | refine LeO.bind ?_ (fun _ => ?_)
  ·intro y0 y1 y2 y3 y4 y5 y6 y7 y8 y9 y10
   unfold spec_GoodEdges.l1
   repeat' first
   | with_reducible apply ih0
   | with_reducible apply ih1
   | with_reducible apply ih2
   | (with_reducible exact LeO.refl _)
   | (with_reducible exact LeO.none _)
   | (with_reducible refine LeO.ite ?_ ?_)
   | (with_reducible refine LeO.bind ?_ (fun _ => ?_))
   | apply ih0
   | apply ih1
   | apply ih2
   | exact LeO.none _
   | refine LeO.ite ?_ ?_
   | refine LeO.bind ?_ (fun _ => ?_)
theorem spec_GoodEdges.mono : ∀ a0 a1 k, LeO (spec_GoodEdges.f k a0 a1) (spec_GoodEdges.f (k + 1) a0 a1) := by
 intro a0 a1 k
 obtain ⟨ih0, ih1, ih2⟩ := spec_GoodEdges.mono_l k
 unfold spec_GoodEdges.f
 repeat' first
   | with_reducible apply ih0
   | with_reducible apply ih1
   | with_reducible apply ih2
   | (with_reducible exact LeO.refl _)
   | (with_reducible exact LeO.none _)
   | (with_reducible refine LeO.ite ?_ ?_)
   | (with_reducible refine LeO.bind ?_ (fun _ => ?_))
   | apply ih0
   | apply ih1
   | apply ih2
   | exact LeO.none _
   | refine LeO.ite ?_ ?_
   | refine LeO.bind ?_ (fun _ => ?_)
set_option maxHeartbeats 8000000 in
set_option maxRecDepth 100000 in
theorem spec_GoodEdges.calls (k : Nat) (a0 : Int) (A1 : Option Addr) (c1 : Nat) (l1 : List (S48)) (r : Bool) (w : World) (hr1 : Kd.C k48 w A1 l1.length l1) (hc1 : l1.length ≤ c1) (h : spec_GoodEdges.f k a0 l1 = some r) :
  Calls Try.prog 56 #[.int .i64 a0, .slice A1 l1.length c1] w fun e w' => e = .returned (.bool r) ∧ Below w.heap.size w w' := by
 have hu48 := Try.underlying48
 have HR1 := Aside0.mk hr1
 have HC1 := Aside0.mk hc1
 clear hr1 hc1
 have HB := Aside0.mk (Below.refl w.heap.size w)
 have H : (spec_GoodEdges.l0 k a0 l1 l1 (l1.length : Int) 0) = some r := h
 clear h
 have H' := Aside0.mk H
 clear H
 go_enter Try.func56, Try.ntmps56
 go_wp2
 go_loopg [11] k (fun kq v11 w' => ∃ (x11_1 : Int), v11 = .int .i64 x11_1 ∧ Aside0 (spec_GoodEdges.l0 kq a0 l1 l1 (l1.length : Int) x11_1 = some r) ∧ Aside0 (kq ≤ k) ∧ Aside0 (Below w.heap.size w w'))
 case atStart => exact ⟨(0), lF, H', ⟨Nat.le_refl _⟩, ⟨lB⟩⟩
 case round =>
  clear H'
  try clear c1
  try clear p2
  obtain ⟨x11_1, rfl, HA, HK1, HB⟩ := hrel
  cases gk with
  | zero => exact absurd HA.out (by simp [spec_GoodEdges.l0])
  | succ k1 =>
   have H := HA.out
   clear HA
   simp only [spec_GoodEdges.l0] at H
   by_cases c3 : x11_1 < (l1.length : Int)
   ·rw [if_pos c3] at H
    have c3b0 : decide (x11_1 < (l1.length : Int)) = true := decide_eq_true c3
    clear c3
    by_cases c4 : 0 ≤ x11_1
    ·rw [if_pos c4] at H
     have c4b0 : decide (0 ≤ x11_1) = true := decide_eq_true c4
     clear c4
     by_cases c5 : x11_1 < (l1.length : Int)
     ·rw [if_pos c5] at H
      have c5b0 : decide (x11_1 < (l1.length : Int)) = true := decide_eq_true c5
      clear c5
      have HC6 := Aside0.mk H
      clear H
      have p122 : 0 ≤ (x11_1 : Int) := lD
      have q122 : x11_1 < (l1.length : Int) := lD
      obtain ⟨ad122, e122, hx122_0, hx122_1, hx122_2⟩ := at_T48 HR1.out x11_1 p122 q122
      cases e122
      replace hx122_0 := pw_cell_below HB.out hx122_0
      replace hx122_1 := pw_cell_below HB.out hx122_1
      replace hx122_2 := pw_cell_below HB.out hx122_2
      replace p122 := eq_true p122
      replace q122 := eq_true q122
      go_upto_region 4 with (first | ((with_reducible refine gate_dst (N := 6) rfl ?_); (try (refine gate_guard (by rfl) ?_; dsimp only)); refine bxe 6 #[.int .i64 0, .int .i64 0, .int .i64 0] 48 ?_; intro gb123 hg w7 hbox hb; have n0_ := Aside0.mk (below_step lB hb); have n1_ := Aside0.mk (hbox); have n2_ := lG w hg; have n3_ := lG w hg; clear HB; have HB := n0_; have BK123 := n1_; have GW123 := n2_; have GE123 := n3_; clear n0_ n1_ n2_ n3_; clear hb hbox hg; obtain ⟨hcz8_0, hfz8_0, hcz8_1, hfz8_1, hcz8_2, hfz8_2⟩ := bk3 BK123.out))
      (try simp only [Act.put, List.setIfInBounds_toArray, List.set_cons_zero, List.set_cons_succ])
      go_cut [41] (fun v41 wc => ∃ (kq : Nat) (x41_5 : Bool), v41 = .bool x41_5 ∧ Aside0 (spec_GoodEdges.j1 kq a0 l1 x11_1 l1 (l1.length : Int) x11_1 x41_5 ((rd_T48 l1 x11_1).f0) ((rd_T48 l1 x11_1).f1) ((rd_T48 l1 x11_1).f2) = some r) ∧ Aside0 (kq ≤ k1) ∧ Aside0 (wc.heap[gb123]? = some (.cells #[.int .i64 ((rd_T48 l1 x11_1).f0), .int .i64 ((rd_T48 l1 x11_1).f1), .int .i64 ((rd_T48 l1 x11_1).f2)] 48 (0, 0))) ∧ Aside0 (Below w.heap.size w wc))
      case first =>
       have H := HC6.out
       clear HC6
       by_cases c9 : ((rd_T48 l1 x11_1).f0) < 0
       ·rw [if_pos c9] at H
        have c9b0 : decide (((rd_T48 l1 x11_1).f0) < 0) = true := decide_eq_true c9
        clear c9
        (first | rw [c9b0] | (simp only [i64_w, i32_w]; rw [c9b0]) | skip)
        have H' := Aside0.mk H
        clear H
        obtain ⟨hcz10_0, hfz10_0, hcz10_1, hfz10_1, hcz10_2, hfz10_2⟩ := bk3 BK123.out
        go_wp2
        go_meet
        case rel => exact ⟨_, (true), lF, H', ⟨by have := HK1.out; first | omega | exact Nat.le_refl _⟩, ⟨by (with_reducible repeat first | apply bN | apply bD | apply bA); refine blk_put (cs := #[.int .i64 ((rd_T48 l1 x11_1).f0), .int .i64 ((rd_T48 l1 x11_1).f1), .int .i64 0]) ?_ 2 _ rfl; (with_reducible repeat first | apply bN | apply bD | apply bA); refine blk_put (cs := #[.int .i64 ((rd_T48 l1 x11_1).f0), .int .i64 0, .int .i64 0]) ?_ 1 _ rfl; (with_reducible repeat first | apply bN | apply bD | apply bA); refine blk_put (cs := #[.int .i64 0, .int .i64 0, .int .i64 0]) ?_ 0 _ rfl; (with_reducible repeat first | apply bN | apply bD | apply bA); exact BK123.out⟩, ⟨lB⟩⟩
       ·rw [if_neg c9] at H
        have c9b0 : decide (((rd_T48 l1 x11_1).f0) < 0) = false := decide_eq_false c9
        clear c9
        (first | rw [c9b0] | (simp only [i64_w, i32_w]; rw [c9b0]) | skip)
        by_cases c11 : ((rd_T48 l1 x11_1).f0) ≥ a0
        ·rw [if_pos c11] at H
         have c11b0 : decide (a0 ≤ ((rd_T48 l1 x11_1).f0)) = true := decide_eq_true c11
         clear c11
         have H' := Aside0.mk H
         clear H
         obtain ⟨hcz12_0, hfz12_0, hcz12_1, hfz12_1, hcz12_2, hfz12_2⟩ := bk3 BK123.out
         go_wp2
         go_meet
         case rel => exact ⟨_, (true), lF, H', ⟨by have := HK1.out; first | omega | exact Nat.le_refl _⟩, ⟨by (with_reducible repeat first | apply bN | apply bD | apply bA); refine blk_put (cs := #[.int .i64 ((rd_T48 l1 x11_1).f0), .int .i64 ((rd_T48 l1 x11_1).f1), .int .i64 0]) ?_ 2 _ rfl; (with_reducible repeat first | apply bN | apply bD | apply bA); refine blk_put (cs := #[.int .i64 ((rd_T48 l1 x11_1).f0), .int .i64 0, .int .i64 0]) ?_ 1 _ rfl; (with_reducible repeat first | apply bN | apply bD | apply bA); refine blk_put (cs := #[.int .i64 0, .int .i64 0, .int .i64 0]) ?_ 0 _ rfl; (with_reducible repeat first | apply bN | apply bD | apply bA); exact BK123.out⟩, ⟨lB⟩⟩
        ·rw [if_neg c11] at H
         have c11b0 : decide (a0 ≤ ((rd_T48 l1 x11_1).f0)) = false := decide_eq_false c11
         clear c11
         by_cases c13 : ((rd_T48 l1 x11_1).f1) < 0
         ·rw [if_pos c13] at H
          have c13b0 : decide (((rd_T48 l1 x11_1).f1) < 0) = true := decide_eq_true c13
          clear c13
          have H' := Aside0.mk H
          clear H
          obtain ⟨hcz14_0, hfz14_0, hcz14_1, hfz14_1, hcz14_2, hfz14_2⟩ := bk3 BK123.out
          go_wp2
          go_meet
          case rel => exact ⟨_, (true), lF, H', ⟨by have := HK1.out; first | omega | exact Nat.le_refl _⟩, ⟨by (with_reducible repeat first | apply bN | apply bD | apply bA); refine blk_put (cs := #[.int .i64 ((rd_T48 l1 x11_1).f0), .int .i64 ((rd_T48 l1 x11_1).f1), .int .i64 0]) ?_ 2 _ rfl; (with_reducible repeat first | apply bN | apply bD | apply bA); refine blk_put (cs := #[.int .i64 ((rd_T48 l1 x11_1).f0), .int .i64 0, .int .i64 0]) ?_ 1 _ rfl; (with_reducible repeat first | apply bN | apply bD | apply bA); refine blk_put (cs := #[.int .i64 0, .int .i64 0, .int .i64 0]) ?_ 0 _ rfl; (with_reducible repeat first | apply bN | apply bD | apply bA); exact BK123.out⟩, ⟨lB⟩⟩
         ·rw [if_neg c13] at H
          have c13b0 : decide (((rd_T48 l1 x11_1).f1) < 0) = false := decide_eq_false c13
          clear c13
          by_cases c15 : ((rd_T48 l1 x11_1).f1) ≥ a0
          ·rw [if_pos c15] at H
           have c15b0 : decide (a0 ≤ ((rd_T48 l1 x11_1).f1)) = true := decide_eq_true c15
           clear c15
           have H' := Aside0.mk H
           clear H
           obtain ⟨hcz16_0, hfz16_0, hcz16_1, hfz16_1, hcz16_2, hfz16_2⟩ := bk3 BK123.out
           go_wp2
           go_meet
           case rel => exact ⟨_, (true), lF, H', ⟨by have := HK1.out; first | omega | exact Nat.le_refl _⟩, ⟨by (with_reducible repeat first | apply bN | apply bD | apply bA); refine blk_put (cs := #[.int .i64 ((rd_T48 l1 x11_1).f0), .int .i64 ((rd_T48 l1 x11_1).f1), .int .i64 0]) ?_ 2 _ rfl; (with_reducible repeat first | apply bN | apply bD | apply bA); refine blk_put (cs := #[.int .i64 ((rd_T48 l1 x11_1).f0), .int .i64 0, .int .i64 0]) ?_ 1 _ rfl; (with_reducible repeat first | apply bN | apply bD | apply bA); refine blk_put (cs := #[.int .i64 0, .int .i64 0, .int .i64 0]) ?_ 0 _ rfl; (with_reducible repeat first | apply bN | apply bD | apply bA); exact BK123.out⟩, ⟨lB⟩⟩
          ·rw [if_neg c15] at H
           have c15b0 : decide (a0 ≤ ((rd_T48 l1 x11_1).f1)) = false := decide_eq_false c15
           clear c15
           replace H := lO H
           obtain ⟨t124, A17, H⟩ := H
           have H' := Aside0.mk H
           clear H
           obtain ⟨hcz18_0, hfz18_0, hcz18_1, hfz18_1, hcz18_2, hfz18_2⟩ := bk3 BK123.out
           go_wp2_with (first | (go_at_call 84; (with_reducible refine (spec_l1In.calls ((rd_T48 l1 x11_1).f2) 0 100000 t124 _ A17.out).mono ?_); rintro e w' ⟨rfl, ⟨nd, rfl⟩⟩))
           go_meet
           case rel => exact ⟨_, (!t124), lF, H', ⟨by have := HK1.out; first | omega | exact Nat.le_refl _⟩, ⟨by (with_reducible repeat first | apply bN | apply bD | apply bA); refine blk_put (cs := #[.int .i64 ((rd_T48 l1 x11_1).f0), .int .i64 ((rd_T48 l1 x11_1).f1), .int .i64 0]) ?_ 2 _ rfl; (with_reducible repeat first | apply bN | apply bD | apply bA); refine blk_put (cs := #[.int .i64 ((rd_T48 l1 x11_1).f0), .int .i64 0, .int .i64 0]) ?_ 1 _ rfl; (with_reducible repeat first | apply bN | apply bD | apply bA); refine blk_put (cs := #[.int .i64 0, .int .i64 0, .int .i64 0]) ?_ 0 _ rfl; (with_reducible repeat first | apply bN | apply bD | apply bA); exact BK123.out⟩, ⟨lB⟩⟩
      case rest =>
       clear HC6
       try clear c1
       try clear p1
       try clear q1
       try clear hx1
       try clear p2
       try clear c3
       try clear c3b0
       try clear c4
       try clear c4b0
       try clear c5
       try clear c5b0
       try clear c9
       try clear c9b0
       try clear c11
       try clear c11b0
       try clear p12
       try clear q12
       try clear hx12
       try clear c13
       try clear c13b0
       try clear c15
       try clear c15b0
       try clear hcz10_0 hcz10_1 hcz10_2
       try clear hcz12_0 hcz12_1 hcz12_2
       try clear hcz14_0 hcz14_1 hcz14_2
       try clear hcz16_0 hcz16_1 hcz16_2
       try clear hcz18_0 hcz18_1 hcz18_2
       try clear hcz8_0 hcz8_1 hcz8_2
       try clear hfz10_0 hfz10_1 hfz10_2
       try clear hfz12_0 hfz12_1 hfz12_2
       try clear hfz14_0 hfz14_1 hfz14_2
       try clear hfz16_0 hfz16_1 hfz16_2
       try clear hfz18_0 hfz18_1 hfz18_2
       try clear hfz8_0 hfz8_1 hfz8_2
       try clear hx122_0
       try clear hx122_1
       try clear hx122_2
       try clear p122
       try clear p2
       try clear q122
       obtain ⟨kq, x41_5, rfl, HA, HJ5, BK123, HB⟩ := hcut
       cases kq with
       | zero => exact absurd HA.out (by simp [spec_GoodEdges.j1])
       | succ kj5 =>
        have H := HA.out
        clear HA
        simp only [spec_GoodEdges.j1] at H
        by_cases c19 : x41_5 = true
        ·subst c19
         rw [if_pos rfl] at H
         obtain rfl := Option.some.inj H
         first | (go_wp2; go_ret; exact ⟨lE, lB⟩) | (exfalso; simp only [decide_eq_false_iff_not, decide_eq_true_eq] at *; omega)
        ·replace c19 := Bool.eq_false_iff.mpr c19
         subst c19
         rw [if_neg (show ¬ (false = true) by decide)] at H
         by_cases c20 : 0 ≤ x11_1
         ·rw [if_pos c20] at H
          have c20b0 := eq_true c20
          have c20b1 : decide (0 ≤ x11_1) = true := decide_eq_true c20
          clear c20
          by_cases c21 : x11_1 ≤ (l1.length : Int)
          ·rw [if_pos c21] at H
           have c21b0 := eq_true c21
           have c21b1 : decide (x11_1 ≤ (l1.length : Int)) = true := decide_eq_true c21
           clear c21
           obtain ⟨y125, hy125⟩ : ∃ y_ : List (S48), y_ = (l1.take (x11_1 : Int).toNat) := ⟨_, rfl⟩
           replace H : (spec_GoodEdges.l1 kj5 a0 l1 l1 (l1.length : Int) x11_1 y125 (y125.length : Int) 0 ((rd_T48 l1 x11_1).f0) ((rd_T48 l1 x11_1).f1) ((rd_T48 l1 x11_1).f2)) = some r := by first | (rw [hy125]; with_reducible exact H) | (have H2_ := (Option.bind_some _ _).symm.trans H; rw [hy125]; with_reducible exact H2_) | (have H2_ := (Option.bind_some _ _).symm.trans H; with_reducible exact H2_) | with_reducible exact H | (rw [hy125]; exact H) | exact H
           have Ny125 := Aside0.mk hy125
           clear hy125
           have H' := Aside0.mk H
           clear H
           have q22 : (x11_1 : Int) ≤ ((l1.length : Int) : Int) := lD
           obtain ⟨i022, hi022, _, hsz22, _⟩ := info_parts info48
           have hroom22 : l1.length ≤ c1 := HC1.out
           have hC22 : Kd.C k48 _ (some ad122) l1.length l1 := HR1.out
           have hcut22 := cut_to (P := Try.prog) 27 48 .i64 Try.underlying27 hi022 (some ad122) l1.length c1 x11_1 (lD) q22 hroom22
           have hr22 := Kd.C_take (m := (x11_1 : Int).toNat) hC22 (by omega)
           have hy22 : y125.length = (x11_1 : Int).toNat := (by rw [Ny125.out, List.length_take]; omega)
           rw [← Ny125.out] at hr22
           rw [← hy22] at hcut22
           have HR128 := Aside0.mk hr22
           have HC128 := Aside0.mk (show y125.length ≤ c1 from by omega)
           clear hr22 hC22 hroom22 hi022 hsz22
           have KY22 := Aside0.mk hy22
           clear hy22
           replace q22 := eq_true q22
           go_wp2
           go_loopg [46] kj5 (fun kq v46 w' => ∃ (x46_3 : Int), v46 = .int .i64 x46_3 ∧ Aside0 (spec_GoodEdges.l1 kq a0 l1 l1 (l1.length : Int) x11_1 y125 (y125.length : Int) x46_3 ((rd_T48 l1 x11_1).f0) ((rd_T48 l1 x11_1).f1) ((rd_T48 l1 x11_1).f2) = some r) ∧ Aside0 (kq ≤ kj5) ∧ Aside0 (w'.heap[gb123]? = some (.cells #[.int .i64 ((rd_T48 l1 x11_1).f0), .int .i64 ((rd_T48 l1 x11_1).f1), .int .i64 ((rd_T48 l1 x11_1).f2)] 48 (0, 0))) ∧ Aside0 (Below w.heap.size w w'))
           case atStart => exact ⟨(0), lF, H', ⟨Nat.le_refl _⟩, ⟨lK BK123.out⟩, ⟨lB⟩⟩
           case round =>
            clear H'
            try clear c1
            try clear p1
            try clear q1
            try clear hx1
            try clear c2
            try clear p2
            try clear q2
            try clear c3
            try clear c3b0
            try clear c4
            try clear c4b0
            try clear c5
            try clear c5b0
            try clear c9
            try clear c9b0
            try clear c11
            try clear c11b0
            try clear p12
            try clear q12
            try clear hx12
            try clear c13
            try clear c13b0
            try clear c15
            try clear c15b0
            try clear c19
            try clear c20
            try clear c20b0
            try clear c20b1
            try clear c21
            try clear c21b0
            try clear c21b1
            try clear q22
            try clear hcz10_0 hcz10_1 hcz10_2
            try clear hcz12_0 hcz12_1 hcz12_2
            try clear hcz14_0 hcz14_1 hcz14_2
            try clear hcz16_0 hcz16_1 hcz16_2
            try clear hcz18_0 hcz18_1 hcz18_2
            try clear hcz8_0 hcz8_1 hcz8_2
            try clear hfz10_0 hfz10_1 hfz10_2
            try clear hfz12_0 hfz12_1 hfz12_2
            try clear hfz14_0 hfz14_1 hfz14_2
            try clear hfz16_0 hfz16_1 hfz16_2
            try clear hfz18_0 hfz18_1 hfz18_2
            try clear hfz8_0 hfz8_1 hfz8_2
            try clear hx122_0
            try clear hx122_1
            try clear hx122_2
            try clear p1
            try clear p12
            try clear p122
            try clear p2
            try clear q1
            try clear q12
            try clear q122
            try clear q22
            obtain ⟨x46_3, rfl, HA, HK3, BK123, HB⟩ := hrel
            cases gk with
            | zero => exact absurd HA.out (by simp [spec_GoodEdges.l1])
            | succ k3 =>
             have H := HA.out
             clear HA
             simp only [spec_GoodEdges.l1] at H
             by_cases c23 : x46_3 < (y125.length : Int)
             ·rw [if_pos c23] at H
              have c23b0 : decide (x46_3 < (y125.length : Int)) = true := decide_eq_true c23
              clear c23
              by_cases c24 : 0 ≤ x46_3
              ·rw [if_pos c24] at H
               have c24b0 : decide (0 ≤ x46_3) = true := decide_eq_true c24
               clear c24
               by_cases c25 : x46_3 < (y125.length : Int)
               ·rw [if_pos c25] at H
                have c25b0 : decide (x46_3 < (y125.length : Int)) = true := decide_eq_true c25
                clear c25
                by_cases c26 : ((rd_T48 y125 x46_3).f0) = ((rd_T48 l1 x11_1).f0)
                ·rw [if_pos c26] at H
                 have c26b0 : (((rd_T48 y125 x46_3).f0) == ((rd_T48 l1 x11_1).f0)) = true := beq_iff_eq.mpr c26
                 have c26b1 : (((rd_T48 y125 x46_3).f0) != ((rd_T48 l1 x11_1).f0)) = false := bne_eq_false_iff_eq.mpr c26
                 clear c26
                 by_cases c27 : ((rd_T48 y125 x46_3).f1) = ((rd_T48 l1 x11_1).f1)
                 ·rw [if_pos c27] at H
                  have c27b0 : (((rd_T48 y125 x46_3).f1) == ((rd_T48 l1 x11_1).f1)) = true := beq_iff_eq.mpr c27
                  have c27b1 : (((rd_T48 y125 x46_3).f1) != ((rd_T48 l1 x11_1).f1)) = false := bne_eq_false_iff_eq.mpr c27
                  clear c27
                  obtain rfl := Option.some.inj H
                  have p129 : 0 ≤ (x46_3 : Int) := lD
                  have q129 : x46_3 < (y125.length : Int) := lD
                  obtain ⟨ad129, e129, hx129_0, hx129_1, hx129_2⟩ := at_T48 HR128.out x46_3 p129 q129
                  obtain rfl : ad122 = ad129 := (by injection e129)
                  replace hx129_0 := pw_cell_below HB.out hx129_0
                  replace hx129_1 := pw_cell_below HB.out hx129_1
                  replace hx129_2 := pw_cell_below HB.out hx129_2
                  replace p129 := eq_true p129
                  replace q129 := eq_true q129
                  go_wp2_with (first | ((with_reducible refine gate_dst (N := 8) rfl ?_); (try (refine gate_guard (by rfl) ?_; dsimp only)); refine bxe 8 #[.int .i64 0, .int .i64 0, .int .i64 0] 48 ?_; intro gb130 hg w28 hbox hb; have n0_ := Aside0.mk (blk_below (lK BK123.out) hb); have n1_ := Aside0.mk (below_step lB hb); have n2_ := Aside0.mk (hbox); have n3_ := lG w hg; have n4_ := lG w hg; have n5_ := Aside0.mk ((by rw [hg]; exact Nat.ne_of_lt (blk_lt (lK BK123.out)) : gb123 ≠ gb130)); have n6_ := Aside0.mk ((by rw [hg]; exact Nat.ne_of_gt (blk_lt (lK BK123.out)) : gb130 ≠ gb123)); clear BK123; clear HB; have BK123 := n0_; have HB := n1_; have BK130 := n2_; have GW130 := n3_; have GE130 := n4_; have NB123_130 := n5_; have NB130_123 := n6_; clear n0_ n1_ n2_ n3_ n4_ n5_ n6_; clear hb hbox hg; have hnb29 := NB130_123.out; have hnc29 := NB123_130.out; obtain ⟨hcz30_0, hfz30_0, hcz30_1, hfz30_1, hcz30_2, hfz30_2⟩ := bk3 BK130.out; obtain ⟨hcz31_0, hfz31_0, hcz31_1, hfz31_1, hcz31_2, hfz31_2⟩ := bk3 BK123.out))
                  go_ret
                  exact ⟨lE, lB⟩
                 ·rw [if_neg c27] at H
                  have c27b0 : (((rd_T48 y125 x46_3).f1) == ((rd_T48 l1 x11_1).f1)) = false := beq_eq_false_iff_ne.mpr c27
                  have c27b1 : (((rd_T48 y125 x46_3).f1) != ((rd_T48 l1 x11_1).f1)) = true := bne_iff_ne.mpr c27
                  have H' := Aside0.mk H
                  clear H
                  have p129 : 0 ≤ (x46_3 : Int) := lD
                  have q129 : x46_3 < (y125.length : Int) := lD
                  obtain ⟨ad129, e129, hx129_0, hx129_1, hx129_2⟩ := at_T48 HR128.out x46_3 p129 q129
                  obtain rfl : ad122 = ad129 := (by injection e129)
                  replace hx129_0 := pw_cell_below HB.out hx129_0
                  replace hx129_1 := pw_cell_below HB.out hx129_1
                  replace hx129_2 := pw_cell_below HB.out hx129_2
                  replace p129 := eq_true p129
                  replace q129 := eq_true q129
                  go_wp2_with (first | ((with_reducible refine gate_dst (N := 8) rfl ?_); (try (refine gate_guard (by rfl) ?_; dsimp only)); refine bxe 8 #[.int .i64 0, .int .i64 0, .int .i64 0] 48 ?_; intro gb130 hg w32 hbox hb; have n0_ := Aside0.mk (blk_below (lK BK123.out) hb); have n1_ := Aside0.mk (below_step lB hb); have n2_ := Aside0.mk (hbox); have n3_ := lG w hg; have n4_ := lG w hg; have n5_ := Aside0.mk ((by rw [hg]; exact Nat.ne_of_lt (blk_lt (lK BK123.out)) : gb123 ≠ gb130)); have n6_ := Aside0.mk ((by rw [hg]; exact Nat.ne_of_gt (blk_lt (lK BK123.out)) : gb130 ≠ gb123)); clear BK123; clear HB; have BK123 := n0_; have HB := n1_; have BK130 := n2_; have GW130 := n3_; have GE130 := n4_; have NB123_130 := n5_; have NB130_123 := n6_; clear n0_ n1_ n2_ n3_ n4_ n5_ n6_; clear hb hbox hg; have hnb33 := NB130_123.out; have hnc33 := NB123_130.out; obtain ⟨hcz34_0, hfz34_0, hcz34_1, hfz34_1, hcz34_2, hfz34_2⟩ := bk3 BK130.out; obtain ⟨hcz35_0, hfz35_0, hcz35_1, hfz35_1, hcz35_2, hfz35_2⟩ := bk3 BK123.out))
                  go_roundg k3
                  case measure => have := HK1.out; have := HJ5.out; have := HK3.out; omega
                  case rel => exact ⟨(wrap64 (x46_3 + 1)), lF, H', ⟨by have := HK1.out; have := HJ5.out; have := HK3.out; omega⟩, ⟨lJ BK123.out⟩, ⟨lB⟩⟩
                ·rw [if_neg c26] at H
                 have c26b0 : (((rd_T48 y125 x46_3).f0) == ((rd_T48 l1 x11_1).f0)) = false := beq_eq_false_iff_ne.mpr c26
                 have c26b1 : (((rd_T48 y125 x46_3).f0) != ((rd_T48 l1 x11_1).f0)) = true := bne_iff_ne.mpr c26
                 have H' := Aside0.mk H
                 clear H
                 have p129 : 0 ≤ (x46_3 : Int) := lD
                 have q129 : x46_3 < (y125.length : Int) := lD
                 obtain ⟨ad129, e129, hx129_0, hx129_1, hx129_2⟩ := at_T48 HR128.out x46_3 p129 q129
                 obtain rfl : ad122 = ad129 := (by injection e129)
                 replace hx129_0 := pw_cell_below HB.out hx129_0
                 replace hx129_1 := pw_cell_below HB.out hx129_1
                 replace hx129_2 := pw_cell_below HB.out hx129_2
                 replace p129 := eq_true p129
                 replace q129 := eq_true q129
                 go_wp2_with (first | ((with_reducible refine gate_dst (N := 8) rfl ?_); (try (refine gate_guard (by rfl) ?_; dsimp only)); refine bxe 8 #[.int .i64 0, .int .i64 0, .int .i64 0] 48 ?_; intro gb130 hg w36 hbox hb; have n0_ := Aside0.mk (blk_below (lK BK123.out) hb); have n1_ := Aside0.mk (below_step lB hb); have n2_ := Aside0.mk (hbox); have n3_ := lG w hg; have n4_ := lG w hg; have n5_ := Aside0.mk ((by rw [hg]; exact Nat.ne_of_lt (blk_lt (lK BK123.out)) : gb123 ≠ gb130)); have n6_ := Aside0.mk ((by rw [hg]; exact Nat.ne_of_gt (blk_lt (lK BK123.out)) : gb130 ≠ gb123)); clear BK123; clear HB; have BK123 := n0_; have HB := n1_; have BK130 := n2_; have GW130 := n3_; have GE130 := n4_; have NB123_130 := n5_; have NB130_123 := n6_; clear n0_ n1_ n2_ n3_ n4_ n5_ n6_; clear hb hbox hg; have hnb37 := NB130_123.out; have hnc37 := NB123_130.out; obtain ⟨hcz38_0, hfz38_0, hcz38_1, hfz38_1, hcz38_2, hfz38_2⟩ := bk3 BK130.out; obtain ⟨hcz39_0, hfz39_0, hcz39_1, hfz39_1, hcz39_2, hfz39_2⟩ := bk3 BK123.out))
                 go_roundg k3
                 case measure => have := HK1.out; have := HJ5.out; have := HK3.out; omega
                 case rel => exact ⟨(wrap64 (x46_3 + 1)), lF, H', ⟨by have := HK1.out; have := HJ5.out; have := HK3.out; omega⟩, ⟨lJ BK123.out⟩, ⟨lB⟩⟩
               ·rw [if_neg c25] at H
                exact absurd H (by simp)
              ·rw [if_neg c24] at H
               exact absurd H (by simp)
             ·rw [if_neg c23] at H
              have c23b0 : decide (x46_3 < (y125.length : Int)) = false := decide_eq_false c23
              clear c23
              have H' := Aside0.mk H
              clear H
              go_wp2
              go_roundg k3
              case measure => have := HK1.out; have := HJ5.out; have := HK3.out; omega
              case rel => exact ⟨(wrap64 (x11_1 + 1)), lF, H', ⟨by have := HK1.out; have := HJ5.out; have := HK3.out; omega⟩, ⟨lB⟩⟩
          ·rw [if_neg c21] at H
           exact absurd H (by simp)
         ·rw [if_neg c20] at H
          exact absurd H (by simp)
     ·rw [if_neg c5] at H
      exact absurd H (by simp)
    ·rw [if_neg c4] at H
     exact absurd H (by simp)
   ·rw [if_neg c3] at H
    have c3b0 : decide (x11_1 < (l1.length : Int)) = false := decide_eq_false c3
    clear c3
    replace H := lO H
    obtain ⟨t121, A40, H⟩ := H
    by_cases c41 : t121 = true
    ·subst c41
     rw [if_pos rfl] at H
     obtain rfl := Option.some.inj H
     go_wp2_with (first | ((with_reducible refine gate_callee (f := 73) rfl ?_); refine gl_ (some 65) (Try.func73) #[.int .i64 a0] ?_; (with_reducible refine (spec_l11Blocks.calls a0 true _ A40.out).mono ?_); rintro e w' ⟨rfl, ⟨nd, rfl⟩⟩; refine ⟨_, rfl, ?_⟩))
     go_ret
     exact ⟨lE, lB⟩
    ·replace c41 := Bool.eq_false_iff.mpr c41
     subst c41
     rw [if_neg (show ¬ (false = true) by decide)] at H
     obtain rfl := Option.some.inj H
     go_wp2_with (first | ((with_reducible refine gate_callee (f := 73) rfl ?_); refine gl_ (some 65) (Try.func73) #[.int .i64 a0] ?_; (with_reducible refine (spec_l11Blocks.calls a0 false _ A40.out).mono ?_); rintro e w' ⟨rfl, ⟨nd, rfl⟩⟩; refine ⟨_, rfl, ?_⟩))
     go_ret
     exact ⟨lE, lB⟩

/-! ### spec_l11By: function 96 -/
mutual
def spec_l11By.l0 : Nat → List (S48) → List (S48) → Int → Int → Option ((List (S48)))
 | 0, _, _, _, _ => none
 | k + 1, x3, x8, x9, x10 => if x10 < x9 then (if 0 ≤ x10 then (if x10 < (x8.length : Int) then (spec_l11By.l1 k x3 0 x8 x9 x10 ((rd_T48 x8 x10).f0) ((rd_T48 x8 x10).f1) ((rd_T48 x8 x10).f2)) else (none)) else (none)) else (some x3)
def spec_l11By.l1 : Nat → List (S48) → Int → List (S48) → Int → Int → Int → Int → Int → Option ((List (S48)))
 | 0, _, _, _, _, _, _, _, _ => none
 | k + 1, x3, x6, x8, x9, x10, x133000, x133001, x133002 => if x6 < (x3.length : Int) then (if 0 ≤ x6 then (if ((rd_T48 x3 x6).f2) ≥ x133002 then (spec_l11By.l1 k x3 (wrap64 (x6 + 1)) x8 x9 x10 x133000 x133001 x133002) else (if x6 ≤ (x3.length : Int) then ((some (x3.take (x6 : Int).toNat : List (S48))).bind fun y134 => (if ([] : List (S48)).length + y134.length < 5864062014805 then ((some (([] : List (S48)) ++ y134 : List (S48))).bind fun y138 => (if y138.length < 5864062014805 then ((some (y138 ++ [(⟨x133000, x133001, x133002⟩ : S48)] : List (S48))).bind fun y141 => ((some (x3.drop (x6 : Int).toNat : List (S48))).bind fun y144 => (if y141.length + y144.length < 5864062014805 then (spec_l11By.l0 k (y141 ++ y144) x8 x9 (wrap64 (x10 + 1))) else (none)))) else (none))) else (none))) else (none))) else (none)) else (if 0 ≤ x6 then (if x6 ≤ (x3.length : Int) then ((some (x3.take (x6 : Int).toNat : List (S48))).bind fun y151 => (if ([] : List (S48)).length + y151.length < 5864062014805 then ((some (([] : List (S48)) ++ y151 : List (S48))).bind fun y155 => (if y155.length < 5864062014805 then ((some (y155 ++ [(⟨x133000, x133001, x133002⟩ : S48)] : List (S48))).bind fun y158 => ((some (x3.drop (x6 : Int).toNat : List (S48))).bind fun y161 => (if y158.length + y161.length < 5864062014805 then (spec_l11By.l0 k (y158 ++ y161) x8 x9 (wrap64 (x10 + 1))) else (none)))) else (none))) else (none))) else (none)) else (none))
end
def spec_l11By.f (k : Nat) (l0 : List (S48)) : Option ((List (S48))) := spec_l11By.l0 k ([] : List (S48)) l0 (l0.length : Int) 0
theorem spec_l11By.mono_l : ∀ k, (∀ y0 y1 y2 y3, LeO (spec_l11By.l0 k y0 y1 y2 y3) (spec_l11By.l0 (k + 1) y0 y1 y2 y3)) ∧ (∀ y0 y1 y2 y3 y4 y5 y6 y7, LeO (spec_l11By.l1 k y0 y1 y2 y3 y4 y5 y6 y7) (spec_l11By.l1 (k + 1) y0 y1 y2 y3 y4 y5 y6 y7))
 | 0 => ⟨fun _ _ _ _ r h => by simp [spec_l11By.l0] at h, fun _ _ _ _ _ _ _ _ r h => by simp [spec_l11By.l1] at h⟩
 | k + 1 => by
  obtain ⟨ih0, ih1⟩ := spec_l11By.mono_l k
  refine ⟨?_, ?_⟩
  ·intro y0 y1 y2 y3
   unfold spec_l11By.l0
   repeat' first
   | with_reducible apply ih0
   | with_reducible apply ih1
   | (with_reducible exact LeO.refl _)
   | (with_reducible exact LeO.none _)
   | (with_reducible refine LeO.ite ?_ ?_)
   | (with_reducible refine LeO.bind ?_ (fun _ => ?_))
   | apply ih0
   | apply ih1
   | exact LeO.none _
   | refine LeO.ite ?_ ?_
   | refine LeO.bind ?_ (fun _ => ?_)
  ·intro y0 y1 y2 y3 y4 y5 y6 y7
   unfold spec_l11By.l1
   repeat' first
   | with_reducible apply ih0
   | with_reducible apply ih1
   | (with_reducible exact LeO.refl _)
   | (with_reducible exact LeO.none _)
   | (with_reducible refine LeO.ite ?_ ?_)
   | (with_reducible refine LeO.bind ?_ (fun _ => ?_))
   | apply ih0
   | apply ih1
   | exact LeO.none _
   | refine LeO.ite ?_ ?_
   | refine LeO.bind ?_ (fun _ => ?_)
theorem spec_l11By.mono : ∀ a0 k, LeO (spec_l11By.f k a0) (spec_l11By.f (k + 1) a0) := by
 intro a0 k
 obtain ⟨ih0, ih1⟩ := spec_l11By.mono_l k
 unfold spec_l11By.f
 repeat' first
   | with_reducible apply ih0
   | with_reducible apply ih1
   | (with_reducible exact LeO.refl _)
   | (with_reducible exact LeO.none _)
   | (with_reducible refine LeO.ite ?_ ?_)
   | (with_reducible refine LeO.bind ?_ (fun _ => ?_))
   | apply ih0
   | apply ih1
   | exact LeO.none _
   | refine LeO.ite ?_ ?_
   | refine LeO.bind ?_ (fun _ => ?_)
set_option maxHeartbeats 8000000 in
set_option maxRecDepth 100000 in
theorem spec_l11By.calls (k : Nat) (A0 : Option Addr) (c0 : Nat) (l0 : List (S48)) (r : List (S48)) (w : World) (hr0 : Kd.C k48 w A0 l0.length l0) (hc0 : l0.length ≤ c0) (h : spec_l11By.f k l0 = some r) :
  Calls Try.prog 96 #[.slice A0 l0.length c0] w fun e w' => ∃ v0_ : Value, e = .returned (v0_) ∧ Kd.R k48 48 w' w.heap.size (fun _ => True) v0_ r ∧ Below w.heap.size w w' := by
 have hu48 := Try.underlying48
 have HR0 := Aside0.mk hr0
 have HC0 := Aside0.mk hc0
 clear hr0 hc0
 have HB := Aside0.mk (Below.refl w.heap.size w)
 have H : (spec_l11By.l0 k ([] : List (S48)) l0 (l0.length : Int) 0) = some r := h
 clear h
 have H' := Aside0.mk H
 clear H
 go_enter Try.func96, Try.ntmps96
 go_wp2
 repeat (go_quiet (fail); try go_wp2)
 go_loopg [3, 10] k (fun kq v3 v10 w' => ∃ (x3_1 : List (S48)) (x10_1 : Int), v10 = .int .i64 x10_1 ∧ Aside0 (spec_l11By.l0 kq x3_1 l0 (l0.length : Int) x10_1 = some r) ∧ Aside0 (kq ≤ k) ∧ Aside0 (Kd.R k48 48 w' w.heap.size (fun _ => True) v3 x3_1) ∧ Aside0 (Below w.heap.size w w'))
 case atStart => exact ⟨(([] : List (S48))), (0), lF, H', ⟨Nat.le_refl _⟩, ⟨by first | exact Kd.R_nil _ _ _ _ _ | exact Kd.N_nil _ _ _ _ _ | exact Kd.V_nil _ _ _ _ _ | exact Kd.Q_nil _ _ _ _ _ | exact Kd.S_nil _ _ _ _ _⟩, ⟨lB⟩⟩
 case round =>
  clear H'
  obtain ⟨x3_1, x10_1, rfl, HA, HK1, HO_3, HB⟩ := hrel
  cases gk with
  | zero => exact absurd HA.out (by simp [spec_l11By.l0])
  | succ k1 =>
   have H := HA.out
   clear HA
   simp only [spec_l11By.l0] at H
   by_cases c2 : x10_1 < (l0.length : Int)
   ·rw [if_pos c2] at H
    have c2b0 : decide (x10_1 < (l0.length : Int)) = true := decide_eq_true c2
    clear c2
    by_cases c3 : 0 ≤ x10_1
    ·rw [if_pos c3] at H
     have c3b0 : decide (0 ≤ x10_1) = true := decide_eq_true c3
     clear c3
     by_cases c4 : x10_1 < (l0.length : Int)
     ·rw [if_pos c4] at H
      have c4b0 : decide (x10_1 < (l0.length : Int)) = true := decide_eq_true c4
      clear c4
      have H' := Aside0.mk H
      clear H
      have p131 : 0 ≤ (x10_1 : Int) := lD
      have q131 : x10_1 < (l0.length : Int) := lD
      obtain ⟨ad131, e131, hx131_0, hx131_1, hx131_2⟩ := at_T48 HR0.out x10_1 p131 q131
      cases e131
      replace hx131_0 := pw_cell_below HB.out hx131_0
      replace hx131_1 := pw_cell_below HB.out hx131_1
      replace hx131_2 := pw_cell_below HB.out hx131_2
      replace p131 := eq_true p131
      replace q131 := eq_true q131
      go_wp2_with (first | ((with_reducible refine gate_dst (N := 5) rfl ?_); refine bxe 5 #[.int .i64 0, .int .i64 0, .int .i64 0] 48 ?_; intro gb132 hg w5 hbox hb; have n0_ := Aside0.mk (Kd.R_below (Kd.R_elderB (lR HO_3.out) gb132 (Nat.le_of_eq hg.symm)) hb); have n1_ := Aside0.mk (below_step lB hb); have n2_ := Aside0.mk (hbox); have n3_ := lG w hg; have n4_ := lG w hg; clear HO_3; clear HB; have HO_3 := n0_; have HB := n1_; have BK132 := n2_; have GW132 := n3_; have GE132 := n4_; clear n0_ n1_ n2_ n3_ n4_; clear hb hbox hg; obtain ⟨hcz6_0, hfz6_0, hcz6_1, hfz6_1, hcz6_2, hfz6_2⟩ := bk3 BK132.out))
      repeat (go_quiet (fail); try go_wp2_with (first | ((with_reducible refine gate_dst (N := 5) rfl ?_); refine bxe 5 #[.int .i64 0, .int .i64 0, .int .i64 0] 48 ?_; intro gb132 hg w5 hbox hb; have n0_ := Aside0.mk (Kd.R_below (Kd.R_elderB (lR HO_3.out) gb132 (Nat.le_of_eq hg.symm)) hb); have n1_ := Aside0.mk (below_step lB hb); have n2_ := Aside0.mk (hbox); have n3_ := lG w hg; have n4_ := lG w hg; clear HO_3; clear HB; have HO_3 := n0_; have HB := n1_; have BK132 := n2_; have GW132 := n3_; have GE132 := n4_; clear n0_ n1_ n2_ n3_ n4_; clear hb hbox hg; obtain ⟨hcz6_0, hfz6_0, hcz6_1, hfz6_1, hcz6_2, hfz6_2⟩ := bk3 BK132.out)))
      go_loopg [6] k1 (fun kq v6 w' => ∃ (x6_2 : Int), v6 = .int .i64 x6_2 ∧ Aside0 (spec_l11By.l1 kq x3_1 x6_2 l0 (l0.length : Int) x10_1 ((rd_T48 l0 x10_1).f0) ((rd_T48 l0 x10_1).f1) ((rd_T48 l0 x10_1).f2) = some r) ∧ Aside0 (kq ≤ k1) ∧ Aside0 (Kd.R k48 48 w' w.heap.size (fun k_ => k_ ≠ gb132) u3 x3_1) ∧ Aside0 (w'.heap[gb132]? = some (.cells #[.int .i64 ((rd_T48 l0 x10_1).f0), .int .i64 ((rd_T48 l0 x10_1).f1), .int .i64 ((rd_T48 l0 x10_1).f2)] 48 (0, 0))) ∧ Aside0 (Below w.heap.size w w'))
      case atStart => exact ⟨(0), lF, H', ⟨Nat.le_refl _⟩, ⟨by (with_reducible repeat (first | apply Kd.R_alloc | apply Kd.R_drewN | apply Kd.R_drew)); exact Kd.R_mono (Kd.R_far (p := ⟨gb132, 2, none⟩) (Kd.R_far (p := ⟨gb132, 1, none⟩) (Kd.R_far (p := ⟨gb132, 0, none⟩) (Kd.R_mono HO_3.out (fun k_ hk => (⟨hk, hk.2⟩ : _ ∧ k_ ≠ gb132))) (fun _ hk => hk.2) (.int .i64 ((rd_T48 l0 x10_1).f0))) (fun _ hk => hk.2) (.int .i64 ((rd_T48 l0 x10_1).f1))) (fun _ hk => hk.2) (.int .i64 ((rd_T48 l0 x10_1).f2))) (fun _ hk => hk.1.2)⟩, ⟨by (with_reducible repeat first | apply bN | apply bD | apply bA); refine blk_put (cs := #[.int .i64 ((rd_T48 l0 x10_1).f0), .int .i64 ((rd_T48 l0 x10_1).f1), .int .i64 0]) ?_ 2 _ rfl; (with_reducible repeat first | apply bN | apply bD | apply bA); refine blk_put (cs := #[.int .i64 ((rd_T48 l0 x10_1).f0), .int .i64 0, .int .i64 0]) ?_ 1 _ rfl; (with_reducible repeat first | apply bN | apply bD | apply bA); refine blk_put (cs := #[.int .i64 0, .int .i64 0, .int .i64 0]) ?_ 0 _ rfl; (with_reducible repeat first | apply bN | apply bD | apply bA); exact BK132.out⟩, ⟨lB⟩⟩
      case round =>
       clear H'
       try clear p1
       try clear q1
       try clear hx1
       try clear c2
       try clear c2b0
       try clear p2
       try clear c3
       try clear c3b0
       try clear c4
       try clear c4b0
       try clear hcz6_0 hcz6_1 hcz6_2 hfz6_0 hfz6_1 hfz6_2
       try clear hx131_0
       try clear hx131_1
       try clear hx131_2
       try clear p131
       try clear q131
       obtain ⟨x6_2, rfl, HA, HK2, HO_3, BK132, HB⟩ := hrel
       cases gk with
       | zero => exact absurd HA.out (by simp [spec_l11By.l1])
       | succ k2 =>
        have H := HA.out
        clear HA
        simp only [spec_l11By.l1] at H
        by_cases c7 : x6_2 < (x3_1.length : Int)
        ·rw [if_pos c7] at H
         have c7b0 : decide (x6_2 < (x3_1.length : Int)) = true := decide_eq_true c7
         clear c7
         by_cases c8 : 0 ≤ x6_2
         ·rw [if_pos c8] at H
          have c8b0 : decide (0 ≤ x6_2) = true := decide_eq_true c8
          clear c8
          by_cases c9 : ((rd_T48 x3_1 x6_2).f2) ≥ ((rd_T48 l0 x10_1).f2)
          ·rw [if_pos c9] at H
           have c9b0 : decide (((rd_T48 l0 x10_1).f2) ≤ ((rd_T48 x3_1 x6_2).f2)) = true := decide_eq_true c9
           clear c9
           have H' := Aside0.mk H
           clear H
           obtain ⟨Ao10, co10, eo10⟩ := Kd.R_slice HO_3.out
           subst eo10
           have p133 : 0 ≤ (x6_2 : Int) := lD
           have q133 : x6_2 < (x3_1.length : Int) := lD
           obtain ⟨ad133, e133, hx133_0, hx133_1, hx133_2⟩ := at_T48 (Kd.R_reads' HO_3.out).2.2 x6_2 p133 q133
           cases e133
           replace p133 := eq_true p133
           replace q133 := eq_true q133
           obtain ⟨hcz11_0, hfz11_0, hcz11_1, hfz11_1, hcz11_2, hfz11_2⟩ := bk3 BK132.out
           go_wp2
           repeat (go_quiet (fail); try go_wp2)
           go_roundg k2
           case measure => have := HK1.out; have := HK2.out; omega
           case rel => exact ⟨(wrap64 (x6_2 + 1)), lF, H', ⟨by have := HK1.out; have := HK2.out; omega⟩, ⟨lR HO_3.out⟩, ⟨lK BK132.out⟩, ⟨lB⟩⟩
          ·rw [if_neg c9] at H
           have c9b0 : decide (((rd_T48 l0 x10_1).f2) ≤ ((rd_T48 x3_1 x6_2).f2)) = false := decide_eq_false c9
           clear c9
           have c12b0 := eq_true (lD : 0 ≤ x6_2)
           by_cases c13 : x6_2 ≤ (x3_1.length : Int)
           ·rw [if_pos c13] at H
            have c13b0 := eq_true c13
            have c13b1 : decide (x6_2 ≤ (x3_1.length : Int)) = true := decide_eq_true c13
            clear c13
            obtain ⟨y134, hy134⟩ : ∃ y_ : List (S48), y_ = (x3_1.take (x6_2 : Int).toNat) := ⟨_, rfl⟩
            replace H : (if ([] : List (S48)).length + y134.length < 5864062014805 then ((some (([] : List (S48)) ++ y134 : List (S48))).bind fun y138 => (if y138.length < 5864062014805 then ((some (y138 ++ [(⟨((rd_T48 l0 x10_1).f0), ((rd_T48 l0 x10_1).f1), ((rd_T48 l0 x10_1).f2)⟩ : S48)] : List (S48))).bind fun y141 => ((some (x3_1.drop (x6_2 : Int).toNat : List (S48))).bind fun y144 => (if y141.length + y144.length < 5864062014805 then (spec_l11By.l0 k2 (y141 ++ y144) l0 (l0.length : Int) (wrap64 (x10_1 + 1))) else (none)))) else (none))) else (none)) = some r := by first | (rw [hy134]; with_reducible exact H) | (have H2_ := (Option.bind_some _ _).symm.trans H; rw [hy134]; with_reducible exact H2_) | (have H2_ := (Option.bind_some _ _).symm.trans H; with_reducible exact H2_) | with_reducible exact H | (rw [hy134]; exact H) | exact H
            have Ny134 := Aside0.mk hy134
            clear hy134
            by_cases c14 : ([] : List (S48)).length + y134.length < 5864062014805
            ·rw [if_pos c14] at H
             have LMc14 := Aside0.mk c14
             clear c14
             obtain ⟨y138, hy138⟩ : ∃ y_ : List (S48), y_ = (([] : List (S48)) ++ y134) := ⟨_, rfl⟩
             replace H : (if y138.length < 5864062014805 then ((some (y138 ++ [(⟨((rd_T48 l0 x10_1).f0), ((rd_T48 l0 x10_1).f1), ((rd_T48 l0 x10_1).f2)⟩ : S48)] : List (S48))).bind fun y141 => ((some (x3_1.drop (x6_2 : Int).toNat : List (S48))).bind fun y144 => (if y141.length + y144.length < 5864062014805 then (spec_l11By.l0 k2 (y141 ++ y144) l0 (l0.length : Int) (wrap64 (x10_1 + 1))) else (none)))) else (none)) = some r := by first | (rw [hy138]; with_reducible exact H) | (have H2_ := (Option.bind_some _ _).symm.trans H; rw [hy138]; with_reducible exact H2_) | (have H2_ := (Option.bind_some _ _).symm.trans H; with_reducible exact H2_) | with_reducible exact H | (rw [hy138]; exact H) | exact H
             have Ny138 := Aside0.mk hy138
             clear hy138
             by_cases c15 : y138.length < 5864062014805
             ·rw [if_pos c15] at H
              have LMc15 := Aside0.mk c15
              clear c15
              obtain ⟨y141, hy141⟩ : ∃ y_ : List (S48), y_ = (y138 ++ [(⟨((rd_T48 l0 x10_1).f0), ((rd_T48 l0 x10_1).f1), ((rd_T48 l0 x10_1).f2)⟩ : S48)]) := ⟨_, rfl⟩
              replace H : ((some (x3_1.drop (x6_2 : Int).toNat : List (S48))).bind fun y144 => (if y141.length + y144.length < 5864062014805 then (spec_l11By.l0 k2 (y141 ++ y144) l0 (l0.length : Int) (wrap64 (x10_1 + 1))) else (none))) = some r := by first | (rw [hy141]; with_reducible exact H) | (have H2_ := (Option.bind_some _ _).symm.trans H; rw [hy141]; with_reducible exact H2_) | (have H2_ := (Option.bind_some _ _).symm.trans H; with_reducible exact H2_) | with_reducible exact H | (rw [hy141]; exact H) | exact H
              have Ny141 := Aside0.mk hy141
              clear hy141
              have c16b0 := eq_true (lD : 0 ≤ x6_2)
              have c17b0 := eq_true (lD : x6_2 ≤ (x3_1.length : Int))
              obtain ⟨y144, hy144⟩ : ∃ y_ : List (S48), y_ = (x3_1.drop (x6_2 : Int).toNat) := ⟨_, rfl⟩
              replace H : (if y141.length + y144.length < 5864062014805 then (spec_l11By.l0 k2 (y141 ++ y144) l0 (l0.length : Int) (wrap64 (x10_1 + 1))) else (none)) = some r := by first | (rw [hy144]; with_reducible exact H) | (have H2_ := (Option.bind_some _ _).symm.trans H; rw [hy144]; with_reducible exact H2_) | (have H2_ := (Option.bind_some _ _).symm.trans H; with_reducible exact H2_) | with_reducible exact H | (rw [hy144]; exact H) | exact H
              have Ny144 := Aside0.mk hy144
              clear hy144
              by_cases c18 : y141.length + y144.length < 5864062014805
              ·rw [if_pos c18] at H
               have LMc18 := Aside0.mk c18
               clear c18
               obtain ⟨y148, hy148⟩ : ∃ y_ : List (S48), y_ = (y141 ++ y144) := ⟨_, rfl⟩
               replace H : (spec_l11By.l0 k2 y148 l0 (l0.length : Int) (wrap64 (x10_1 + 1))) = some r := by first | (rw [hy148]; with_reducible exact H) | (have H2_ := (Option.bind_some _ _).symm.trans H; rw [hy148]; with_reducible exact H2_) | (have H2_ := (Option.bind_some _ _).symm.trans H; with_reducible exact H2_) | with_reducible exact H | (rw [hy148]; exact H) | exact H
               have Ny148 := Aside0.mk hy148
               clear hy148
               have H' := Aside0.mk H
               clear H
               obtain ⟨Ao19, co19, eo19⟩ := Kd.R_slice HO_3.out
               subst eo19
               have p133 : 0 ≤ (x6_2 : Int) := lD
               have q133 : x6_2 < (x3_1.length : Int) := lD
               obtain ⟨ad133, e133, hx133_0, hx133_1, hx133_2⟩ := at_T48 (Kd.R_reads' HO_3.out).2.2 x6_2 p133 q133
               cases e133
               replace p133 := eq_true p133
               replace q133 := eq_true q133
               obtain ⟨hcz20_0, hfz20_0, hcz20_1, hfz20_1, hcz20_2, hfz20_2⟩ := bk3 BK132.out
               have q21 : (x6_2 : Int) ≤ ((x3_1.length : Int) : Int) := lD
               obtain ⟨i021, hi021, _, hsz21, _⟩ := info_parts info48
               have hroom21 : x3_1.length ≤ co19 := (Kd.R_reads' HO_3.out).2.1
               have hC21 : Kd.C k48 _ (some ad133) x3_1.length x3_1 := (Kd.R_reads' HO_3.out).2.2
               have hcut21 := cut_to (P := Try.prog) 27 48 .i64 Try.underlying27 hi021 (some ad133) x3_1.length co19 x6_2 (lD) q21 hroom21
               have hr21 := Kd.C_take (m := (x6_2 : Int).toNat) hC21 (by omega)
               have hy21 : y134.length = (x6_2 : Int).toNat := (by rw [Ny134.out, List.length_take]; omega)
               rw [← Ny134.out] at hr21
               rw [← hy21] at hcut21
               have HR137 := Aside0.mk hr21
               have HC137 := Aside0.mk (show y134.length ≤ co19 from by omega)
               clear hr21 hC21 hroom21 hi021 hsz21
               have KY21 := Aside0.mk hy21
               clear hy21
               have KL21 := Aside0.mk (show (x6_2 : Int).toNat ≤ x3_1.length from by omega)
               replace q21 := eq_true q21
               go_wp2_with (first | ((with_reducible refine gate_builtin (b := .append) (xs := #[.tmp 30, .tmp 33]) rfl ?_); at_builtin; refine Kd.R_append_rows k48 (w0 := w) w.heap.size rfl (.tmp 30) (.tmp 33) 27 48 (.agg #[(.int .i64 0), (.int .i64 0), (.int .i64 0)]) 24 rfl Try.underlying27 info48 rfl (by decide) (by omega) (.slice none 0 0) ([] : List (S48)) y134 _ _ _ (fun k_ => some k_ ≠ (.slice (some ad133) x3_1.length co19 : Value).ownBlock ∧ k_ ≠ gb132) (fun _ => False) rfl rfl ?aO ?aR (fun _ _ h => h) (fun _ h => h.elim) ?aF ?aB ?aS ?aL ?_; (case aR => repeat (first | exact (by repeat (first | (with_reducible exact HR137.out) | (with_reducible refine Kd.C_alloc ?_ _) | (with_reducible refine Kd.C_drewN ?_ _) | (with_reducible refine Kd.C_drew ?_) | exact HR137.out)) | (with_reducible refine Kd.C_alloc ?_ _) | (with_reducible refine Kd.C_drewN ?_ _) | (with_reducible refine Kd.C_drew ?_))); (case aB => exact lB); (case aF => exact (fun k_ hk => ⟨Kd.fresh' (Kd.R_lt (lR HO_3.out)) k_ hk, Kd.freshB (lK BK132.out) k_ hk⟩)); (case aO => exact ((Kd.R_nil _ _ _ _ (fun k_ => some k_ ≠ (.slice (some ad133) x3_1.length co19 : Value).ownBlock ∧ k_ ≠ gb132)))); (case aS => exact (below_size lB)); (case aL => have := LMc14.out; omega); intro v139 w22 ho hb hg hat; rw [← Ny138.out] at ho; have n0_ := Aside0.mk (Kd.R_after (Kd.R_apart_nil (lR HO_3.out)) hg hat); have n1_ := Aside0.mk (blk_grown (lK BK132.out) hg (by simp [Value.ownBlock])); have n2_ := Aside0.mk (hb); have n3_ := Aside0.mk ((show Kd.C k48 w22 (some ad133) y134.length y134 from by rw [Ny134.out]; exact Kd.C_take (m := (x6_2 : Int).toNat) ((Kd.R_reads' (Kd.R_after (Kd.R_apart_nil (lR HO_3.out)) hg hat)).2.2) KL21.out)); have n4_ := Aside0.mk (ho); clear HO_3; clear BK132; clear HB; clear HR137; have HO_3 := n0_; have BK132 := n1_; have HB := n2_; have HR137 := n3_; have HO140 := n4_; clear n0_ n1_ n2_ n3_ n4_; clear ho hb hg hat; obtain ⟨hcz23_0, hfz23_0, hcz23_1, hfz23_1, hcz23_2, hfz23_2⟩ := bk3 BK132.out) | ((with_reducible refine gate_builtin (b := .append) (xs := #[.tmp 35, .tmp 37]) rfl ?_); at_builtin; refine Kd.R_append k48 (w0 := w) w.heap.size rfl (.tmp 35) (.tmp 37) 27 48 (.agg #[(.int .i64 0), (.int .i64 0), (.int .i64 0)]) 24 rfl Try.underlying27 info48 rfl (by decide) (by omega) v139 y138 (⟨((rd_T48 l0 x10_1).f0), ((rd_T48 l0 x10_1).f1), ((rd_T48 l0 x10_1).f2)⟩ : S48) [.int .i64 ((rd_T48 l0 x10_1).f0), .int .i64 ((rd_T48 l0 x10_1).f1), .int .i64 ((rd_T48 l0 x10_1).f2)] (fun k_ => some k_ ≠ (.slice (some ad133) x3_1.length co19 : Value).ownBlock ∧ k_ ≠ gb132) (fun _ => False) rfl rfl ?aP (fun _ hk => hk.elim) ?aF ?aO ?aB ?aS ?aL ?_; (case aP => exact k48_mkM _ _ _ (⟨((rd_T48 l0 x10_1).f0), ((rd_T48 l0 x10_1).f1), ((rd_T48 l0 x10_1).f2)⟩ : S48)); (case aB => exact lB); (case aF => exact (fun k_ hk => ⟨Kd.fresh' (Kd.R_lt (lR HO_3.out)) k_ hk, Kd.freshB (lK BK132.out) k_ hk⟩)); (case aO => exact (lR HO140.out)); (case aS => exact (below_size lB)); (case aL => have := LMc15.out; omega); intro v142 w24 ho hb hg hat; rw [← Ny141.out] at ho; have n0_ := Aside0.mk (Kd.R_after (ok := (fun k_ => k_ ≠ gb132)) (lR HO_3.out) hg hat); have n1_ := Aside0.mk (blk_grown (lK BK132.out) hg (Kd.R_away HO140.out (fun _ hk => hk.2))); have n2_ := Aside0.mk (hb); have n3_ := Aside0.mk ((show Kd.C k48 w24 (some ad133) y134.length y134 from by rw [Ny134.out]; exact Kd.C_take (m := (x6_2 : Int).toNat) ((Kd.R_reads' (Kd.R_after (ok := (fun k_ => k_ ≠ gb132)) (lR HO_3.out) hg hat)).2.2) KL21.out)); have n4_ := Aside0.mk (ho); clear HO_3; clear BK132; clear HB; clear HR137; clear HO140; have HO_3 := n0_; have BK132 := n1_; have HB := n2_; have HR137 := n3_; have HO143 := n4_; clear n0_ n1_ n2_ n3_ n4_; clear ho hb hg hat; have q25 : (x6_2 : Int) ≤ ((x3_1.length : Int) : Int) := lD; obtain ⟨i025, hi025, _, hsz25, _⟩ := info_parts info48; have hroom25 : x3_1.length ≤ co19 := (Kd.R_reads' HO_3.out).2.1; have hC25 : Kd.C k48 _ (some ad133) x3_1.length x3_1 := (Kd.R_reads' HO_3.out).2.2; have q025 : (0 : Int) ≤ (x6_2 : Int) := lD; have hcut25 := cut_from (P := Try.prog) 27 48 .i64 Try.underlying27 hi025 3 hsz25 (some ad133) x3_1.length co19 x6_2 q025 q25; have hr25 := Kd.C_drop (m := (x6_2 : Int).toNat) (c := co19) hC25 (by omega) hroom25; obtain ⟨A25, hA25⟩ : ∃ A1, A1 = (if co19 = (x6_2 : Int).toNat then (some ad133) else ((some ad133) : Option Addr).map (·.add ((x6_2 : Int).toNat * 3))) := ⟨_, rfl⟩; obtain ⟨c25, hc25⟩ : ∃ c1, c1 = co19 - (x6_2 : Int).toNat := ⟨_, rfl⟩; have hy25 : y144.length = x3_1.length - (x6_2 : Int).toNat := (by rw [Ny144.out, List.length_drop] <;> omega); rw [show (x3_1).drop (x6_2 : Int).toNat = y144 from Ny144.out.symm] at hr25; replace hr25 : Kd.C k48 _ A25 y144.length y144 := (by rw [hA25]; exact hr25); rw [← hy25, ← hA25, ← hc25] at hcut25; have HR147 := Aside0.mk hr25; have HC147 := Aside0.mk (show y144.length ≤ c25 from by rw [hy25, hc25]; exact Nat.sub_le_sub_right hroom25 _); clear hr25 hC25 hroom25 hi025 hsz25 hc25; have KY25 := Aside0.mk hy25; have KA25 := Aside0.mk hA25; clear hy25 hA25; have KL25 := Aside0.mk (show (x6_2 : Int).toNat ≤ x3_1.length from by omega); replace q25 := eq_true q25) | ((with_reducible refine gate_builtin (b := .append) (xs := #[.tmp 39, .tmp 42]) rfl ?_); at_builtin; refine Kd.R_append_rows k48 (w0 := w) w.heap.size rfl (.tmp 39) (.tmp 42) 27 48 (.agg #[(.int .i64 0), (.int .i64 0), (.int .i64 0)]) 24 rfl Try.underlying27 info48 rfl (by decide) (by omega) v142 y141 y144 _ _ _ (fun k_ => some k_ ≠ (.slice (some ad133) x3_1.length co19 : Value).ownBlock ∧ k_ ≠ gb132) (fun _ => False) rfl rfl ?aO ?aR (fun _ _ h => h) (fun _ h => h.elim) ?aF ?aB ?aS ?aL ?_; (case aR => repeat (first | exact (by repeat (first | (with_reducible exact HR147.out) | (with_reducible refine Kd.C_alloc ?_ _) | (with_reducible refine Kd.C_drewN ?_ _) | (with_reducible refine Kd.C_drew ?_) | exact HR147.out)) | (with_reducible refine Kd.C_alloc ?_ _) | (with_reducible refine Kd.C_drewN ?_ _) | (with_reducible refine Kd.C_drew ?_))); (case aB => exact lB); (case aF => exact (fun k_ hk => ⟨Kd.fresh' (Kd.R_lt (lR HO_3.out)) k_ hk, Kd.freshB (lK BK132.out) k_ hk⟩)); (case aO => exact (lR HO143.out)); (case aS => exact (below_size lB)); (case aL => have := LMc18.out; omega); intro v149 w26 ho hb hg hat; rw [← Ny148.out] at ho; have n0_ := Aside0.mk (Kd.R_after (ok := (fun k_ => k_ ≠ gb132)) (lR HO_3.out) hg hat); have n1_ := Aside0.mk (blk_grown (lK BK132.out) hg (Kd.R_away HO143.out (fun _ hk => hk.2))); have n2_ := Aside0.mk (hb); have n3_ := Aside0.mk ((show Kd.C k48 w26 (some ad133) y134.length y134 from by rw [Ny134.out]; exact Kd.C_take (m := (x6_2 : Int).toNat) ((Kd.R_reads' (Kd.R_after (ok := (fun k_ => k_ ≠ gb132)) (lR HO_3.out) hg hat)).2.2) KL21.out)); have n4_ := Aside0.mk ((show Kd.C k48 w26 A25 y144.length y144 from by rw [Ny144.out, KA25.out]; exact Kd.C_drop (m := (x6_2 : Int).toNat) (c := co19) ((Kd.R_reads' (Kd.R_after (ok := (fun k_ => k_ ≠ gb132)) (lR HO_3.out) hg hat)).2.2) KL25.out ((Kd.R_reads' (Kd.R_after (ok := (fun k_ => k_ ≠ gb132)) (lR HO_3.out) hg hat)).2.1))); have n5_ := Aside0.mk (ho); clear HO_3; clear BK132; clear HB; clear HR137; clear HR147; clear HO143; have HO_3 := n0_; have BK132 := n1_; have HB := n2_; have HR137 := n3_; have HR147 := n4_; have HO150 := n5_; clear n0_ n1_ n2_ n3_ n4_ n5_; clear ho hb hg hat))
               repeat (go_quiet (fail); try go_wp2_with (first | ((with_reducible refine gate_builtin (b := .append) (xs := #[.tmp 30, .tmp 33]) rfl ?_); at_builtin; refine Kd.R_append_rows k48 (w0 := w) w.heap.size rfl (.tmp 30) (.tmp 33) 27 48 (.agg #[(.int .i64 0), (.int .i64 0), (.int .i64 0)]) 24 rfl Try.underlying27 info48 rfl (by decide) (by omega) (.slice none 0 0) ([] : List (S48)) y134 _ _ _ (fun k_ => some k_ ≠ (.slice (some ad133) x3_1.length co19 : Value).ownBlock ∧ k_ ≠ gb132) (fun _ => False) rfl rfl ?aO ?aR (fun _ _ h => h) (fun _ h => h.elim) ?aF ?aB ?aS ?aL ?_; (case aR => repeat (first | exact (by repeat (first | (with_reducible exact HR137.out) | (with_reducible refine Kd.C_alloc ?_ _) | (with_reducible refine Kd.C_drewN ?_ _) | (with_reducible refine Kd.C_drew ?_) | exact HR137.out)) | (with_reducible refine Kd.C_alloc ?_ _) | (with_reducible refine Kd.C_drewN ?_ _) | (with_reducible refine Kd.C_drew ?_))); (case aB => exact lB); (case aF => exact (fun k_ hk => ⟨Kd.fresh' (Kd.R_lt (lR HO_3.out)) k_ hk, Kd.freshB (lK BK132.out) k_ hk⟩)); (case aO => exact ((Kd.R_nil _ _ _ _ (fun k_ => some k_ ≠ (.slice (some ad133) x3_1.length co19 : Value).ownBlock ∧ k_ ≠ gb132)))); (case aS => exact (below_size lB)); (case aL => have := LMc14.out; omega); intro v139 w22 ho hb hg hat; rw [← Ny138.out] at ho; have n0_ := Aside0.mk (Kd.R_after (Kd.R_apart_nil (lR HO_3.out)) hg hat); have n1_ := Aside0.mk (blk_grown (lK BK132.out) hg (by simp [Value.ownBlock])); have n2_ := Aside0.mk (hb); have n3_ := Aside0.mk ((show Kd.C k48 w22 (some ad133) y134.length y134 from by rw [Ny134.out]; exact Kd.C_take (m := (x6_2 : Int).toNat) ((Kd.R_reads' (Kd.R_after (Kd.R_apart_nil (lR HO_3.out)) hg hat)).2.2) KL21.out)); have n4_ := Aside0.mk (ho); clear HO_3; clear BK132; clear HB; clear HR137; have HO_3 := n0_; have BK132 := n1_; have HB := n2_; have HR137 := n3_; have HO140 := n4_; clear n0_ n1_ n2_ n3_ n4_; clear ho hb hg hat; obtain ⟨hcz23_0, hfz23_0, hcz23_1, hfz23_1, hcz23_2, hfz23_2⟩ := bk3 BK132.out) | ((with_reducible refine gate_builtin (b := .append) (xs := #[.tmp 35, .tmp 37]) rfl ?_); at_builtin; refine Kd.R_append k48 (w0 := w) w.heap.size rfl (.tmp 35) (.tmp 37) 27 48 (.agg #[(.int .i64 0), (.int .i64 0), (.int .i64 0)]) 24 rfl Try.underlying27 info48 rfl (by decide) (by omega) v139 y138 (⟨((rd_T48 l0 x10_1).f0), ((rd_T48 l0 x10_1).f1), ((rd_T48 l0 x10_1).f2)⟩ : S48) [.int .i64 ((rd_T48 l0 x10_1).f0), .int .i64 ((rd_T48 l0 x10_1).f1), .int .i64 ((rd_T48 l0 x10_1).f2)] (fun k_ => some k_ ≠ (.slice (some ad133) x3_1.length co19 : Value).ownBlock ∧ k_ ≠ gb132) (fun _ => False) rfl rfl ?aP (fun _ hk => hk.elim) ?aF ?aO ?aB ?aS ?aL ?_; (case aP => exact k48_mkM _ _ _ (⟨((rd_T48 l0 x10_1).f0), ((rd_T48 l0 x10_1).f1), ((rd_T48 l0 x10_1).f2)⟩ : S48)); (case aB => exact lB); (case aF => exact (fun k_ hk => ⟨Kd.fresh' (Kd.R_lt (lR HO_3.out)) k_ hk, Kd.freshB (lK BK132.out) k_ hk⟩)); (case aO => exact (lR HO140.out)); (case aS => exact (below_size lB)); (case aL => have := LMc15.out; omega); intro v142 w24 ho hb hg hat; rw [← Ny141.out] at ho; have n0_ := Aside0.mk (Kd.R_after (ok := (fun k_ => k_ ≠ gb132)) (lR HO_3.out) hg hat); have n1_ := Aside0.mk (blk_grown (lK BK132.out) hg (Kd.R_away HO140.out (fun _ hk => hk.2))); have n2_ := Aside0.mk (hb); have n3_ := Aside0.mk ((show Kd.C k48 w24 (some ad133) y134.length y134 from by rw [Ny134.out]; exact Kd.C_take (m := (x6_2 : Int).toNat) ((Kd.R_reads' (Kd.R_after (ok := (fun k_ => k_ ≠ gb132)) (lR HO_3.out) hg hat)).2.2) KL21.out)); have n4_ := Aside0.mk (ho); clear HO_3; clear BK132; clear HB; clear HR137; clear HO140; have HO_3 := n0_; have BK132 := n1_; have HB := n2_; have HR137 := n3_; have HO143 := n4_; clear n0_ n1_ n2_ n3_ n4_; clear ho hb hg hat; have q25 : (x6_2 : Int) ≤ ((x3_1.length : Int) : Int) := lD; obtain ⟨i025, hi025, _, hsz25, _⟩ := info_parts info48; have hroom25 : x3_1.length ≤ co19 := (Kd.R_reads' HO_3.out).2.1; have hC25 : Kd.C k48 _ (some ad133) x3_1.length x3_1 := (Kd.R_reads' HO_3.out).2.2; have q025 : (0 : Int) ≤ (x6_2 : Int) := lD; have hcut25 := cut_from (P := Try.prog) 27 48 .i64 Try.underlying27 hi025 3 hsz25 (some ad133) x3_1.length co19 x6_2 q025 q25; have hr25 := Kd.C_drop (m := (x6_2 : Int).toNat) (c := co19) hC25 (by omega) hroom25; obtain ⟨A25, hA25⟩ : ∃ A1, A1 = (if co19 = (x6_2 : Int).toNat then (some ad133) else ((some ad133) : Option Addr).map (·.add ((x6_2 : Int).toNat * 3))) := ⟨_, rfl⟩; obtain ⟨c25, hc25⟩ : ∃ c1, c1 = co19 - (x6_2 : Int).toNat := ⟨_, rfl⟩; have hy25 : y144.length = x3_1.length - (x6_2 : Int).toNat := (by rw [Ny144.out, List.length_drop] <;> omega); rw [show (x3_1).drop (x6_2 : Int).toNat = y144 from Ny144.out.symm] at hr25; replace hr25 : Kd.C k48 _ A25 y144.length y144 := (by rw [hA25]; exact hr25); rw [← hy25, ← hA25, ← hc25] at hcut25; have HR147 := Aside0.mk hr25; have HC147 := Aside0.mk (show y144.length ≤ c25 from by rw [hy25, hc25]; exact Nat.sub_le_sub_right hroom25 _); clear hr25 hC25 hroom25 hi025 hsz25 hc25; have KY25 := Aside0.mk hy25; have KA25 := Aside0.mk hA25; clear hy25 hA25; have KL25 := Aside0.mk (show (x6_2 : Int).toNat ≤ x3_1.length from by omega); replace q25 := eq_true q25) | ((with_reducible refine gate_builtin (b := .append) (xs := #[.tmp 39, .tmp 42]) rfl ?_); at_builtin; refine Kd.R_append_rows k48 (w0 := w) w.heap.size rfl (.tmp 39) (.tmp 42) 27 48 (.agg #[(.int .i64 0), (.int .i64 0), (.int .i64 0)]) 24 rfl Try.underlying27 info48 rfl (by decide) (by omega) v142 y141 y144 _ _ _ (fun k_ => some k_ ≠ (.slice (some ad133) x3_1.length co19 : Value).ownBlock ∧ k_ ≠ gb132) (fun _ => False) rfl rfl ?aO ?aR (fun _ _ h => h) (fun _ h => h.elim) ?aF ?aB ?aS ?aL ?_; (case aR => repeat (first | exact (by repeat (first | (with_reducible exact HR147.out) | (with_reducible refine Kd.C_alloc ?_ _) | (with_reducible refine Kd.C_drewN ?_ _) | (with_reducible refine Kd.C_drew ?_) | exact HR147.out)) | (with_reducible refine Kd.C_alloc ?_ _) | (with_reducible refine Kd.C_drewN ?_ _) | (with_reducible refine Kd.C_drew ?_))); (case aB => exact lB); (case aF => exact (fun k_ hk => ⟨Kd.fresh' (Kd.R_lt (lR HO_3.out)) k_ hk, Kd.freshB (lK BK132.out) k_ hk⟩)); (case aO => exact (lR HO143.out)); (case aS => exact (below_size lB)); (case aL => have := LMc18.out; omega); intro v149 w26 ho hb hg hat; rw [← Ny148.out] at ho; have n0_ := Aside0.mk (Kd.R_after (ok := (fun k_ => k_ ≠ gb132)) (lR HO_3.out) hg hat); have n1_ := Aside0.mk (blk_grown (lK BK132.out) hg (Kd.R_away HO143.out (fun _ hk => hk.2))); have n2_ := Aside0.mk (hb); have n3_ := Aside0.mk ((show Kd.C k48 w26 (some ad133) y134.length y134 from by rw [Ny134.out]; exact Kd.C_take (m := (x6_2 : Int).toNat) ((Kd.R_reads' (Kd.R_after (ok := (fun k_ => k_ ≠ gb132)) (lR HO_3.out) hg hat)).2.2) KL21.out)); have n4_ := Aside0.mk ((show Kd.C k48 w26 A25 y144.length y144 from by rw [Ny144.out, KA25.out]; exact Kd.C_drop (m := (x6_2 : Int).toNat) (c := co19) ((Kd.R_reads' (Kd.R_after (ok := (fun k_ => k_ ≠ gb132)) (lR HO_3.out) hg hat)).2.2) KL25.out ((Kd.R_reads' (Kd.R_after (ok := (fun k_ => k_ ≠ gb132)) (lR HO_3.out) hg hat)).2.1))); have n5_ := Aside0.mk (ho); clear HO_3; clear BK132; clear HB; clear HR137; clear HR147; clear HO143; have HO_3 := n0_; have BK132 := n1_; have HB := n2_; have HR137 := n3_; have HR147 := n4_; have HO150 := n5_; clear n0_ n1_ n2_ n3_ n4_ n5_; clear ho hb hg hat)))
               go_roundg k2
               case measure => have := HK1.out; have := HK2.out; omega
               case rel => exact ⟨(y148), (wrap64 (x10_1 + 1)), lF, H', ⟨by have := HK1.out; have := HK2.out; omega⟩, ⟨by (with_reducible repeat (first | apply Kd.R_alloc | apply Kd.R_drewN | apply Kd.R_drew)); exact Kd.R_mono HO150.out (fun _ hk => trivial)⟩, ⟨lB⟩⟩
              ·rw [if_neg c18] at H
               exact absurd H (by simp)
             ·rw [if_neg c15] at H
              exact absurd H (by simp)
            ·rw [if_neg c14] at H
             exact absurd H (by simp)
           ·rw [if_neg c13] at H
            exact absurd H (by simp)
         ·rw [if_neg c8] at H
          exact absurd H (by simp)
        ·rw [if_neg c7] at H
         have c7b0 : decide (x6_2 < (x3_1.length : Int)) = false := decide_eq_false c7
         clear c7
         by_cases c27 : 0 ≤ x6_2
         ·rw [if_pos c27] at H
          have c27b0 := eq_true c27
          have c27b1 : decide (0 ≤ x6_2) = true := decide_eq_true c27
          clear c27
          by_cases c28 : x6_2 ≤ (x3_1.length : Int)
          ·rw [if_pos c28] at H
           have c28b0 := eq_true c28
           have c28b1 : decide (x6_2 ≤ (x3_1.length : Int)) = true := decide_eq_true c28
           clear c28
           obtain ⟨y151, hy151⟩ : ∃ y_ : List (S48), y_ = (x3_1.take (x6_2 : Int).toNat) := ⟨_, rfl⟩
           replace H : (if ([] : List (S48)).length + y151.length < 5864062014805 then ((some (([] : List (S48)) ++ y151 : List (S48))).bind fun y155 => (if y155.length < 5864062014805 then ((some (y155 ++ [(⟨((rd_T48 l0 x10_1).f0), ((rd_T48 l0 x10_1).f1), ((rd_T48 l0 x10_1).f2)⟩ : S48)] : List (S48))).bind fun y158 => ((some (x3_1.drop (x6_2 : Int).toNat : List (S48))).bind fun y161 => (if y158.length + y161.length < 5864062014805 then (spec_l11By.l0 k2 (y158 ++ y161) l0 (l0.length : Int) (wrap64 (x10_1 + 1))) else (none)))) else (none))) else (none)) = some r := by first | (rw [hy151]; with_reducible exact H) | (have H2_ := (Option.bind_some _ _).symm.trans H; rw [hy151]; with_reducible exact H2_) | (have H2_ := (Option.bind_some _ _).symm.trans H; with_reducible exact H2_) | with_reducible exact H | (rw [hy151]; exact H) | exact H
           have Ny151 := Aside0.mk hy151
           clear hy151
           by_cases c29 : ([] : List (S48)).length + y151.length < 5864062014805
           ·rw [if_pos c29] at H
            have LMc29 := Aside0.mk c29
            clear c29
            obtain ⟨y155, hy155⟩ : ∃ y_ : List (S48), y_ = (([] : List (S48)) ++ y151) := ⟨_, rfl⟩
            replace H : (if y155.length < 5864062014805 then ((some (y155 ++ [(⟨((rd_T48 l0 x10_1).f0), ((rd_T48 l0 x10_1).f1), ((rd_T48 l0 x10_1).f2)⟩ : S48)] : List (S48))).bind fun y158 => ((some (x3_1.drop (x6_2 : Int).toNat : List (S48))).bind fun y161 => (if y158.length + y161.length < 5864062014805 then (spec_l11By.l0 k2 (y158 ++ y161) l0 (l0.length : Int) (wrap64 (x10_1 + 1))) else (none)))) else (none)) = some r := by first | (rw [hy155]; with_reducible exact H) | (have H2_ := (Option.bind_some _ _).symm.trans H; rw [hy155]; with_reducible exact H2_) | (have H2_ := (Option.bind_some _ _).symm.trans H; with_reducible exact H2_) | with_reducible exact H | (rw [hy155]; exact H) | exact H
            have Ny155 := Aside0.mk hy155
            clear hy155
            by_cases c30 : y155.length < 5864062014805
            ·rw [if_pos c30] at H
             have LMc30 := Aside0.mk c30
             clear c30
             obtain ⟨y158, hy158⟩ : ∃ y_ : List (S48), y_ = (y155 ++ [(⟨((rd_T48 l0 x10_1).f0), ((rd_T48 l0 x10_1).f1), ((rd_T48 l0 x10_1).f2)⟩ : S48)]) := ⟨_, rfl⟩
             replace H : ((some (x3_1.drop (x6_2 : Int).toNat : List (S48))).bind fun y161 => (if y158.length + y161.length < 5864062014805 then (spec_l11By.l0 k2 (y158 ++ y161) l0 (l0.length : Int) (wrap64 (x10_1 + 1))) else (none))) = some r := by first | (rw [hy158]; with_reducible exact H) | (have H2_ := (Option.bind_some _ _).symm.trans H; rw [hy158]; with_reducible exact H2_) | (have H2_ := (Option.bind_some _ _).symm.trans H; with_reducible exact H2_) | with_reducible exact H | (rw [hy158]; exact H) | exact H
             have Ny158 := Aside0.mk hy158
             clear hy158
             have c31b0 := eq_true (lD : 0 ≤ x6_2)
             have c32b0 := eq_true (lD : x6_2 ≤ (x3_1.length : Int))
             obtain ⟨y161, hy161⟩ : ∃ y_ : List (S48), y_ = (x3_1.drop (x6_2 : Int).toNat) := ⟨_, rfl⟩
             replace H : (if y158.length + y161.length < 5864062014805 then (spec_l11By.l0 k2 (y158 ++ y161) l0 (l0.length : Int) (wrap64 (x10_1 + 1))) else (none)) = some r := by first | (rw [hy161]; with_reducible exact H) | (have H2_ := (Option.bind_some _ _).symm.trans H; rw [hy161]; with_reducible exact H2_) | (have H2_ := (Option.bind_some _ _).symm.trans H; with_reducible exact H2_) | with_reducible exact H | (rw [hy161]; exact H) | exact H
             have Ny161 := Aside0.mk hy161
             clear hy161
             by_cases c33 : y158.length + y161.length < 5864062014805
             ·rw [if_pos c33] at H
              have LMc33 := Aside0.mk c33
              clear c33
              obtain ⟨y165, hy165⟩ : ∃ y_ : List (S48), y_ = (y158 ++ y161) := ⟨_, rfl⟩
              replace H : (spec_l11By.l0 k2 y165 l0 (l0.length : Int) (wrap64 (x10_1 + 1))) = some r := by first | (rw [hy165]; with_reducible exact H) | (have H2_ := (Option.bind_some _ _).symm.trans H; rw [hy165]; with_reducible exact H2_) | (have H2_ := (Option.bind_some _ _).symm.trans H; with_reducible exact H2_) | with_reducible exact H | (rw [hy165]; exact H) | exact H
              have Ny165 := Aside0.mk hy165
              clear hy165
              have H' := Aside0.mk H
              clear H
              obtain ⟨Ao34, co34, eo34⟩ := Kd.R_slice HO_3.out
              subst eo34
              have q35 : (x6_2 : Int) ≤ ((x3_1.length : Int) : Int) := lD
              obtain ⟨i035, hi035, _, hsz35, _⟩ := info_parts info48
              have hroom35 : x3_1.length ≤ co34 := (Kd.R_reads' HO_3.out).2.1
              have hC35 : Kd.C k48 _ Ao34 x3_1.length x3_1 := (Kd.R_reads' HO_3.out).2.2
              have hcut35 := cut_to (P := Try.prog) 27 48 .i64 Try.underlying27 hi035 Ao34 x3_1.length co34 x6_2 (lD) q35 hroom35
              have hr35 := Kd.C_take (m := (x6_2 : Int).toNat) hC35 (by omega)
              have hy35 : y151.length = (x6_2 : Int).toNat := (by rw [Ny151.out, List.length_take]; omega)
              rw [← Ny151.out] at hr35
              rw [← hy35] at hcut35
              have HR154 := Aside0.mk hr35
              have HC154 := Aside0.mk (show y151.length ≤ co34 from by omega)
              clear hr35 hC35 hroom35 hi035 hsz35
              have KY35 := Aside0.mk hy35
              clear hy35
              have KL35 := Aside0.mk (show (x6_2 : Int).toNat ≤ x3_1.length from by omega)
              replace q35 := eq_true q35
              go_wp2_with (first | ((with_reducible refine gate_builtin (b := .append) (xs := #[.tmp 30, .tmp 33]) rfl ?_); at_builtin; refine Kd.R_append_rows k48 (w0 := w) w.heap.size rfl (.tmp 30) (.tmp 33) 27 48 (.agg #[(.int .i64 0), (.int .i64 0), (.int .i64 0)]) 24 rfl Try.underlying27 info48 rfl (by decide) (by omega) (.slice none 0 0) ([] : List (S48)) y151 _ _ _ (fun k_ => some k_ ≠ (.slice Ao34 x3_1.length co34 : Value).ownBlock ∧ k_ ≠ gb132) (fun _ => False) rfl rfl ?aO ?aR (fun _ _ h => h) (fun _ h => h.elim) ?aF ?aB ?aS ?aL ?_; (case aR => repeat (first | exact (by repeat (first | (with_reducible exact HR154.out) | (with_reducible refine Kd.C_alloc ?_ _) | (with_reducible refine Kd.C_drewN ?_ _) | (with_reducible refine Kd.C_drew ?_) | exact HR154.out)) | (with_reducible refine Kd.C_alloc ?_ _) | (with_reducible refine Kd.C_drewN ?_ _) | (with_reducible refine Kd.C_drew ?_))); (case aB => exact lB); (case aF => exact (fun k_ hk => ⟨Kd.fresh' (Kd.R_lt (lR HO_3.out)) k_ hk, Kd.freshB (lK BK132.out) k_ hk⟩)); (case aO => exact ((Kd.R_nil _ _ _ _ (fun k_ => some k_ ≠ (.slice Ao34 x3_1.length co34 : Value).ownBlock ∧ k_ ≠ gb132)))); (case aS => exact (below_size lB)); (case aL => have := LMc29.out; omega); intro v156 w36 ho hb hg hat; rw [← Ny155.out] at ho; have n0_ := Aside0.mk (Kd.R_after (Kd.R_apart_nil (lR HO_3.out)) hg hat); have n1_ := Aside0.mk (blk_grown (lK BK132.out) hg (by simp [Value.ownBlock])); have n2_ := Aside0.mk (hb); have n3_ := Aside0.mk ((show Kd.C k48 w36 Ao34 y151.length y151 from by rw [Ny151.out]; exact Kd.C_take (m := (x6_2 : Int).toNat) ((Kd.R_reads' (Kd.R_after (Kd.R_apart_nil (lR HO_3.out)) hg hat)).2.2) KL35.out)); have n4_ := Aside0.mk (ho); clear HO_3; clear BK132; clear HB; clear HR154; have HO_3 := n0_; have BK132 := n1_; have HB := n2_; have HR154 := n3_; have HO157 := n4_; clear n0_ n1_ n2_ n3_ n4_; clear ho hb hg hat; obtain ⟨hcz37_0, hfz37_0, hcz37_1, hfz37_1, hcz37_2, hfz37_2⟩ := bk3 BK132.out) | ((with_reducible refine gate_builtin (b := .append) (xs := #[.tmp 35, .tmp 37]) rfl ?_); at_builtin; refine Kd.R_append k48 (w0 := w) w.heap.size rfl (.tmp 35) (.tmp 37) 27 48 (.agg #[(.int .i64 0), (.int .i64 0), (.int .i64 0)]) 24 rfl Try.underlying27 info48 rfl (by decide) (by omega) v156 y155 (⟨((rd_T48 l0 x10_1).f0), ((rd_T48 l0 x10_1).f1), ((rd_T48 l0 x10_1).f2)⟩ : S48) [.int .i64 ((rd_T48 l0 x10_1).f0), .int .i64 ((rd_T48 l0 x10_1).f1), .int .i64 ((rd_T48 l0 x10_1).f2)] (fun k_ => some k_ ≠ (.slice Ao34 x3_1.length co34 : Value).ownBlock ∧ k_ ≠ gb132) (fun _ => False) rfl rfl ?aP (fun _ hk => hk.elim) ?aF ?aO ?aB ?aS ?aL ?_; (case aP => exact k48_mkM _ _ _ (⟨((rd_T48 l0 x10_1).f0), ((rd_T48 l0 x10_1).f1), ((rd_T48 l0 x10_1).f2)⟩ : S48)); (case aB => exact lB); (case aF => exact (fun k_ hk => ⟨Kd.fresh' (Kd.R_lt (lR HO_3.out)) k_ hk, Kd.freshB (lK BK132.out) k_ hk⟩)); (case aO => exact (lR HO157.out)); (case aS => exact (below_size lB)); (case aL => have := LMc30.out; omega); intro v159 w38 ho hb hg hat; rw [← Ny158.out] at ho; have n0_ := Aside0.mk (Kd.R_after (ok := (fun k_ => k_ ≠ gb132)) (lR HO_3.out) hg hat); have n1_ := Aside0.mk (blk_grown (lK BK132.out) hg (Kd.R_away HO157.out (fun _ hk => hk.2))); have n2_ := Aside0.mk (hb); have n3_ := Aside0.mk ((show Kd.C k48 w38 Ao34 y151.length y151 from by rw [Ny151.out]; exact Kd.C_take (m := (x6_2 : Int).toNat) ((Kd.R_reads' (Kd.R_after (ok := (fun k_ => k_ ≠ gb132)) (lR HO_3.out) hg hat)).2.2) KL35.out)); have n4_ := Aside0.mk (ho); clear HO_3; clear BK132; clear HB; clear HR154; clear HO157; have HO_3 := n0_; have BK132 := n1_; have HB := n2_; have HR154 := n3_; have HO160 := n4_; clear n0_ n1_ n2_ n3_ n4_; clear ho hb hg hat; have q39 : (x6_2 : Int) ≤ ((x3_1.length : Int) : Int) := lD; obtain ⟨i039, hi039, _, hsz39, _⟩ := info_parts info48; have hroom39 : x3_1.length ≤ co34 := (Kd.R_reads' HO_3.out).2.1; have hC39 : Kd.C k48 _ Ao34 x3_1.length x3_1 := (Kd.R_reads' HO_3.out).2.2; have q039 : (0 : Int) ≤ (x6_2 : Int) := lD; have hcut39 := cut_from (P := Try.prog) 27 48 .i64 Try.underlying27 hi039 3 hsz39 Ao34 x3_1.length co34 x6_2 q039 q39; have hr39 := Kd.C_drop (m := (x6_2 : Int).toNat) (c := co34) hC39 (by omega) hroom39; obtain ⟨A39, hA39⟩ : ∃ A1, A1 = (if co34 = (x6_2 : Int).toNat then Ao34 else (Ao34 : Option Addr).map (·.add ((x6_2 : Int).toNat * 3))) := ⟨_, rfl⟩; obtain ⟨c39, hc39⟩ : ∃ c1, c1 = co34 - (x6_2 : Int).toNat := ⟨_, rfl⟩; have hy39 : y161.length = x3_1.length - (x6_2 : Int).toNat := (by rw [Ny161.out, List.length_drop] <;> omega); rw [show (x3_1).drop (x6_2 : Int).toNat = y161 from Ny161.out.symm] at hr39; replace hr39 : Kd.C k48 _ A39 y161.length y161 := (by rw [hA39]; exact hr39); rw [← hy39, ← hA39, ← hc39] at hcut39; have HR164 := Aside0.mk hr39; have HC164 := Aside0.mk (show y161.length ≤ c39 from by rw [hy39, hc39]; exact Nat.sub_le_sub_right hroom39 _); clear hr39 hC39 hroom39 hi039 hsz39 hc39; have KY39 := Aside0.mk hy39; have KA39 := Aside0.mk hA39; clear hy39 hA39; have KL39 := Aside0.mk (show (x6_2 : Int).toNat ≤ x3_1.length from by omega); replace q39 := eq_true q39) | ((with_reducible refine gate_builtin (b := .append) (xs := #[.tmp 39, .tmp 42]) rfl ?_); at_builtin; refine Kd.R_append_rows k48 (w0 := w) w.heap.size rfl (.tmp 39) (.tmp 42) 27 48 (.agg #[(.int .i64 0), (.int .i64 0), (.int .i64 0)]) 24 rfl Try.underlying27 info48 rfl (by decide) (by omega) v159 y158 y161 _ _ _ (fun k_ => some k_ ≠ (.slice Ao34 x3_1.length co34 : Value).ownBlock ∧ k_ ≠ gb132) (fun _ => False) rfl rfl ?aO ?aR (fun _ _ h => h) (fun _ h => h.elim) ?aF ?aB ?aS ?aL ?_; (case aR => repeat (first | exact (by repeat (first | (with_reducible exact HR164.out) | (with_reducible refine Kd.C_alloc ?_ _) | (with_reducible refine Kd.C_drewN ?_ _) | (with_reducible refine Kd.C_drew ?_) | exact HR164.out)) | (with_reducible refine Kd.C_alloc ?_ _) | (with_reducible refine Kd.C_drewN ?_ _) | (with_reducible refine Kd.C_drew ?_))); (case aB => exact lB); (case aF => exact (fun k_ hk => ⟨Kd.fresh' (Kd.R_lt (lR HO_3.out)) k_ hk, Kd.freshB (lK BK132.out) k_ hk⟩)); (case aO => exact (lR HO160.out)); (case aS => exact (below_size lB)); (case aL => have := LMc33.out; omega); intro v166 w40 ho hb hg hat; rw [← Ny165.out] at ho; have n0_ := Aside0.mk (Kd.R_after (ok := (fun k_ => k_ ≠ gb132)) (lR HO_3.out) hg hat); have n1_ := Aside0.mk (blk_grown (lK BK132.out) hg (Kd.R_away HO160.out (fun _ hk => hk.2))); have n2_ := Aside0.mk (hb); have n3_ := Aside0.mk ((show Kd.C k48 w40 Ao34 y151.length y151 from by rw [Ny151.out]; exact Kd.C_take (m := (x6_2 : Int).toNat) ((Kd.R_reads' (Kd.R_after (ok := (fun k_ => k_ ≠ gb132)) (lR HO_3.out) hg hat)).2.2) KL35.out)); have n4_ := Aside0.mk ((show Kd.C k48 w40 A39 y161.length y161 from by rw [Ny161.out, KA39.out]; exact Kd.C_drop (m := (x6_2 : Int).toNat) (c := co34) ((Kd.R_reads' (Kd.R_after (ok := (fun k_ => k_ ≠ gb132)) (lR HO_3.out) hg hat)).2.2) KL39.out ((Kd.R_reads' (Kd.R_after (ok := (fun k_ => k_ ≠ gb132)) (lR HO_3.out) hg hat)).2.1))); have n5_ := Aside0.mk (ho); clear HO_3; clear BK132; clear HB; clear HR154; clear HR164; clear HO160; have HO_3 := n0_; have BK132 := n1_; have HB := n2_; have HR154 := n3_; have HR164 := n4_; have HO167 := n5_; clear n0_ n1_ n2_ n3_ n4_ n5_; clear ho hb hg hat))
              repeat (go_quiet (fail); try go_wp2_with (first | ((with_reducible refine gate_builtin (b := .append) (xs := #[.tmp 30, .tmp 33]) rfl ?_); at_builtin; refine Kd.R_append_rows k48 (w0 := w) w.heap.size rfl (.tmp 30) (.tmp 33) 27 48 (.agg #[(.int .i64 0), (.int .i64 0), (.int .i64 0)]) 24 rfl Try.underlying27 info48 rfl (by decide) (by omega) (.slice none 0 0) ([] : List (S48)) y151 _ _ _ (fun k_ => some k_ ≠ (.slice Ao34 x3_1.length co34 : Value).ownBlock ∧ k_ ≠ gb132) (fun _ => False) rfl rfl ?aO ?aR (fun _ _ h => h) (fun _ h => h.elim) ?aF ?aB ?aS ?aL ?_; (case aR => repeat (first | exact (by repeat (first | (with_reducible exact HR154.out) | (with_reducible refine Kd.C_alloc ?_ _) | (with_reducible refine Kd.C_drewN ?_ _) | (with_reducible refine Kd.C_drew ?_) | exact HR154.out)) | (with_reducible refine Kd.C_alloc ?_ _) | (with_reducible refine Kd.C_drewN ?_ _) | (with_reducible refine Kd.C_drew ?_))); (case aB => exact lB); (case aF => exact (fun k_ hk => ⟨Kd.fresh' (Kd.R_lt (lR HO_3.out)) k_ hk, Kd.freshB (lK BK132.out) k_ hk⟩)); (case aO => exact ((Kd.R_nil _ _ _ _ (fun k_ => some k_ ≠ (.slice Ao34 x3_1.length co34 : Value).ownBlock ∧ k_ ≠ gb132)))); (case aS => exact (below_size lB)); (case aL => have := LMc29.out; omega); intro v156 w36 ho hb hg hat; rw [← Ny155.out] at ho; have n0_ := Aside0.mk (Kd.R_after (Kd.R_apart_nil (lR HO_3.out)) hg hat); have n1_ := Aside0.mk (blk_grown (lK BK132.out) hg (by simp [Value.ownBlock])); have n2_ := Aside0.mk (hb); have n3_ := Aside0.mk ((show Kd.C k48 w36 Ao34 y151.length y151 from by rw [Ny151.out]; exact Kd.C_take (m := (x6_2 : Int).toNat) ((Kd.R_reads' (Kd.R_after (Kd.R_apart_nil (lR HO_3.out)) hg hat)).2.2) KL35.out)); have n4_ := Aside0.mk (ho); clear HO_3; clear BK132; clear HB; clear HR154; have HO_3 := n0_; have BK132 := n1_; have HB := n2_; have HR154 := n3_; have HO157 := n4_; clear n0_ n1_ n2_ n3_ n4_; clear ho hb hg hat; obtain ⟨hcz37_0, hfz37_0, hcz37_1, hfz37_1, hcz37_2, hfz37_2⟩ := bk3 BK132.out) | ((with_reducible refine gate_builtin (b := .append) (xs := #[.tmp 35, .tmp 37]) rfl ?_); at_builtin; refine Kd.R_append k48 (w0 := w) w.heap.size rfl (.tmp 35) (.tmp 37) 27 48 (.agg #[(.int .i64 0), (.int .i64 0), (.int .i64 0)]) 24 rfl Try.underlying27 info48 rfl (by decide) (by omega) v156 y155 (⟨((rd_T48 l0 x10_1).f0), ((rd_T48 l0 x10_1).f1), ((rd_T48 l0 x10_1).f2)⟩ : S48) [.int .i64 ((rd_T48 l0 x10_1).f0), .int .i64 ((rd_T48 l0 x10_1).f1), .int .i64 ((rd_T48 l0 x10_1).f2)] (fun k_ => some k_ ≠ (.slice Ao34 x3_1.length co34 : Value).ownBlock ∧ k_ ≠ gb132) (fun _ => False) rfl rfl ?aP (fun _ hk => hk.elim) ?aF ?aO ?aB ?aS ?aL ?_; (case aP => exact k48_mkM _ _ _ (⟨((rd_T48 l0 x10_1).f0), ((rd_T48 l0 x10_1).f1), ((rd_T48 l0 x10_1).f2)⟩ : S48)); (case aB => exact lB); (case aF => exact (fun k_ hk => ⟨Kd.fresh' (Kd.R_lt (lR HO_3.out)) k_ hk, Kd.freshB (lK BK132.out) k_ hk⟩)); (case aO => exact (lR HO157.out)); (case aS => exact (below_size lB)); (case aL => have := LMc30.out; omega); intro v159 w38 ho hb hg hat; rw [← Ny158.out] at ho; have n0_ := Aside0.mk (Kd.R_after (ok := (fun k_ => k_ ≠ gb132)) (lR HO_3.out) hg hat); have n1_ := Aside0.mk (blk_grown (lK BK132.out) hg (Kd.R_away HO157.out (fun _ hk => hk.2))); have n2_ := Aside0.mk (hb); have n3_ := Aside0.mk ((show Kd.C k48 w38 Ao34 y151.length y151 from by rw [Ny151.out]; exact Kd.C_take (m := (x6_2 : Int).toNat) ((Kd.R_reads' (Kd.R_after (ok := (fun k_ => k_ ≠ gb132)) (lR HO_3.out) hg hat)).2.2) KL35.out)); have n4_ := Aside0.mk (ho); clear HO_3; clear BK132; clear HB; clear HR154; clear HO157; have HO_3 := n0_; have BK132 := n1_; have HB := n2_; have HR154 := n3_; have HO160 := n4_; clear n0_ n1_ n2_ n3_ n4_; clear ho hb hg hat; have q39 : (x6_2 : Int) ≤ ((x3_1.length : Int) : Int) := lD; obtain ⟨i039, hi039, _, hsz39, _⟩ := info_parts info48; have hroom39 : x3_1.length ≤ co34 := (Kd.R_reads' HO_3.out).2.1; have hC39 : Kd.C k48 _ Ao34 x3_1.length x3_1 := (Kd.R_reads' HO_3.out).2.2; have q039 : (0 : Int) ≤ (x6_2 : Int) := lD; have hcut39 := cut_from (P := Try.prog) 27 48 .i64 Try.underlying27 hi039 3 hsz39 Ao34 x3_1.length co34 x6_2 q039 q39; have hr39 := Kd.C_drop (m := (x6_2 : Int).toNat) (c := co34) hC39 (by omega) hroom39; obtain ⟨A39, hA39⟩ : ∃ A1, A1 = (if co34 = (x6_2 : Int).toNat then Ao34 else (Ao34 : Option Addr).map (·.add ((x6_2 : Int).toNat * 3))) := ⟨_, rfl⟩; obtain ⟨c39, hc39⟩ : ∃ c1, c1 = co34 - (x6_2 : Int).toNat := ⟨_, rfl⟩; have hy39 : y161.length = x3_1.length - (x6_2 : Int).toNat := (by rw [Ny161.out, List.length_drop] <;> omega); rw [show (x3_1).drop (x6_2 : Int).toNat = y161 from Ny161.out.symm] at hr39; replace hr39 : Kd.C k48 _ A39 y161.length y161 := (by rw [hA39]; exact hr39); rw [← hy39, ← hA39, ← hc39] at hcut39; have HR164 := Aside0.mk hr39; have HC164 := Aside0.mk (show y161.length ≤ c39 from by rw [hy39, hc39]; exact Nat.sub_le_sub_right hroom39 _); clear hr39 hC39 hroom39 hi039 hsz39 hc39; have KY39 := Aside0.mk hy39; have KA39 := Aside0.mk hA39; clear hy39 hA39; have KL39 := Aside0.mk (show (x6_2 : Int).toNat ≤ x3_1.length from by omega); replace q39 := eq_true q39) | ((with_reducible refine gate_builtin (b := .append) (xs := #[.tmp 39, .tmp 42]) rfl ?_); at_builtin; refine Kd.R_append_rows k48 (w0 := w) w.heap.size rfl (.tmp 39) (.tmp 42) 27 48 (.agg #[(.int .i64 0), (.int .i64 0), (.int .i64 0)]) 24 rfl Try.underlying27 info48 rfl (by decide) (by omega) v159 y158 y161 _ _ _ (fun k_ => some k_ ≠ (.slice Ao34 x3_1.length co34 : Value).ownBlock ∧ k_ ≠ gb132) (fun _ => False) rfl rfl ?aO ?aR (fun _ _ h => h) (fun _ h => h.elim) ?aF ?aB ?aS ?aL ?_; (case aR => repeat (first | exact (by repeat (first | (with_reducible exact HR164.out) | (with_reducible refine Kd.C_alloc ?_ _) | (with_reducible refine Kd.C_drewN ?_ _) | (with_reducible refine Kd.C_drew ?_) | exact HR164.out)) | (with_reducible refine Kd.C_alloc ?_ _) | (with_reducible refine Kd.C_drewN ?_ _) | (with_reducible refine Kd.C_drew ?_))); (case aB => exact lB); (case aF => exact (fun k_ hk => ⟨Kd.fresh' (Kd.R_lt (lR HO_3.out)) k_ hk, Kd.freshB (lK BK132.out) k_ hk⟩)); (case aO => exact (lR HO160.out)); (case aS => exact (below_size lB)); (case aL => have := LMc33.out; omega); intro v166 w40 ho hb hg hat; rw [← Ny165.out] at ho; have n0_ := Aside0.mk (Kd.R_after (ok := (fun k_ => k_ ≠ gb132)) (lR HO_3.out) hg hat); have n1_ := Aside0.mk (blk_grown (lK BK132.out) hg (Kd.R_away HO160.out (fun _ hk => hk.2))); have n2_ := Aside0.mk (hb); have n3_ := Aside0.mk ((show Kd.C k48 w40 Ao34 y151.length y151 from by rw [Ny151.out]; exact Kd.C_take (m := (x6_2 : Int).toNat) ((Kd.R_reads' (Kd.R_after (ok := (fun k_ => k_ ≠ gb132)) (lR HO_3.out) hg hat)).2.2) KL35.out)); have n4_ := Aside0.mk ((show Kd.C k48 w40 A39 y161.length y161 from by rw [Ny161.out, KA39.out]; exact Kd.C_drop (m := (x6_2 : Int).toNat) (c := co34) ((Kd.R_reads' (Kd.R_after (ok := (fun k_ => k_ ≠ gb132)) (lR HO_3.out) hg hat)).2.2) KL39.out ((Kd.R_reads' (Kd.R_after (ok := (fun k_ => k_ ≠ gb132)) (lR HO_3.out) hg hat)).2.1))); have n5_ := Aside0.mk (ho); clear HO_3; clear BK132; clear HB; clear HR154; clear HR164; clear HO160; have HO_3 := n0_; have BK132 := n1_; have HB := n2_; have HR154 := n3_; have HR164 := n4_; have HO167 := n5_; clear n0_ n1_ n2_ n3_ n4_ n5_; clear ho hb hg hat)))
              go_roundg k2
              case measure => have := HK1.out; have := HK2.out; omega
              case rel => exact ⟨(y165), (wrap64 (x10_1 + 1)), lF, H', ⟨by have := HK1.out; have := HK2.out; omega⟩, ⟨by (with_reducible repeat (first | apply Kd.R_alloc | apply Kd.R_drewN | apply Kd.R_drew)); exact Kd.R_mono HO167.out (fun _ hk => trivial)⟩, ⟨lB⟩⟩
             ·rw [if_neg c33] at H
              exact absurd H (by simp)
            ·rw [if_neg c30] at H
             exact absurd H (by simp)
           ·rw [if_neg c29] at H
            exact absurd H (by simp)
          ·rw [if_neg c28] at H
           exact absurd H (by simp)
         ·rw [if_neg c27] at H
          exact absurd H (by simp)
     ·rw [if_neg c4] at H
      exact absurd H (by simp)
    ·rw [if_neg c3] at H
     exact absurd H (by simp)
   ·rw [if_neg c2] at H
    have c2b0 : decide (x10_1 < (l0.length : Int)) = false := decide_eq_false c2
    clear c2
    obtain rfl := Option.some.inj H
    go_wp2
    repeat (go_quiet (fail); try go_wp2)
    go_ret
    exact ⟨_, lE, lR HO_3.out, lB⟩

end Go.Proofs.Ytpnhlccdhflogaa.Q
