-- Written by the program wip/tools/pr.py of this claim's session, over the kit's print.py.
import Derived.Test.YtnocadhibajaoaaQx0
import Derived.Test.YtnocadhibajaoaaQx2
namespace Go.Proofs.Ytnocadhibajaoaa.Q
open Go.RowKit Go.Proofs.YtnocadhibajaoaaW.PrintWords Go.Proofs.YtnocadhibajaoaaW.PrintLast Go.Proofs.YtnocadhibajaoaaW.PrintMore
attribute [local go_sem] max2_int min2_int max_two min_two max_three min_three max_four min_four   -- for this text's walks alone
set_option linter.unusedVariables false
set_option linter.unusedSimpArgs false

/-! ### spec_l14Reach: function 43 -/
mutual
def spec_l14Reach.l0 : Nat → Bool → List Int → List Int → Int → Int → List (S45) → List Int → List Int → Int → Option (List Int)
 | 0, _, _, _, _, _, _, _, _, _ => none
 | k + 1, x2, x7, x13, x14, x15, x180000, x180001, x180002, x180003 => if x15 < x14 then (if 0 ≤ x15 then (if x15 < (x13.length : Int) then (if (rd x13 x15) ≥ 0 then ((spec_l1Has.f k x7 (rd x13 x15)).bind fun t181 => (if t181 = true then (spec_l14Reach.l0 k x2 x7 x13 x14 (wrap64 (x15 + 1)) x180000 x180001 x180002 x180003) else (if x2 = true then ((spec_l14Young.f k x180000 x180001 x180002 x180003 (rd x13 x15)).bind fun t182 => (if t182 = true then (if x7.length < 17592186044416 then (spec_l14Reach.l0 k x2 (x7 ++ [rd x13 x15]) x13 x14 (wrap64 (x15 + 1)) x180000 x180001 x180002 x180003) else (none)) else (spec_l14Reach.l0 k x2 x7 x13 x14 (wrap64 (x15 + 1)) x180000 x180001 x180002 x180003))) else (if x7.length < 17592186044416 then (spec_l14Reach.l0 k x2 (x7 ++ [rd x13 x15]) x13 x14 (wrap64 (x15 + 1)) x180000 x180001 x180002 x180003) else (none))))) else (spec_l14Reach.l0 k x2 x7 x13 x14 (wrap64 (x15 + 1)) x180000 x180001 x180002 x180003)) else (none)) else (none)) else (spec_l14Reach.l1 k x2 x7 0 x180000 x180001 x180002 x180003)
def spec_l14Reach.l1 : Nat → Bool → List Int → Int → List (S45) → List Int → List Int → Int → Option (List Int)
 | 0, _, _, _, _, _, _, _ => none
 | k + 1, x2, x7, x10, x180000, x180001, x180002, x180003 => if x10 < (x7.length : Int) then (if 0 ≤ x10 then ((spec_l14At.f k x180000 x180001 x180002 x180003 (rd x7 x10)).bind fun t190 => (if 0 ≤ t190 then (if t190 < (x180000.length : Int) then (spec_l14Reach.l2 k x2 x7 x10 ((rd_T45 x180000 t190).f2) (((rd_T45 x180000 t190).f2).length : Int) 0 x180000 x180001 x180002 x180003) else (none)) else (none))) else (none)) else (some x7)
def spec_l14Reach.l2 : Nat → Bool → List Int → Int → List Int → Int → Int → List (S45) → List Int → List Int → Int → Option (List Int)
 | 0, _, _, _, _, _, _, _, _, _, _ => none
 | k + 1, x2, x7, x10, x57, x58, x59, x180000, x180001, x180002, x180003 => if x59 < x58 then (if 0 ≤ x59 then (if x59 < (x57.length : Int) then (if (rd x57 x59) ≥ 0 then ((spec_l1Has.f k x7 (rd x57 x59)).bind fun t193 => (if t193 = true then (spec_l14Reach.l2 k x2 x7 x10 x57 x58 (wrap64 (x59 + 1)) x180000 x180001 x180002 x180003) else (if x2 = true then ((spec_l14Young.f k x180000 x180001 x180002 x180003 (rd x57 x59)).bind fun t194 => (if t194 = true then (if x7.length < 17592186044416 then (spec_l14Reach.l2 k x2 (x7 ++ [rd x57 x59]) x10 x57 x58 (wrap64 (x59 + 1)) x180000 x180001 x180002 x180003) else (none)) else (spec_l14Reach.l2 k x2 x7 x10 x57 x58 (wrap64 (x59 + 1)) x180000 x180001 x180002 x180003))) else (if x7.length < 17592186044416 then (spec_l14Reach.l2 k x2 (x7 ++ [rd x57 x59]) x10 x57 x58 (wrap64 (x59 + 1)) x180000 x180001 x180002 x180003) else (none))))) else (spec_l14Reach.l2 k x2 x7 x10 x57 x58 (wrap64 (x59 + 1)) x180000 x180001 x180002 x180003)) else (none)) else (none)) else (spec_l14Reach.l1 k x2 x7 (wrap64 (x10 + 1)) x180000 x180001 x180002 x180003)
end
def spec_l14Reach.f (k : Nat) (l0_0 : List (S45)) (l0_1 : List Int) (l0_2 : List Int) (a0_3 : Int) (l1 : List Int) (a2 : Bool) : Option (List Int) := spec_l14Reach.l0 k a2 ([] : List Int) l1 (l1.length : Int) 0 l0_0 l0_1 l0_2 a0_3
theorem spec_l14Reach.mono_l : ∀ k, (∀ y0 y1 y2 y3 y4 y5 y6 y7 y8, LeO (spec_l14Reach.l0 k y0 y1 y2 y3 y4 y5 y6 y7 y8) (spec_l14Reach.l0 (k + 1) y0 y1 y2 y3 y4 y5 y6 y7 y8)) ∧ (∀ y0 y1 y2 y3 y4 y5 y6, LeO (spec_l14Reach.l1 k y0 y1 y2 y3 y4 y5 y6) (spec_l14Reach.l1 (k + 1) y0 y1 y2 y3 y4 y5 y6)) ∧ (∀ y0 y1 y2 y3 y4 y5 y6 y7 y8 y9, LeO (spec_l14Reach.l2 k y0 y1 y2 y3 y4 y5 y6 y7 y8 y9) (spec_l14Reach.l2 (k + 1) y0 y1 y2 y3 y4 y5 y6 y7 y8 y9))
 | 0 => ⟨fun _ _ _ _ _ _ _ _ _ r h => by simp [spec_l14Reach.l0] at h, fun _ _ _ _ _ _ _ r h => by simp [spec_l14Reach.l1] at h, fun _ _ _ _ _ _ _ _ _ _ r h => by simp [spec_l14Reach.l2] at h⟩
 | k + 1 => by
  obtain ⟨ih0, ih1, ih2⟩ := spec_l14Reach.mono_l k
  refine ⟨?_, ?_, ?_⟩
  ·intro y0 y1 y2 y3 y4 y5 y6 y7 y8
   unfold spec_l14Reach.l0
   repeat' first
   | with_reducible apply ih0
   | with_reducible apply ih1
   | with_reducible apply ih2
   | with_reducible apply spec_l14At.mono
   | with_reducible apply spec_l14Young.mono
   | with_reducible apply spec_l1Has.mono
   | (with_reducible exact LeO.refl _)
   | (with_reducible exact LeO.none _)
   | (with_reducible refine LeO.ite ?_ ?_)
   | (with_reducible refine LeO.bind ?_ (fun _ => ?_))
   | apply ih0
   | apply ih1
   | apply ih2
   | apply spec_l14At.mono
   | apply spec_l14Young.mono
   | apply spec_l1Has.mono
   | exact LeO.none _
   | refine LeO.ite ?_ ?_
   | refine LeO.bind ?_ (fun _ => ?_)
  ·intro y0 y1 y2 y3 y4 y5 y6
   unfold spec_l14Reach.l1
   repeat' first
   | with_reducible apply ih0
   | with_reducible apply ih1
   | with_reducible apply ih2
   | with_reducible apply spec_l14At.mono
   | with_reducible apply spec_l14Young.mono
   | with_reducible apply spec_l1Has.mono
   | (with_reducible exact LeO.refl _)
   | (with_reducible exact LeO.none _)
   | (with_reducible refine LeO.ite ?_ ?_)
   | (with_reducible refine LeO.bind ?_ (fun _ => ?_))
   | apply ih0
   | apply ih1
   | apply ih2
   | apply spec_l14At.mono
   | apply spec_l14Young.mono
   | apply spec_l1Has.mono
   | exact LeO.none _
   | refine LeO.ite ?_ ?_
   | refine LeO.bind ?_ (fun _ => ?_)
  ·intro y0 y1 y2 y3 y4 y5 y6 y7 y8 y9
   unfold spec_l14Reach.l2
   repeat' first
   | with_reducible apply ih0
   | with_reducible apply ih1
   | with_reducible apply ih2
   | with_reducible apply spec_l14At.mono
   | with_reducible apply spec_l14Young.mono
   | with_reducible apply spec_l1Has.mono
   | (with_reducible exact LeO.refl _)
   | (with_reducible exact LeO.none _)
   | (with_reducible refine LeO.ite ?_ ?_)
   | (with_reducible refine LeO.bind ?_ (fun _ => ?_))
   | apply ih0
   | apply ih1
   | apply ih2
   | apply spec_l14At.mono
   | apply spec_l14Young.mono
   | apply spec_l1Has.mono
   | exact LeO.none _
   | refine LeO.ite ?_ ?_
   | refine LeO.bind ?_ (fun _ => ?_)
theorem spec_l14Reach.mono : ∀ a0 a1 a2 a3 a4 a5 k, LeO (spec_l14Reach.f k a0 a1 a2 a3 a4 a5) (spec_l14Reach.f (k + 1) a0 a1 a2 a3 a4 a5) := by
 intro a0 a1 a2 a3 a4 a5 k
 obtain ⟨ih0, ih1, ih2⟩ := spec_l14Reach.mono_l k
 unfold spec_l14Reach.f
 repeat' first
   | with_reducible apply ih0
   | with_reducible apply ih1
   | with_reducible apply ih2
   | with_reducible apply spec_l14At.mono
   | with_reducible apply spec_l14Young.mono
   | with_reducible apply spec_l1Has.mono
   | (with_reducible exact LeO.refl _)
   | (with_reducible exact LeO.none _)
   | (with_reducible refine LeO.ite ?_ ?_)
   | (with_reducible refine LeO.bind ?_ (fun _ => ?_))
   | apply ih0
   | apply ih1
   | apply ih2
   | apply spec_l14At.mono
   | apply spec_l14Young.mono
   | apply spec_l1Has.mono
   | exact LeO.none _
   | refine LeO.ite ?_ ?_
   | refine LeO.bind ?_ (fun _ => ?_)
def spec_l14Reach.T11 : Bool × List (List Nat × List Nat) := (true, [([], []), ([0], [0]), ([], []), ([], []), ([], []), ([3, 4], [3, 4]), ([5], [5]), ([2, 6], [2, 6]), ([1, 7], [1, 7]), ([8], [8]), ([9], [9]), ([10], [10]), ([], [])])
def spec_l14Reach.B11 : List Nat := [0, 1, 0, 0, 0, 24, 56, 124, 255, 511, 1023, 2047, 0]
theorem spec_l14Reach.tab11 : rtab .any (opsOf Try.f43 11) = spec_l14Reach.T11 := by kernel_rfl
theorem spec_l14Reach.bits11 : waitsOk spec_l14Reach.T11.2 spec_l14Reach.B11 = true := by kernel_rfl
set_option maxHeartbeats 8000000 in
set_option maxRecDepth 100000 in
theorem spec_l14Reach.calls (k : Nat) (A0_0 : Option Addr) (c0_0 : Nat) (l0_0 : List (S45)) (A0_1 : Option Addr) (c0_1 : Nat) (l0_1 : List Int) (A0_2 : Option Addr) (c0_2 : Nat) (l0_2 : List Int) (a0_3 : Int) (A1 : Option Addr) (c1 : Nat) (l1 : List Int) (a2 : Bool) (r : List Int) (w : World) (hr0_0 : Kd.C k45 w A0_0 l0_0.length l0_0) (hc0_0 : l0_0.length ≤ c0_0) (hr0_1 : Kd.C (Kd.int .i64) w A0_1 l0_1.length l0_1) (hc0_1 : l0_1.length ≤ c0_1) (hr0_2 : Kd.C (Kd.int .i64) w A0_2 l0_2.length l0_2) (hc0_2 : l0_2.length ≤ c0_2) (hr1 : Kd.C (Kd.int .i64) w A1 l1.length l1) (hc1 : l1.length ≤ c1) (h : spec_l14Reach.f k l0_0 l0_1 l0_2 a0_3 l1 a2 = some r) :
  Calls Try.prog 43 #[.agg #[.slice A0_0 l0_0.length c0_0, .slice A0_1 l0_1.length c0_1, .slice A0_2 l0_2.length c0_2, .int .i64 a0_3], .slice A1 l1.length c1, .bool a2] w fun e w' => ∃ v0_ : Value, e = .returned (v0_) ∧ Kd.R (Kd.int .i64) 3 w' w.heap.size (fun _ => True) v0_ r ∧ Below w.heap.size w w' := by
 have hu25 := Try.underlying25
 have HR0_0 := Aside0.mk hr0_0
 have HC0_0 := Aside0.mk hc0_0
 clear hr0_0 hc0_0
 have HR0_1 := Aside0.mk hr0_1
 have HC0_1 := Aside0.mk hc0_1
 clear hr0_1 hc0_1
 have HR0_2 := Aside0.mk hr0_2
 have HC0_2 := Aside0.mk hc0_2
 clear hr0_2 hc0_2
 have HR1 := Aside0.mk hr1
 have HC1 := Aside0.mk hc1
 clear hr1 hc1
 have HB := Aside0.mk (Below.refl w.heap.size w)
 have H : (spec_l14Reach.l0 k a2 ([] : List Int) l1 (l1.length : Int) 0 l0_0 l0_1 l0_2 a0_3) = some r := h
 clear h
 have H' := Aside0.mk H
 clear H
 go_enter Try.func43, Try.ntmps43
 go_wp2_with (first | ((with_reducible refine gate_dst (N := 3) rfl ?_); refine bxe 3 #[.slice A0_0 l0_0.length c0_0, .slice A0_1 l0_1.length c0_1, .slice A0_2 l0_2.length c0_2, .int .i64 a0_3] 25 ?_; intro gb179 hg w4 hbox hb; have n0_ := Aside0.mk (below_step lB hb); have n1_ := Aside0.mk (hbox); have n2_ := lG w hg; have n3_ := lG w hg; clear HB; have HB := n0_; have BK179 := n1_; have GW179 := n2_; have GE179 := n3_; clear n0_ n1_ n2_ n3_; clear hb hbox hg))
 go_loopg [7, 15] k (fun kq v7 v15 w' => ∃ (x7_1 : List Int) (x15_1 : Int), v15 = .int .i64 x15_1 ∧ Aside0 (spec_l14Reach.l0 kq a2 x7_1 l1 (l1.length : Int) x15_1 l0_0 l0_1 l0_2 a0_3 = some r) ∧ Aside0 (kq ≤ k) ∧ Aside0 (Kd.R (Kd.int .i64) 3 w' w.heap.size (fun _ => True) v7 x7_1) ∧ Aside0 (w'.heap[gb179]? = some (.cells #[(.slice A0_0 l0_0.length c0_0), (.slice A0_1 l0_1.length c0_1), (.slice A0_2 l0_2.length c0_2), .int .i64 a0_3] 25 (0, 0))) ∧ Aside0 (Below w.heap.size w w'))
 case atStart => exact ⟨(([] : List Int)), (0), lF, H', ⟨Nat.le_refl _⟩, ⟨by first | exact Kd.R_nil _ _ _ _ _ | exact Kd.N_nil _ _ _ _ _ | exact Kd.V_nil _ _ _ _ _ | exact Kd.Q_nil _ _ _ _ _ | exact Kd.S_nil _ _ _ _ _⟩, ⟨lK BK179.out⟩, ⟨lB⟩⟩
 case round =>
  clear H'
  try clear c1
  try clear p2
  try clear c4
  obtain ⟨x7_1, x15_1, rfl, HA, HK1, HO_7, BK179, HB⟩ := hrel
  cases gk with
  | zero => exact absurd HA.out (by simp [spec_l14Reach.l0])
  | succ k1 =>
   have H := HA.out
   clear HA
   simp only [spec_l14Reach.l0] at H
   by_cases c5 : x15_1 < (l1.length : Int)
   ·rw [if_pos c5] at H
    have c5b0 : decide (x15_1 < (l1.length : Int)) = true := decide_eq_true c5
    clear c5
    by_cases c6 : 0 ≤ x15_1
    ·rw [if_pos c6] at H
     have c6b0 : decide (0 ≤ x15_1) = true := decide_eq_true c6
     clear c6
     by_cases c7 : x15_1 < (l1.length : Int)
     ·rw [if_pos c7] at H
      have c7b0 : decide (x15_1 < (l1.length : Int)) = true := decide_eq_true c7
      clear c7
      by_cases c8 : (rd l1 x15_1) ≥ 0
      ·rw [if_pos c8] at H
       have c8b0 : decide (0 ≤ (rd l1 x15_1)) = true := decide_eq_true c8
       clear c8
       replace H := lO H
       obtain ⟨t181, A9, H⟩ := H
       by_cases c10 : t181 = true
       ·subst c10
        rw [if_pos rfl] at H
        have H' := Aside0.mk H
        clear H
        have p180 : 0 ≤ (x15_1 : Int) := lD
        have q180 : x15_1 < (l1.length : Int) := lD
        obtain ⟨ad180, e180, hx180_0⟩ := Kd.at_int HR1.out x15_1 p180 q180
        cases e180
        replace hx180_0 := pw_cell_below HB.out hx180_0
        replace p180 := eq_true p180
        replace q180 := eq_true q180
        obtain ⟨Ao11, co11, eo11⟩ := Kd.R_slice HO_7.out
        subst eo11
        go_wp2_with (first | (go_at_call 38; (with_reducible refine (spec_l1Has.calls k1 _ _ x7_1 (rd l1 x15_1) true _ ?side1 ?side2 A9.out).mono ?_); (case side1 => repeat (first | exact (Kd.R_reads' HO_7.out).2.2 | (with_reducible refine Kd.C_alloc ?_ _) | (with_reducible refine Kd.C_drewN ?_ _) | (with_reducible refine Kd.C_drew ?_))); (case side2 => exact (Kd.R_reads' HO_7.out).2.1); rintro e w' ⟨rfl, ⟨nd, rfl⟩⟩))
        go_roundg k1
        case measure => have := HK1.out; omega
        case rel => exact ⟨(x7_1), (wrap64 (x15_1 + 1)), lF, H', ⟨by have := HK1.out; omega⟩, ⟨lR HO_7.out⟩, ⟨lK BK179.out⟩, ⟨lB⟩⟩
       ·replace c10 := Bool.eq_false_iff.mpr c10
        subst c10
        rw [if_neg (show ¬ (false = true) by decide)] at H
        by_cases c12 : a2 = true
        ·subst c12
         rw [if_pos rfl] at H
         replace H := lO H
         obtain ⟨t182, A13, H⟩ := H
         by_cases c14 : t182 = true
         ·subst c14
          rw [if_pos rfl] at H
          by_cases c15 : x7_1.length < 17592186044416
          ·rw [if_pos c15] at H
           have LMc15 := Aside0.mk c15
           clear c15
           obtain ⟨y183, hy183⟩ : ∃ y_ : List Int, y_ = (x7_1 ++ [rd l1 x15_1]) := ⟨_, rfl⟩
           replace H : (spec_l14Reach.l0 k1 true y183 l1 (l1.length : Int) (wrap64 (x15_1 + 1)) l0_0 l0_1 l0_2 a0_3) = some r := by first | (rw [hy183]; with_reducible exact H) | (have H2_ := (Option.bind_some _ _).symm.trans H; rw [hy183]; with_reducible exact H2_) | (have H2_ := (Option.bind_some _ _).symm.trans H; with_reducible exact H2_) | with_reducible exact H | (rw [hy183]; exact H) | exact H
           have Ny183 := Aside0.mk hy183
           clear hy183
           have H' := Aside0.mk H
           clear H
           have p180 : 0 ≤ (x15_1 : Int) := lD
           have q180 : x15_1 < (l1.length : Int) := lD
           obtain ⟨ad180, e180, hx180_0⟩ := Kd.at_int HR1.out x15_1 p180 q180
           cases e180
           replace hx180_0 := pw_cell_below HB.out hx180_0
           replace p180 := eq_true p180
           replace q180 := eq_true q180
           obtain ⟨Ao16, co16, eo16⟩ := Kd.R_slice HO_7.out
           subst eo16
           go_wp2_with (first | (go_at_call 38; (with_reducible refine (spec_l1Has.calls k1 _ _ x7_1 (rd l1 x15_1) false _ ?side1 ?side2 A9.out).mono ?_); (case side1 => repeat (first | exact (Kd.R_reads' HO_7.out).2.2 | (with_reducible refine Kd.C_alloc ?_ _) | (with_reducible refine Kd.C_drewN ?_ _) | (with_reducible refine Kd.C_drew ?_))); (case side2 => exact (Kd.R_reads' HO_7.out).2.1); rintro e w' ⟨rfl, ⟨nd, rfl⟩⟩; obtain ⟨hcz17_0, hfz17_0, hcz17_1, hfz17_1, hcz17_2, hfz17_2, hcz17_3, hfz17_3⟩ := bk4 BK179.out) | (go_at_call 37; (with_reducible refine (spec_l14Young.calls k1 _ _ l0_0 _ _ l0_1 _ _ l0_2 a0_3 (rd l1 x15_1) true _ ?side1 ?side2 ?side3 ?side4 ?side5 ?side6 A13.out).mono ?_); (case side1 => repeat (first | exact (Kd.C_below HR0_0.out lB) | (with_reducible refine Kd.C_alloc ?_ _) | (with_reducible refine Kd.C_drewN ?_ _) | (with_reducible refine Kd.C_drew ?_))); (case side2 => exact HC0_0.out); (case side3 => repeat (first | exact (Kd.C_below HR0_1.out lB) | (with_reducible refine Kd.C_alloc ?_ _) | (with_reducible refine Kd.C_drewN ?_ _) | (with_reducible refine Kd.C_drew ?_))); (case side4 => exact HC0_1.out); (case side5 => repeat (first | exact (Kd.C_below HR0_2.out lB) | (with_reducible refine Kd.C_alloc ?_ _) | (with_reducible refine Kd.C_drewN ?_ _) | (with_reducible refine Kd.C_drew ?_))); (case side6 => exact HC0_2.out); rintro e w18 ⟨rfl, hb⟩; have n0_ := Aside0.mk (Kd.R_below (lR HO_7.out) hb); have n1_ := Aside0.mk (blk_below (lK BK179.out) hb); have n2_ := Aside0.mk (below_step lB hb); clear HO_7; clear BK179; clear HB; have HO_7 := n0_; have BK179 := n1_; have HB := n2_; clear n0_ n1_ n2_; (try clear hb); (try clear hb2); (try clear hk); (try clear hi)) | ((with_reducible refine gate_builtin (b := .append) (xs := #[.tmp 36, .tmp 38]) rfl ?_); at_builtin; refine Kd.R_append (Kd.int .i64) (w0 := w) w.heap.size rfl (.tmp 36) (.tmp 38) 23 3 (.int .i64 0) 8 rfl Try.underlying23 info3 rfl (by decide) (by omega) (.slice Ao16 x7_1.length co16) x7_1 (rd l1 x15_1) [.int .i64 (rd l1 x15_1)] (fun _ => True) (fun _ => False) rfl rfl ?aP (fun _ hk => hk.elim) ?aF ?aO ?aB ?aS ?aL ?_; (case aP => exact rfl); (case aB => exact lB); (case aF => exact (fun _ _ => trivial)); (case aO => exact (lR HO_7.out)); (case aS => exact (below_size lB)); (case aL => have := LMc15.out; omega); intro v184 w19 ho hb hg hat; rw [← Ny183.out] at ho; have n0_ := Aside0.mk (blk_grown (lK BK179.out) hg (Kd.R_ne HO_7.out BK179.out (by decide))); have n1_ := Aside0.mk (hb); have n2_ := Aside0.mk (ho); clear BK179; clear HB; clear HO_7; have BK179 := n0_; have HB := n1_; have HO185 := n2_; clear n0_ n1_ n2_; clear ho hb hg hat))
           go_roundg k1
           case measure => have := HK1.out; omega
           case rel => exact ⟨(y183), (wrap64 (x15_1 + 1)), lF, H', ⟨by have := HK1.out; omega⟩, ⟨lR HO185.out⟩, ⟨lK BK179.out⟩, ⟨lB⟩⟩
          ·rw [if_neg c15] at H
           exact absurd H (by simp)
         ·replace c14 := Bool.eq_false_iff.mpr c14
          subst c14
          rw [if_neg (show ¬ (false = true) by decide)] at H
          have H' := Aside0.mk H
          clear H
          have p180 : 0 ≤ (x15_1 : Int) := lD
          have q180 : x15_1 < (l1.length : Int) := lD
          obtain ⟨ad180, e180, hx180_0⟩ := Kd.at_int HR1.out x15_1 p180 q180
          cases e180
          replace hx180_0 := pw_cell_below HB.out hx180_0
          replace p180 := eq_true p180
          replace q180 := eq_true q180
          obtain ⟨Ao20, co20, eo20⟩ := Kd.R_slice HO_7.out
          subst eo20
          go_wp2_with (first | (go_at_call 38; (with_reducible refine (spec_l1Has.calls k1 _ _ x7_1 (rd l1 x15_1) false _ ?side1 ?side2 A9.out).mono ?_); (case side1 => repeat (first | exact (Kd.R_reads' HO_7.out).2.2 | (with_reducible refine Kd.C_alloc ?_ _) | (with_reducible refine Kd.C_drewN ?_ _) | (with_reducible refine Kd.C_drew ?_))); (case side2 => exact (Kd.R_reads' HO_7.out).2.1); rintro e w' ⟨rfl, ⟨nd, rfl⟩⟩; obtain ⟨hcz21_0, hfz21_0, hcz21_1, hfz21_1, hcz21_2, hfz21_2, hcz21_3, hfz21_3⟩ := bk4 BK179.out) | (go_at_call 37; (with_reducible refine (spec_l14Young.calls k1 _ _ l0_0 _ _ l0_1 _ _ l0_2 a0_3 (rd l1 x15_1) false _ ?side1 ?side2 ?side3 ?side4 ?side5 ?side6 A13.out).mono ?_); (case side1 => repeat (first | exact (Kd.C_below HR0_0.out lB) | (with_reducible refine Kd.C_alloc ?_ _) | (with_reducible refine Kd.C_drewN ?_ _) | (with_reducible refine Kd.C_drew ?_))); (case side2 => exact HC0_0.out); (case side3 => repeat (first | exact (Kd.C_below HR0_1.out lB) | (with_reducible refine Kd.C_alloc ?_ _) | (with_reducible refine Kd.C_drewN ?_ _) | (with_reducible refine Kd.C_drew ?_))); (case side4 => exact HC0_1.out); (case side5 => repeat (first | exact (Kd.C_below HR0_2.out lB) | (with_reducible refine Kd.C_alloc ?_ _) | (with_reducible refine Kd.C_drewN ?_ _) | (with_reducible refine Kd.C_drew ?_))); (case side6 => exact HC0_2.out); rintro e w22 ⟨rfl, hb⟩; have n0_ := Aside0.mk (Kd.R_below (lR HO_7.out) hb); have n1_ := Aside0.mk (blk_below (lK BK179.out) hb); have n2_ := Aside0.mk (below_step lB hb); clear HO_7; clear BK179; clear HB; have HO_7 := n0_; have BK179 := n1_; have HB := n2_; clear n0_ n1_ n2_; (try clear hb); (try clear hb2); (try clear hk); (try clear hi)))
          go_roundg k1
          case measure => have := HK1.out; omega
          case rel => exact ⟨(x7_1), (wrap64 (x15_1 + 1)), lF, H', ⟨by have := HK1.out; omega⟩, ⟨lR HO_7.out⟩, ⟨lK BK179.out⟩, ⟨lB⟩⟩
        ·replace c12 := Bool.eq_false_iff.mpr c12
         subst c12
         rw [if_neg (show ¬ (false = true) by decide)] at H
         by_cases c23 : x7_1.length < 17592186044416
         ·rw [if_pos c23] at H
          have LMc23 := Aside0.mk c23
          clear c23
          obtain ⟨y186, hy186⟩ : ∃ y_ : List Int, y_ = (x7_1 ++ [rd l1 x15_1]) := ⟨_, rfl⟩
          replace H : (spec_l14Reach.l0 k1 false y186 l1 (l1.length : Int) (wrap64 (x15_1 + 1)) l0_0 l0_1 l0_2 a0_3) = some r := by first | (rw [hy186]; with_reducible exact H) | (have H2_ := (Option.bind_some _ _).symm.trans H; rw [hy186]; with_reducible exact H2_) | (have H2_ := (Option.bind_some _ _).symm.trans H; with_reducible exact H2_) | with_reducible exact H | (rw [hy186]; exact H) | exact H
          have Ny186 := Aside0.mk hy186
          clear hy186
          have H' := Aside0.mk H
          clear H
          have p180 : 0 ≤ (x15_1 : Int) := lD
          have q180 : x15_1 < (l1.length : Int) := lD
          obtain ⟨ad180, e180, hx180_0⟩ := Kd.at_int HR1.out x15_1 p180 q180
          cases e180
          replace hx180_0 := pw_cell_below HB.out hx180_0
          replace p180 := eq_true p180
          replace q180 := eq_true q180
          obtain ⟨Ao24, co24, eo24⟩ := Kd.R_slice HO_7.out
          subst eo24
          go_wp2_with (first | (go_at_call 38; (with_reducible refine (spec_l1Has.calls k1 _ _ x7_1 (rd l1 x15_1) false _ ?side1 ?side2 A9.out).mono ?_); (case side1 => repeat (first | exact (Kd.R_reads' HO_7.out).2.2 | (with_reducible refine Kd.C_alloc ?_ _) | (with_reducible refine Kd.C_drewN ?_ _) | (with_reducible refine Kd.C_drew ?_))); (case side2 => exact (Kd.R_reads' HO_7.out).2.1); rintro e w' ⟨rfl, ⟨nd, rfl⟩⟩) | ((with_reducible refine gate_builtin (b := .append) (xs := #[.tmp 36, .tmp 38]) rfl ?_); at_builtin; refine Kd.R_append (Kd.int .i64) (w0 := w) w.heap.size rfl (.tmp 36) (.tmp 38) 23 3 (.int .i64 0) 8 rfl Try.underlying23 info3 rfl (by decide) (by omega) (.slice Ao24 x7_1.length co24) x7_1 (rd l1 x15_1) [.int .i64 (rd l1 x15_1)] (fun _ => True) (fun _ => False) rfl rfl ?aP (fun _ hk => hk.elim) ?aF ?aO ?aB ?aS ?aL ?_; (case aP => exact rfl); (case aB => exact lB); (case aF => exact (fun _ _ => trivial)); (case aO => exact (lR HO_7.out)); (case aS => exact (below_size lB)); (case aL => have := LMc23.out; omega); intro v187 w25 ho hb hg hat; rw [← Ny186.out] at ho; have n0_ := Aside0.mk (blk_grown (lK BK179.out) hg (Kd.R_ne HO_7.out BK179.out (by decide))); have n1_ := Aside0.mk (hb); have n2_ := Aside0.mk (ho); clear BK179; clear HB; clear HO_7; have BK179 := n0_; have HB := n1_; have HO188 := n2_; clear n0_ n1_ n2_; clear ho hb hg hat))
          go_roundg k1
          case measure => have := HK1.out; omega
          case rel => exact ⟨(y186), (wrap64 (x15_1 + 1)), lF, H', ⟨by have := HK1.out; omega⟩, ⟨lR HO188.out⟩, ⟨lK BK179.out⟩, ⟨lB⟩⟩
         ·rw [if_neg c23] at H
          exact absurd H (by simp)
      ·rw [if_neg c8] at H
       have c8b0 : decide (0 ≤ (rd l1 x15_1)) = false := decide_eq_false c8
       clear c8
       have H' := Aside0.mk H
       clear H
       have p180 : 0 ≤ (x15_1 : Int) := lD
       have q180 : x15_1 < (l1.length : Int) := lD
       obtain ⟨ad180, e180, hx180_0⟩ := Kd.at_int HR1.out x15_1 p180 q180
       cases e180
       replace hx180_0 := pw_cell_below HB.out hx180_0
       replace p180 := eq_true p180
       replace q180 := eq_true q180
       go_wp2
       go_roundg k1
       case measure => have := HK1.out; omega
       case rel => exact ⟨(x7_1), (wrap64 (x15_1 + 1)), lF, H', ⟨by have := HK1.out; omega⟩, ⟨lR HO_7.out⟩, ⟨lK BK179.out⟩, ⟨lB⟩⟩
     ·rw [if_neg c7] at H
      exact absurd H (by simp)
    ·rw [if_neg c6] at H
     exact absurd H (by simp)
   ·rw [if_neg c5] at H
    have c5b0 : decide (x15_1 < (l1.length : Int)) = false := decide_eq_false c5
    clear c5
    have H' := Aside0.mk H
    clear H
    go_wp2
    go_loopg [7, 10] k1 (fun kq v7 v10 w' => ∃ (x7_2 : List Int) (x10_2 : Int), v10 = .int .i64 x10_2 ∧ Aside0 (spec_l14Reach.l1 kq a2 x7_2 x10_2 l0_0 l0_1 l0_2 a0_3 = some r) ∧ Aside0 (kq ≤ k1) ∧ Aside0 (Kd.R (Kd.int .i64) 3 w' w.heap.size (fun _ => True) v7 x7_2) ∧ Aside0 (w'.heap[gb179]? = some (.cells #[(.slice A0_0 l0_0.length c0_0), (.slice A0_1 l0_1.length c0_1), (.slice A0_2 l0_2.length c0_2), .int .i64 a0_3] 25 (0, 0))) ∧ Aside0 (Below w.heap.size w w'))
    case atStart => exact ⟨(x7_1), (0), lF, H', ⟨Nat.le_refl _⟩, ⟨lR HO_7.out⟩, ⟨lK BK179.out⟩, ⟨lB⟩⟩
    case round =>
     clear H'
     try clear c1
     try clear p1
     try clear q1
     try clear hx1
     try clear c2
     try clear p2
     try clear c4
     try clear c5
     try clear c5b0
     try clear c6
     try clear c6b0
     try clear p6
     try clear c7
     try clear c7b0
     try clear c8
     try clear c8b0
     try clear c10
     try clear c12
     try clear c14
     try clear c15
     try clear p18
     try clear q18
     try clear hx18
     try clear c23
     try clear hcz17_0 hcz17_1 hcz17_2 hcz17_3
     try clear hcz21_0 hcz21_1 hcz21_2 hcz21_3
     try clear hfz17_0 hfz17_1 hfz17_2 hfz17_3
     try clear hfz21_0 hfz21_1 hfz21_2 hfz21_3
     try clear hx180_0
     try clear p180
     try clear p2
     try clear q180
     obtain ⟨x7_2, x10_2, rfl, HA, HK2, HO_7, BK179, HB⟩ := hrel
     cases gk with
     | zero => exact absurd HA.out (by simp [spec_l14Reach.l1])
     | succ k2 =>
      have H := HA.out
      clear HA
      simp only [spec_l14Reach.l1] at H
      by_cases c26 : x10_2 < (x7_2.length : Int)
      ·rw [if_pos c26] at H
       have c26b0 : decide (x10_2 < (x7_2.length : Int)) = true := decide_eq_true c26
       clear c26
       by_cases c27 : 0 ≤ x10_2
       ·rw [if_pos c27] at H
        have c27b0 : decide (0 ≤ x10_2) = true := decide_eq_true c27
        clear c27
        replace H := lO H
        obtain ⟨t190, A28, H⟩ := H
        by_cases c29 : 0 ≤ t190
        ·rw [if_pos c29] at H
         have c29b0 : decide (0 ≤ t190) = true := decide_eq_true c29
         clear c29
         by_cases c30 : t190 < (l0_0.length : Int)
         ·rw [if_pos c30] at H
          have c30b0 : decide (t190 < (l0_0.length : Int)) = true := decide_eq_true c30
          clear c30
          have H' := Aside0.mk H
          clear H
          obtain ⟨Ao31, co31, eo31⟩ := Kd.R_slice HO_7.out
          subst eo31
          try go_wp2
          have n0_ := Aside0.mk (Kd.R_drew HO_7.out)
          have n1_ := Aside0.mk (blk_drew BK179.out)
          have n2_ := Aside0.mk (below_drew1 HB.out)
          clear HO_7
          clear BK179
          clear HB
          have HO_7 := n0_
          have BK179 := n1_
          have HB := n2_
          clear n0_ n1_ n2_
          have p189 : 0 ≤ (x10_2 : Int) := lD
          have q189 : x10_2 < (x7_2.length : Int) := lD
          obtain ⟨ad189, e189, hx189_0⟩ := Kd.at_int (Kd.R_reads' HO_7.out).2.2 x10_2 p189 q189
          cases e189
          replace p189 := eq_true p189
          replace q189 := eq_true q189
          have p191 : 0 ≤ (t190 : Int) := lD
          have q191 : t190 < (l0_0.length : Int) := lD
          obtain ⟨ad191, A191_2, c191_2, e191, hx191_0, hx191_1, hx191_2, hl191_2, hi191_2⟩ := at_T45 HR0_0.out t190 p191 q191
          have hw191_2 := hx191_2
          have hw191_1 := hx191_1
          have hw191_0 := hx191_0
          cases e191
          replace hx191_0 := pw_cell_below HB.out hx191_0
          replace hx191_1 := pw_cell_below HB.out hx191_1
          replace hx191_2 := pw_cell_below HB.out hx191_2
          have HR191_2 := Aside0.mk hi191_2
          have HC191_2 := Aside0.mk hl191_2
          clear hi191_2 hl191_2
          replace p191 := eq_true p191
          replace q191 := eq_true q191
          refine start_ (n := 13) (S := fun w' => w'.cell? ⟨gb179, 0, none⟩ = some (.slice (some ad191) l0_0.length c0_0) ∧ w'.cell? ⟨gb179, 1, none⟩ = some (.slice A0_1 l0_1.length c0_1) ∧ w'.cell? ⟨gb179, 2, none⟩ = some (.slice A0_2 l0_2.length c0_2) ∧ w'.cell? ⟨gb179, 3, none⟩ = some (.int .i64 a0_3) ∧ w'.cell? (ad189.add (x10_2).toNat) = some (.int .i64 (rd x7_2 x10_2)) ∧ w'.cell? (ad191.add ((t190).toNat * 3)) = some (.int .i64 ((rd_T45 l0_0 t190).f0)) ∧ w'.cell? ⟨(ad191.add ((t190).toNat * 3)).block, (ad191.add ((t190).toNat * 3)).off + 1, none⟩ = some (.bool ((rd_T45 l0_0 t190).f1)) ∧ w'.cell? ⟨(ad191.add ((t190).toNat * 3)).block, (ad191.add ((t190).toNat * 3)).off + 2, none⟩ = some (.slice A191_2 ((rd_T45 l0_0 t190).f2).length c191_2)) (ds := []) (bs 13 0) kR rfl kR ⟨bZ BK179.out 0, bZ BK179.out 1, bZ BK179.out 2, bZ BK179.out 3, hx189_0, ((HB.out.cell (World.block_lt_of_cell? w _ hw191_0)).trans hw191_0), ((HB.out.cell (World.block_lt_of_cell? w _ hw191_1)).trans hw191_1), ((HB.out.cell (World.block_lt_of_cell? w _ hw191_2)).trans hw191_2)⟩ (fun hHeld => ?_); refine with_tabW spec_l14Reach.tab11 spec_l14Reach.bits11 (fun HT_ HW_ => ?_)
          generalize wr.drew = w32 at HO_7 BK179 HB HR191_2 hx189_0 hx191_0 hx191_1 hx191_2 hHeld ⊢
          refine pur_ 0 47 (bs 13 1) (any_of HT_.out kR) ?_
          refine pur_ 3 50 (bs 13 9) (any_of HT_.out kR) ?_
          refine pur_ 4 51 (bs 13 25) (any_of HT_.out kR) ?_
          refine pur_ 5 52 (bs 13 57) (any_of HT_.out kR) ?_
          refine pur_ 12 59 (bs 13 4153) (any_of HT_.out kR) ?_
          refine tak_ 1 48 (bs 13 4155) (take_ofW HT_.out HW_.out kR) hHeld ?_
          refine tak_ 2 49 (bs 13 4159) (take_ofW HT_.out HW_.out kR) hHeld ?_
          refine tak_ 6 53 (bs 13 4223) (take_ofW HT_.out HW_.out kR) hHeld ?_
          refine one_ (i := 7) (N := some 54) (bs 13 4351) rfl rfl (one_of HT_.out (by kernel_rfl)) (by decide) (fun K hK => ?_)
          refine goes_ Try.func39 (by kernel_rfl) rfl #[.agg #[.slice (some ad191) l0_0.length c0_0, .slice A0_1 l0_1.length c0_1, .slice A0_2 l0_2.length c0_2, .int .i64 a0_3], .int .i64 (rd x7_2 x10_2)] (by rfl) rfl rfl (by (try simp only [List.map_toArray, List.map_cons, List.map_nil]); first | done | rfl | (simp only [List.length_drop, List.length_take]; rfl)) ?_
          with_reducible refine (spec_l14At.calls k2 _ _ l0_0 _ _ l0_1 _ _ l0_2 a0_3 (rd x7_2 x10_2) t190 _ ?side1 ?side2 ?side3 ?side4 ?side5 ?side6 A28.out).mono ?_
          (case side1 => exact lC (Kd.C_below HR0_0.out HB.out))
          (case side2 => exact HC0_0.out)
          (case side3 => exact lC (Kd.C_below HR0_1.out HB.out))
          (case side4 => exact HC0_1.out)
          (case side5 => exact lC (Kd.C_below HR0_2.out HB.out))
          (case side6 => exact HC0_2.out)
          rintro e w33 ⟨rfl, hb⟩
          have HS4_ := (hb.cell (World.block_lt_of_cell? _ _ (hHeld.2.2.2.2.1))).trans (hHeld.2.2.2.2.1)
          refine ⟨_, rfl, ?_⟩
          have n0_ := Aside0.mk (Kd.R_below (lR HO_7.out) hb)
          have n1_ := Aside0.mk (blk_below (lK BK179.out) hb)
          have n2_ := Aside0.mk (below_step lB hb)
          clear HO_7
          clear BK179
          clear HB
          have HO_7 := n0_
          have BK179 := n1_
          have HB := n2_
          clear n0_ n1_ n2_
          (try clear hb)
          (try clear hb2)
          (try clear hk)
          (try clear hi)
          refine hK.out _ _ ⟨bZ BK179.out 0, bZ BK179.out 1, bZ BK179.out 2, bZ BK179.out 3, HS4_, ((HB.out.cell (World.block_lt_of_cell? w _ hw191_0)).trans hw191_0), ((HB.out.cell (World.block_lt_of_cell? w _ hw191_1)).trans hw191_1), ((HB.out.cell (World.block_lt_of_cell? w _ hw191_2)).trans hw191_2)⟩ (fun hHeld => ?_)
          clear hK K
          refine norm_ (a' := ?_) ?_ ?_
          rotate_left
          ·show Act.put _ (some 54) _ = _
           simp only [Act.put, List.setIfInBounds_toArray, List.set_cons_zero, List.set_cons_succ, i64_w, i32_w]
           rfl
          refine pur_ 8 55 (bs 13 4607) (any_of HT_.out kR) ?_
          refine pur_ 9 56 (bs 13 5119) (any_of HT_.out kR) ?_
          refine tak_ 10 57 (bs 13 6143) (take_ofW HT_.out HW_.out kR) hHeld ?_
          refine pur_ 11 58 (bs 13 8191) (any_of HT_.out kR) ?_
          refine done_ (done_of HT_.out (by kernel_rfl)) ?_
          try go_wp2
          go_loopg [7, 59] k2 (fun kq v7 v59 w' => ∃ (x7_3 : List Int) (x59_3 : Int), v59 = .int .i64 x59_3 ∧ Aside0 (spec_l14Reach.l2 kq a2 x7_3 x10_2 ((rd_T45 l0_0 t190).f2) (((rd_T45 l0_0 t190).f2).length : Int) x59_3 l0_0 l0_1 l0_2 a0_3 = some r) ∧ Aside0 (kq ≤ k2) ∧ Aside0 (Kd.R (Kd.int .i64) 3 w' w.heap.size (fun _ => True) v7 x7_3) ∧ Aside0 (w'.heap[gb179]? = some (.cells #[(.slice (some ad191) l0_0.length c0_0), (.slice A0_1 l0_1.length c0_1), (.slice A0_2 l0_2.length c0_2), .int .i64 a0_3] 25 (0, 0))) ∧ Aside0 (Below w.heap.size w w'))
          case atStart => exact ⟨(x7_2), (0), lF, H', ⟨Nat.le_refl _⟩, ⟨lR HO_7.out⟩, ⟨lK BK179.out⟩, ⟨lB⟩⟩
          case round =>
           clear H'
           try clear c1
           try clear p1
           try clear q1
           try clear hx1
           try clear c2
           try clear p2
           try clear c3
           try clear c4
           try clear c5
           try clear c5b0
           try clear c6
           try clear c6b0
           try clear p6
           try clear c7
           try clear c7b0
           try clear c8
           try clear c8b0
           try clear c10
           try clear c12
           try clear c14
           try clear c15
           try clear p18
           try clear q18
           try clear hx18
           try clear c19
           try clear p19
           try clear q19
           try clear hx19
           try clear c23
           try clear c26
           try clear c26b0
           try clear c27
           try clear c27b0
           try clear c29
           try clear c29b0
           try clear c30
           try clear c30b0
           try clear hcz17_0 hcz17_1 hcz17_2 hcz17_3
           try clear hcz21_0 hcz21_1 hcz21_2 hcz21_3
           try clear hfz17_0 hfz17_1 hfz17_2 hfz17_3
           try clear hfz21_0 hfz21_1 hfz21_2 hfz21_3
           try clear hx180_0
           try clear hx189_0
           try clear hx191_0
           try clear hx191_1
           try clear hx191_2
           try clear p1
           try clear p18
           try clear p180
           try clear p189
           try clear p191
           try clear p2
           try clear p6
           try clear q1
           try clear q18
           try clear q180
           try clear q189
           try clear q191
           obtain ⟨x7_3, x59_3, rfl, HA, HK3, HO_7, BK179, HB⟩ := hrel
           cases gk with
           | zero => exact absurd HA.out (by simp [spec_l14Reach.l2])
           | succ k3 =>
            have H := HA.out
            clear HA
            simp only [spec_l14Reach.l2] at H
            by_cases c34 : x59_3 < (((rd_T45 l0_0 t190).f2).length : Int)
            ·rw [if_pos c34] at H
             have c34b0 : decide (x59_3 < (((rd_T45 l0_0 t190).f2).length : Int)) = true := decide_eq_true c34
             clear c34
             by_cases c35 : 0 ≤ x59_3
             ·rw [if_pos c35] at H
              have c35b0 : decide (0 ≤ x59_3) = true := decide_eq_true c35
              clear c35
              by_cases c36 : x59_3 < (((rd_T45 l0_0 t190).f2).length : Int)
              ·rw [if_pos c36] at H
               have c36b0 : decide (x59_3 < (((rd_T45 l0_0 t190).f2).length : Int)) = true := decide_eq_true c36
               clear c36
               by_cases c37 : (rd ((rd_T45 l0_0 t190).f2) x59_3) ≥ 0
               ·rw [if_pos c37] at H
                have c37b0 : decide (0 ≤ (rd ((rd_T45 l0_0 t190).f2) x59_3)) = true := decide_eq_true c37
                clear c37
                replace H := lO H
                obtain ⟨t193, A38, H⟩ := H
                by_cases c39 : t193 = true
                ·subst c39
                 rw [if_pos rfl] at H
                 have H' := Aside0.mk H
                 clear H
                 have p192 : 0 ≤ (x59_3 : Int) := lD
                 have q192 : x59_3 < (((rd_T45 l0_0 t190).f2).length : Int) := lD
                 obtain ⟨ad192, e192, hx192_0⟩ := Kd.at_int HR191_2.out x59_3 p192 q192
                 cases e192
                 replace hx192_0 := pw_cell_below HB.out hx192_0
                 replace p192 := eq_true p192
                 replace q192 := eq_true q192
                 obtain ⟨Ao40, co40, eo40⟩ := Kd.R_slice HO_7.out
                 subst eo40
                 go_wp2_with (first | (go_at_call 38; (with_reducible refine (spec_l1Has.calls k3 _ _ x7_3 (rd ((rd_T45 l0_0 t190).f2) x59_3) true _ ?side1 ?side2 A38.out).mono ?_); (case side1 => repeat (first | exact (Kd.R_reads' HO_7.out).2.2 | (with_reducible refine Kd.C_alloc ?_ _) | (with_reducible refine Kd.C_drewN ?_ _) | (with_reducible refine Kd.C_drew ?_))); (case side2 => exact (Kd.R_reads' HO_7.out).2.1); rintro e w' ⟨rfl, ⟨nd, rfl⟩⟩))
                 go_roundg k3
                 case measure => have := HK1.out; have := HK2.out; have := HK3.out; omega
                 case rel => exact ⟨(x7_3), (wrap64 (x59_3 + 1)), lF, H', ⟨by have := HK1.out; have := HK2.out; have := HK3.out; omega⟩, ⟨lR HO_7.out⟩, ⟨lK BK179.out⟩, ⟨lB⟩⟩
                ·replace c39 := Bool.eq_false_iff.mpr c39
                 subst c39
                 rw [if_neg (show ¬ (false = true) by decide)] at H
                 by_cases c41 : a2 = true
                 ·subst c41
                  rw [if_pos rfl] at H
                  replace H := lO H
                  obtain ⟨t194, A42, H⟩ := H
                  by_cases c43 : t194 = true
                  ·subst c43
                   rw [if_pos rfl] at H
                   by_cases c44 : x7_3.length < 17592186044416
                   ·rw [if_pos c44] at H
                    have LMc44 := Aside0.mk c44
                    clear c44
                    obtain ⟨y195, hy195⟩ : ∃ y_ : List Int, y_ = (x7_3 ++ [rd ((rd_T45 l0_0 t190).f2) x59_3]) := ⟨_, rfl⟩
                    replace H : (spec_l14Reach.l2 k3 true y195 x10_2 ((rd_T45 l0_0 t190).f2) (((rd_T45 l0_0 t190).f2).length : Int) (wrap64 (x59_3 + 1)) l0_0 l0_1 l0_2 a0_3) = some r := by first | (rw [hy195]; with_reducible exact H) | (have H2_ := (Option.bind_some _ _).symm.trans H; rw [hy195]; with_reducible exact H2_) | (have H2_ := (Option.bind_some _ _).symm.trans H; with_reducible exact H2_) | with_reducible exact H | (rw [hy195]; exact H) | exact H
                    have Ny195 := Aside0.mk hy195
                    clear hy195
                    have H' := Aside0.mk H
                    clear H
                    have p192 : 0 ≤ (x59_3 : Int) := lD
                    have q192 : x59_3 < (((rd_T45 l0_0 t190).f2).length : Int) := lD
                    obtain ⟨ad192, e192, hx192_0⟩ := Kd.at_int HR191_2.out x59_3 p192 q192
                    cases e192
                    replace hx192_0 := pw_cell_below HB.out hx192_0
                    replace p192 := eq_true p192
                    replace q192 := eq_true q192
                    obtain ⟨Ao45, co45, eo45⟩ := Kd.R_slice HO_7.out
                    subst eo45
                    go_wp2_with (first | (go_at_call 38; (with_reducible refine (spec_l1Has.calls k3 _ _ x7_3 (rd ((rd_T45 l0_0 t190).f2) x59_3) false _ ?side1 ?side2 A38.out).mono ?_); (case side1 => repeat (first | exact (Kd.R_reads' HO_7.out).2.2 | (with_reducible refine Kd.C_alloc ?_ _) | (with_reducible refine Kd.C_drewN ?_ _) | (with_reducible refine Kd.C_drew ?_))); (case side2 => exact (Kd.R_reads' HO_7.out).2.1); rintro e w' ⟨rfl, ⟨nd, rfl⟩⟩; obtain ⟨hcz46_0, hfz46_0, hcz46_1, hfz46_1, hcz46_2, hfz46_2, hcz46_3, hfz46_3⟩ := bk4 BK179.out) | (go_at_call 37; (with_reducible refine (spec_l14Young.calls k3 _ _ l0_0 _ _ l0_1 _ _ l0_2 a0_3 (rd ((rd_T45 l0_0 t190).f2) x59_3) true _ ?side1 ?side2 ?side3 ?side4 ?side5 ?side6 A42.out).mono ?_); (case side1 => repeat (first | exact (Kd.C_below HR0_0.out lB) | (with_reducible refine Kd.C_alloc ?_ _) | (with_reducible refine Kd.C_drewN ?_ _) | (with_reducible refine Kd.C_drew ?_))); (case side2 => exact HC0_0.out); (case side3 => repeat (first | exact (Kd.C_below HR0_1.out lB) | (with_reducible refine Kd.C_alloc ?_ _) | (with_reducible refine Kd.C_drewN ?_ _) | (with_reducible refine Kd.C_drew ?_))); (case side4 => exact HC0_1.out); (case side5 => repeat (first | exact (Kd.C_below HR0_2.out lB) | (with_reducible refine Kd.C_alloc ?_ _) | (with_reducible refine Kd.C_drewN ?_ _) | (with_reducible refine Kd.C_drew ?_))); (case side6 => exact HC0_2.out); rintro e w47 ⟨rfl, hb⟩; have n0_ := Aside0.mk (Kd.R_below (lR HO_7.out) hb); have n1_ := Aside0.mk (blk_below (lK BK179.out) hb); have n2_ := Aside0.mk (below_step lB hb); clear HO_7; clear BK179; clear HB; have HO_7 := n0_; have BK179 := n1_; have HB := n2_; clear n0_ n1_ n2_; (try clear hb); (try clear hb2); (try clear hk); (try clear hi)) | ((with_reducible refine gate_builtin (b := .append) (xs := #[.tmp 80, .tmp 82]) rfl ?_); at_builtin; refine Kd.R_append (Kd.int .i64) (w0 := w) w.heap.size rfl (.tmp 80) (.tmp 82) 23 3 (.int .i64 0) 8 rfl Try.underlying23 info3 rfl (by decide) (by omega) (.slice Ao45 x7_3.length co45) x7_3 (rd ((rd_T45 l0_0 t190).f2) x59_3) [.int .i64 (rd ((rd_T45 l0_0 t190).f2) x59_3)] (fun _ => True) (fun _ => False) rfl rfl ?aP (fun _ hk => hk.elim) ?aF ?aO ?aB ?aS ?aL ?_; (case aP => exact rfl); (case aB => exact lB); (case aF => exact (fun _ _ => trivial)); (case aO => exact (lR HO_7.out)); (case aS => exact (below_size lB)); (case aL => have := LMc44.out; omega); intro v196 w48 ho hb hg hat; rw [← Ny195.out] at ho; have n0_ := Aside0.mk (blk_grown (lK BK179.out) hg (Kd.R_ne HO_7.out BK179.out (by decide))); have n1_ := Aside0.mk (hb); have n2_ := Aside0.mk (ho); clear BK179; clear HB; clear HO_7; have BK179 := n0_; have HB := n1_; have HO197 := n2_; clear n0_ n1_ n2_; clear ho hb hg hat))
                    go_roundg k3
                    case measure => have := HK1.out; have := HK2.out; have := HK3.out; omega
                    case rel => exact ⟨(y195), (wrap64 (x59_3 + 1)), lF, H', ⟨by have := HK1.out; have := HK2.out; have := HK3.out; omega⟩, ⟨lR HO197.out⟩, ⟨lK BK179.out⟩, ⟨lB⟩⟩
                   ·rw [if_neg c44] at H
                    exact absurd H (by simp)
                  ·replace c43 := Bool.eq_false_iff.mpr c43
                   subst c43
                   rw [if_neg (show ¬ (false = true) by decide)] at H
                   have H' := Aside0.mk H
                   clear H
                   have p192 : 0 ≤ (x59_3 : Int) := lD
                   have q192 : x59_3 < (((rd_T45 l0_0 t190).f2).length : Int) := lD
                   obtain ⟨ad192, e192, hx192_0⟩ := Kd.at_int HR191_2.out x59_3 p192 q192
                   cases e192
                   replace hx192_0 := pw_cell_below HB.out hx192_0
                   replace p192 := eq_true p192
                   replace q192 := eq_true q192
                   obtain ⟨Ao49, co49, eo49⟩ := Kd.R_slice HO_7.out
                   subst eo49
                   go_wp2_with (first | (go_at_call 38; (with_reducible refine (spec_l1Has.calls k3 _ _ x7_3 (rd ((rd_T45 l0_0 t190).f2) x59_3) false _ ?side1 ?side2 A38.out).mono ?_); (case side1 => repeat (first | exact (Kd.R_reads' HO_7.out).2.2 | (with_reducible refine Kd.C_alloc ?_ _) | (with_reducible refine Kd.C_drewN ?_ _) | (with_reducible refine Kd.C_drew ?_))); (case side2 => exact (Kd.R_reads' HO_7.out).2.1); rintro e w' ⟨rfl, ⟨nd, rfl⟩⟩; obtain ⟨hcz50_0, hfz50_0, hcz50_1, hfz50_1, hcz50_2, hfz50_2, hcz50_3, hfz50_3⟩ := bk4 BK179.out) | (go_at_call 37; (with_reducible refine (spec_l14Young.calls k3 _ _ l0_0 _ _ l0_1 _ _ l0_2 a0_3 (rd ((rd_T45 l0_0 t190).f2) x59_3) false _ ?side1 ?side2 ?side3 ?side4 ?side5 ?side6 A42.out).mono ?_); (case side1 => repeat (first | exact (Kd.C_below HR0_0.out lB) | (with_reducible refine Kd.C_alloc ?_ _) | (with_reducible refine Kd.C_drewN ?_ _) | (with_reducible refine Kd.C_drew ?_))); (case side2 => exact HC0_0.out); (case side3 => repeat (first | exact (Kd.C_below HR0_1.out lB) | (with_reducible refine Kd.C_alloc ?_ _) | (with_reducible refine Kd.C_drewN ?_ _) | (with_reducible refine Kd.C_drew ?_))); (case side4 => exact HC0_1.out); (case side5 => repeat (first | exact (Kd.C_below HR0_2.out lB) | (with_reducible refine Kd.C_alloc ?_ _) | (with_reducible refine Kd.C_drewN ?_ _) | (with_reducible refine Kd.C_drew ?_))); (case side6 => exact HC0_2.out); rintro e w51 ⟨rfl, hb⟩; have n0_ := Aside0.mk (Kd.R_below (lR HO_7.out) hb); have n1_ := Aside0.mk (blk_below (lK BK179.out) hb); have n2_ := Aside0.mk (below_step lB hb); clear HO_7; clear BK179; clear HB; have HO_7 := n0_; have BK179 := n1_; have HB := n2_; clear n0_ n1_ n2_; (try clear hb); (try clear hb2); (try clear hk); (try clear hi)))
                   go_roundg k3
                   case measure => have := HK1.out; have := HK2.out; have := HK3.out; omega
                   case rel => exact ⟨(x7_3), (wrap64 (x59_3 + 1)), lF, H', ⟨by have := HK1.out; have := HK2.out; have := HK3.out; omega⟩, ⟨lR HO_7.out⟩, ⟨lK BK179.out⟩, ⟨lB⟩⟩
                 ·replace c41 := Bool.eq_false_iff.mpr c41
                  subst c41
                  rw [if_neg (show ¬ (false = true) by decide)] at H
                  by_cases c52 : x7_3.length < 17592186044416
                  ·rw [if_pos c52] at H
                   have LMc52 := Aside0.mk c52
                   clear c52
                   obtain ⟨y198, hy198⟩ : ∃ y_ : List Int, y_ = (x7_3 ++ [rd ((rd_T45 l0_0 t190).f2) x59_3]) := ⟨_, rfl⟩
                   replace H : (spec_l14Reach.l2 k3 false y198 x10_2 ((rd_T45 l0_0 t190).f2) (((rd_T45 l0_0 t190).f2).length : Int) (wrap64 (x59_3 + 1)) l0_0 l0_1 l0_2 a0_3) = some r := by first | (rw [hy198]; with_reducible exact H) | (have H2_ := (Option.bind_some _ _).symm.trans H; rw [hy198]; with_reducible exact H2_) | (have H2_ := (Option.bind_some _ _).symm.trans H; with_reducible exact H2_) | with_reducible exact H | (rw [hy198]; exact H) | exact H
                   have Ny198 := Aside0.mk hy198
                   clear hy198
                   have H' := Aside0.mk H
                   clear H
                   have p192 : 0 ≤ (x59_3 : Int) := lD
                   have q192 : x59_3 < (((rd_T45 l0_0 t190).f2).length : Int) := lD
                   obtain ⟨ad192, e192, hx192_0⟩ := Kd.at_int HR191_2.out x59_3 p192 q192
                   cases e192
                   replace hx192_0 := pw_cell_below HB.out hx192_0
                   replace p192 := eq_true p192
                   replace q192 := eq_true q192
                   obtain ⟨Ao53, co53, eo53⟩ := Kd.R_slice HO_7.out
                   subst eo53
                   go_wp2_with (first | (go_at_call 38; (with_reducible refine (spec_l1Has.calls k3 _ _ x7_3 (rd ((rd_T45 l0_0 t190).f2) x59_3) false _ ?side1 ?side2 A38.out).mono ?_); (case side1 => repeat (first | exact (Kd.R_reads' HO_7.out).2.2 | (with_reducible refine Kd.C_alloc ?_ _) | (with_reducible refine Kd.C_drewN ?_ _) | (with_reducible refine Kd.C_drew ?_))); (case side2 => exact (Kd.R_reads' HO_7.out).2.1); rintro e w' ⟨rfl, ⟨nd, rfl⟩⟩) | ((with_reducible refine gate_builtin (b := .append) (xs := #[.tmp 80, .tmp 82]) rfl ?_); at_builtin; refine Kd.R_append (Kd.int .i64) (w0 := w) w.heap.size rfl (.tmp 80) (.tmp 82) 23 3 (.int .i64 0) 8 rfl Try.underlying23 info3 rfl (by decide) (by omega) (.slice Ao53 x7_3.length co53) x7_3 (rd ((rd_T45 l0_0 t190).f2) x59_3) [.int .i64 (rd ((rd_T45 l0_0 t190).f2) x59_3)] (fun _ => True) (fun _ => False) rfl rfl ?aP (fun _ hk => hk.elim) ?aF ?aO ?aB ?aS ?aL ?_; (case aP => exact rfl); (case aB => exact lB); (case aF => exact (fun _ _ => trivial)); (case aO => exact (lR HO_7.out)); (case aS => exact (below_size lB)); (case aL => have := LMc52.out; omega); intro v199 w54 ho hb hg hat; rw [← Ny198.out] at ho; have n0_ := Aside0.mk (blk_grown (lK BK179.out) hg (Kd.R_ne HO_7.out BK179.out (by decide))); have n1_ := Aside0.mk (hb); have n2_ := Aside0.mk (ho); clear BK179; clear HB; clear HO_7; have BK179 := n0_; have HB := n1_; have HO200 := n2_; clear n0_ n1_ n2_; clear ho hb hg hat))
                   go_roundg k3
                   case measure => have := HK1.out; have := HK2.out; have := HK3.out; omega
                   case rel => exact ⟨(y198), (wrap64 (x59_3 + 1)), lF, H', ⟨by have := HK1.out; have := HK2.out; have := HK3.out; omega⟩, ⟨lR HO200.out⟩, ⟨lK BK179.out⟩, ⟨lB⟩⟩
                  ·rw [if_neg c52] at H
                   exact absurd H (by simp)
               ·rw [if_neg c37] at H
                have c37b0 : decide (0 ≤ (rd ((rd_T45 l0_0 t190).f2) x59_3)) = false := decide_eq_false c37
                clear c37
                have H' := Aside0.mk H
                clear H
                have p192 : 0 ≤ (x59_3 : Int) := lD
                have q192 : x59_3 < (((rd_T45 l0_0 t190).f2).length : Int) := lD
                obtain ⟨ad192, e192, hx192_0⟩ := Kd.at_int HR191_2.out x59_3 p192 q192
                cases e192
                replace hx192_0 := pw_cell_below HB.out hx192_0
                replace p192 := eq_true p192
                replace q192 := eq_true q192
                go_wp2
                go_roundg k3
                case measure => have := HK1.out; have := HK2.out; have := HK3.out; omega
                case rel => exact ⟨(x7_3), (wrap64 (x59_3 + 1)), lF, H', ⟨by have := HK1.out; have := HK2.out; have := HK3.out; omega⟩, ⟨lR HO_7.out⟩, ⟨lK BK179.out⟩, ⟨lB⟩⟩
              ·rw [if_neg c36] at H
               exact absurd H (by simp)
             ·rw [if_neg c35] at H
              exact absurd H (by simp)
            ·rw [if_neg c34] at H
             have c34b0 : decide (x59_3 < (((rd_T45 l0_0 t190).f2).length : Int)) = false := decide_eq_false c34
             clear c34
             have H' := Aside0.mk H
             clear H
             go_wp2
             go_roundg k3
             case measure => have := HK1.out; have := HK2.out; have := HK3.out; omega
             case rel => exact ⟨(x7_3), (wrap64 (x10_2 + 1)), lF, H', ⟨by have := HK1.out; have := HK2.out; have := HK3.out; omega⟩, ⟨lR HO_7.out⟩, ⟨lK BK179.out⟩, ⟨lB⟩⟩
         ·rw [if_neg c30] at H
          exact absurd H (by simp)
        ·rw [if_neg c29] at H
         exact absurd H (by simp)
       ·rw [if_neg c27] at H
        exact absurd H (by simp)
      ·rw [if_neg c26] at H
       have c26b0 : decide (x10_2 < (x7_2.length : Int)) = false := decide_eq_false c26
       clear c26
       obtain rfl := Option.some.inj H
       obtain ⟨Ao55, co55, eo55⟩ := Kd.R_slice HO_7.out
       subst eo55
       first | (go_wp2; go_ret; exact ⟨_, lE, lR HO_7.out, lB⟩) | (exfalso; simp only [decide_eq_false_iff_not, decide_eq_true_eq] at *; omega)

/-! ### spec_l14Number: function 44 -/
def spec_l14Number.l0 : Nat → Int → List Int → Int → Int → Option (Int)
 | 0, _, _, _, _ => none
 | k + 1, x1, x7, x8, x9 => if x9 < x8 then (if 0 ≤ x9 then (if x9 < (x7.length : Int) then (if (rd x7 x9) = x1 then (some x9) else (spec_l14Number.l0 k x1 x7 x8 (wrap64 (x9 + 1)))) else (none)) else (none)) else (some (-1))
def spec_l14Number.f (k : Nat) (l0 : List Int) (a1 : Int) : Option (Int) := spec_l14Number.l0 k a1 l0 (l0.length : Int) 0
theorem spec_l14Number.mono_l : ∀ k, (∀ y0 y1 y2 y3, LeO (spec_l14Number.l0 k y0 y1 y2 y3) (spec_l14Number.l0 (k + 1) y0 y1 y2 y3))
 | 0 => fun _ _ _ _ r h => by simp [spec_l14Number.l0] at h
 | k + 1 => by
  have ih0 := spec_l14Number.mono_l k
  ·intro y0 y1 y2 y3
   unfold spec_l14Number.l0
   repeat' first
   | with_reducible apply ih0
   | (with_reducible exact LeO.refl _)
   | (with_reducible exact LeO.none _)
   | (with_reducible refine LeO.ite ?_ ?_)
   | (with_reducible refine LeO.bind ?_ (fun _ => ?_))
   | apply ih0
   | exact LeO.none _
   | refine LeO.ite ?_ ?_
   | refine LeO.bind ?_ (fun _ => ?_)
theorem spec_l14Number.mono : ∀ a0 a1 k, LeO (spec_l14Number.f k a0 a1) (spec_l14Number.f (k + 1) a0 a1) := by
 intro a0 a1 k
 have ih0 := spec_l14Number.mono_l k
 unfold spec_l14Number.f
 repeat' first
   | with_reducible apply ih0
   | (with_reducible exact LeO.refl _)
   | (with_reducible exact LeO.none _)
   | (with_reducible refine LeO.ite ?_ ?_)
   | (with_reducible refine LeO.bind ?_ (fun _ => ?_))
   | apply ih0
   | exact LeO.none _
   | refine LeO.ite ?_ ?_
   | refine LeO.bind ?_ (fun _ => ?_)
set_option maxHeartbeats 8000000 in
set_option maxRecDepth 100000 in
theorem spec_l14Number.calls (k : Nat) (A0 : Option Addr) (c0 : Nat) (l0 : List Int) (a1 : Int) (r : Int) (w : World) (hr0 : Kd.C (Kd.int .i64) w A0 l0.length l0) (hc0 : l0.length ≤ c0) (h : spec_l14Number.f k l0 a1 = some r) :
  Calls Try.prog 44 #[.slice A0 l0.length c0, .int .i64 a1] w fun e w' => e = .returned (.int .i64 r) ∧ Drawn0 w w' := by
 have HR0 := Aside0.mk hr0
 have HC0 := Aside0.mk hc0
 clear hr0 hc0
 have H : (spec_l14Number.l0 k a1 l0 (l0.length : Int) 0) = some r := h
 clear h
 have H' := Aside0.mk H
 clear H
 go_enter Try.func44, Try.ntmps44
 go_wp2
 go_loopg [9] k (fun kq v9 w' => ∃ (x9_1 : Int), v9 = .int .i64 x9_1 ∧ Aside0 (spec_l14Number.l0 kq a1 l0 (l0.length : Int) x9_1 = some r) ∧ Aside0 (kq ≤ k) ∧ Drawn0 w w')
 case atStart => exact ⟨(0), lF, H', ⟨Nat.le_refl _⟩, by repeat (first | exact Drawn0.refl _ | apply Drawn0.step)⟩
 case round =>
  clear H'
  try clear p2
  obtain ⟨x9_1, rfl, HA, HK1, ⟨m1, rfl⟩⟩ := hrel
  cases gk with
  | zero => exact absurd HA.out (by simp [spec_l14Number.l0])
  | succ k1 =>
   have H := HA.out
   clear HA
   simp only [spec_l14Number.l0] at H
   by_cases c3 : x9_1 < (l0.length : Int)
   ·rw [if_pos c3] at H
    have c3b0 : decide (x9_1 < (l0.length : Int)) = true := decide_eq_true c3
    clear c3
    by_cases c4 : 0 ≤ x9_1
    ·rw [if_pos c4] at H
     have c4b0 : decide (0 ≤ x9_1) = true := decide_eq_true c4
     clear c4
     by_cases c5 : x9_1 < (l0.length : Int)
     ·rw [if_pos c5] at H
      have c5b0 : decide (x9_1 < (l0.length : Int)) = true := decide_eq_true c5
      clear c5
      by_cases c6 : (rd l0 x9_1) = a1
      ·rw [if_pos c6] at H
       have c6b0 : ((rd l0 x9_1) == a1) = true := beq_iff_eq.mpr c6
       have c6b1 : ((rd l0 x9_1) != a1) = false := bne_eq_false_iff_eq.mpr c6
       clear c6
       obtain rfl := Option.some.inj H
       have p201 : 0 ≤ (x9_1 : Int) := lD
       have q201 : x9_1 < (l0.length : Int) := lD
       obtain ⟨ad201, e201, hx201_0⟩ := Kd.at_int HR0.out x9_1 p201 q201
       cases e201
       replace p201 := eq_true p201
       replace q201 := eq_true q201
       first | (go_wp2; go_ret; exact ⟨by first | rfl | (simp; done) | (simp [*]; done), by repeat (first | exact Drawn0.refl _ | apply Drawn0.step)⟩) | (exfalso; simp only [decide_eq_false_iff_not, decide_eq_true_eq] at *; omega)
      ·rw [if_neg c6] at H
       have c6b0 : ((rd l0 x9_1) == a1) = false := beq_eq_false_iff_ne.mpr c6
       have c6b1 : ((rd l0 x9_1) != a1) = true := bne_iff_ne.mpr c6
       have H' := Aside0.mk H
       clear H
       have p201 : 0 ≤ (x9_1 : Int) := lD
       have q201 : x9_1 < (l0.length : Int) := lD
       obtain ⟨ad201, e201, hx201_0⟩ := Kd.at_int HR0.out x9_1 p201 q201
       cases e201
       replace p201 := eq_true p201
       replace q201 := eq_true q201
       go_wp2
       go_roundg k1
       case measure => have := HK1.out; omega
       case rel => exact ⟨(wrap64 (x9_1 + 1)), lF, H', ⟨by have := HK1.out; omega⟩, by repeat (first | exact Drawn0.refl _ | apply Drawn0.step)⟩
     ·rw [if_neg c5] at H
      exact absurd H (by simp)
    ·rw [if_neg c4] at H
     exact absurd H (by simp)
   ·rw [if_neg c3] at H
    have c3b0 : decide (x9_1 < (l0.length : Int)) = false := decide_eq_false c3
    clear c3
    obtain rfl := Option.some.inj H
    first | (go_wp2; go_ret; exact ⟨by first | rfl | (simp; done) | (simp [*]; done), by repeat (first | exact Drawn0.refl _ | apply Drawn0.step)⟩) | (exfalso; simp only [decide_eq_false_iff_not, decide_eq_true_eq] at *; omega)

end Go.Proofs.Ytnocadhibajaoaa.Q
