-- Written by the program wip/tools/pr.py of this claim's session, over the kit's print.py.
import Derived.Test.YtfdbdbihhgabpaaQx0
import Derived.Test.YtfdbdbihhgabpaaQx1
import Derived.Test.YtfdbdbihhgabpaaQx2
import Derived.Test.YtfdbdbihhgabpaaQx8
namespace Go.Proofs.Ytfdbdbihhgabpaa.Q
open Go.RowKit Go.Proofs.YtfdbdbihhgabpaaW.PrintWords Go.Proofs.YtfdbdbihhgabpaaW.PrintLast Go.Proofs.YtfdbdbihhgabpaaW.PrintMore
attribute [local go_sem] max2_int min2_int max_two min_two max_three min_three max_four min_four   -- for this text's walks alone
set_option linter.unusedVariables false
set_option linter.unusedSimpArgs false

attribute [local go_sem high] eqA63
/-! ### spec_l9Cover: function 52 -/
mutual
def spec_l9Cover.j0 : Nat → List Int → List (S57) → Int → List (S63) → Bool → Option (Int)
 | 0, _, _, _, _, _ => none
 | k + 1, x0, x1, x2, x3, x41 => if x41 = true then (some 0) else (if 0 < (x3.length : Int) then (if 0 ≤ ((rd_T63 x3 0).f1) then (if ((rd_T63 x3 0).f1) < (x1.length : Int) then ((spec_l9Fits.f k x0 x2 ((rd_T57 x1 ((rd_T63 x3 0).f1)).f0) ((rd_T57 x1 ((rd_T63 x3 0).f1)).f1)).bind fun bt547 => (if bt547.2 = true then (spec_l9Cover.l0 k x0 x1 x3 1 bt547.1 (bt547.1.length : Int) 0) else (some 0))) else (none)) else (none)) else (none))
def spec_l9Cover.l0 : Nat → List Int → List (S57) → List (S63) → Int → List Int → Int → Int → Option (Int)
 | 0, _, _, _, _, _, _, _ => none
 | k + 1, x0, x1, x3, x11, x57, x58, x59 => if x59 < x58 then (if 0 ≤ x59 then (if x59 < (x57.length : Int) then (if 0 ≤ x11 then (if x11 ≤ (x3.length : Int) then ((spec_l9Cover.f k x0 x1 (rd x57 x59) (x3.drop (x11 : Int).toNat)).bind fun t556 => (if t556 = 0 then (some 0) else (spec_l9Cover.l0 k x0 x1 x3 (wrap64 (x11 + t556)) x57 x58 (wrap64 (x59 + 1))))) else (none)) else (none)) else (none)) else (none)) else (some x11)
def spec_l9Cover.f : Nat → List Int → List (S57) → Int → List (S63) → Option (Int)
 | 0, _, _, _, _ => none
 | k + 1, l0, l1, a2, l3 => if (l3.length : Int) = 0 then (spec_l9Cover.j0 k l0 l1 a2 l3 true) else (if 0 < (l3.length : Int) then (if ((rd_T63 l3 0).f0) = a2 then (if ((rd_T63 l3 0).f1) < 0 then (spec_l9Cover.j0 k l0 l1 a2 l3 true) else (spec_l9Cover.j0 k l0 l1 a2 l3 (decide (((rd_T63 l3 0).f1) ≥ (l1.length : Int))))) else (spec_l9Cover.j0 k l0 l1 a2 l3 true)) else (none))
end
theorem spec_l9Cover.mono_l : ∀ k, (∀ y0 y1 y2 y3, LeO (spec_l9Cover.f k y0 y1 y2 y3) (spec_l9Cover.f (k + 1) y0 y1 y2 y3)) ∧ (∀ y0 y1 y2 y3 y4, LeO (spec_l9Cover.j0 k y0 y1 y2 y3 y4) (spec_l9Cover.j0 (k + 1) y0 y1 y2 y3 y4)) ∧ (∀ y0 y1 y2 y3 y4 y5 y6, LeO (spec_l9Cover.l0 k y0 y1 y2 y3 y4 y5 y6) (spec_l9Cover.l0 (k + 1) y0 y1 y2 y3 y4 y5 y6))
 | 0 => ⟨fun _ _ _ _ r h => by simp [spec_l9Cover.f] at h, fun _ _ _ _ _ r h => by simp [spec_l9Cover.j0] at h, fun _ _ _ _ _ _ _ r h => by simp [spec_l9Cover.l0] at h⟩
 | k + 1 => by
  obtain ⟨ih0, ih1, ih2⟩ := spec_l9Cover.mono_l k
  refine ⟨?_, ?_, ?_⟩
  ·intro y0 y1 y2 y3
   unfold spec_l9Cover.f
   repeat' first
   | with_reducible apply ih0
   | with_reducible apply ih1
   | with_reducible apply ih2
   | with_reducible apply spec_l9Fits.mono
   | (with_reducible exact LeO.refl _)
   | (with_reducible exact LeO.none _)
   | (with_reducible refine LeO.ite ?_ ?_)
   | (with_reducible refine LeO.bind ?_ (fun _ => ?_))
   | apply ih0
   | apply ih1
   | apply ih2
   | apply spec_l9Fits.mono
   | exact LeO.none _
   | refine LeO.ite ?_ ?_
   | refine LeO.bind ?_ (fun _ => ?_)
  ·intro y0 y1 y2 y3 y4
   unfold spec_l9Cover.j0
   repeat' first
   | with_reducible apply ih0
   | with_reducible apply ih1
   | with_reducible apply ih2
   | with_reducible apply spec_l9Fits.mono
   | (with_reducible exact LeO.refl _)
   | (with_reducible exact LeO.none _)
   | (with_reducible refine LeO.ite ?_ ?_)
   | (with_reducible refine LeO.bind ?_ (fun _ => ?_))
   | apply ih0
   | apply ih1
   | apply ih2
   | apply spec_l9Fits.mono
   | exact LeO.none _
   | refine LeO.ite ?_ ?_
   | refine LeO.bind ?_ (fun _ => ?_)
  ·intro y0 y1 y2 y3 y4 y5 y6
   unfold spec_l9Cover.l0
   repeat' first
   | with_reducible apply ih0
   | with_reducible apply ih1
   | with_reducible apply ih2
   | with_reducible apply spec_l9Fits.mono
   | (with_reducible exact LeO.refl _)
   | (with_reducible exact LeO.none _)
   | (with_reducible refine LeO.ite ?_ ?_)
   | (with_reducible refine LeO.bind ?_ (fun _ => ?_))
   | apply ih0
   | apply ih1
   | apply ih2
   | apply spec_l9Fits.mono
   | exact LeO.none _
   | refine LeO.ite ?_ ?_
   | refine LeO.bind ?_ (fun _ => ?_)
theorem spec_l9Cover.mono : ∀ a0 a1 a2 a3 k, LeO (spec_l9Cover.f k a0 a1 a2 a3) (spec_l9Cover.f (k + 1) a0 a1 a2 a3) := by
 intro a0 a1 a2 a3 k
 obtain ⟨ih0, ih1, ih2⟩ := spec_l9Cover.mono_l k
 exact ih0 a0 a1 a2 a3
set_option maxHeartbeats 8000000 in
set_option maxRecDepth 100000 in
theorem spec_l9Cover.calls (k : Nat) : ∀ (A0 : Option Addr) (c0 : Nat) (l0 : List Int) (A1 : Option Addr) (c1 : Nat) (l1 : List (S57)) (a2 : Int) (A3 : Option Addr) (c3 : Nat) (l3 : List (S63)) (r : Int) (w : World) (hr0 : Kd.C (Kd.int .i64) w A0 l0.length l0) (hc0 : l0.length ≤ c0) (hr1 : Kd.C k57 w A1 l1.length l1) (hc1 : l1.length ≤ c1) (hr3 : Kd.C k63 w A3 l3.length l3) (hc3 : l3.length ≤ c3) (h : spec_l9Cover.f k l0 l1 a2 l3 = some r),
  Calls Try.prog 52 #[.slice A0 l0.length c0, .slice A1 l1.length c1, .int .i64 a2, .slice A3 l3.length c3] w fun e w' => e = .returned (.int .i64 r) ∧ Below w.heap.size w w' := by
 induction k using Nat.strongRecOn with
 | _ k ih =>
 intro A0 c0 l0 A1 c1 l1 a2 A3 c3 l3 r w hr0 hc0 hr1 hc1 hr3 hc3 h
 cases k with
 | zero => exact absurd h (by simp [spec_l9Cover.f])
 | succ k =>
 simp only [spec_l9Cover.f] at h
 have hu57 := Try.underlying57
 have HR0 := Aside0.mk hr0
 have HC0 := Aside0.mk hc0
 clear hr0 hc0
 have HR1 := Aside0.mk hr1
 have HC1 := Aside0.mk hc1
 clear hr1 hc1
 have HR3 := Aside0.mk hr3
 have HC3 := Aside0.mk hc3
 clear hr3 hc3
 have HB := Aside0.mk (Below.refl w.heap.size w)
 have H : (if (l3.length : Int) = 0 then (spec_l9Cover.j0 k l0 l1 a2 l3 true) else (if 0 < (l3.length : Int) then (if ((rd_T63 l3 0).f0) = a2 then (if ((rd_T63 l3 0).f1) < 0 then (spec_l9Cover.j0 k l0 l1 a2 l3 true) else (spec_l9Cover.j0 k l0 l1 a2 l3 (decide (((rd_T63 l3 0).f1) ≥ (l1.length : Int))))) else (spec_l9Cover.j0 k l0 l1 a2 l3 true)) else (none))) = some r := h
 clear h
 have HC5 := Aside0.mk H
 clear H
 go_enter Try.func52, Try.ntmps52
 go_upto_region 1 with (fail)
 go_cut [41] (fun v41 wc => ∃ (kq : Nat) (x41_4 : Bool), v41 = .bool x41_4 ∧ Aside0 (spec_l9Cover.j0 kq l0 l1 a2 l3 x41_4 = some r) ∧ Aside0 (kq ≤ k) ∧ Aside0 (Below w.heap.size w wc))
 case first =>
  have H := HC5.out
  clear HC5
  by_cases c6 : (l3.length : Int) = 0
  ·rw [if_pos c6] at H
   have c6b0 : ((l3.length : Int) == 0) = true := beq_iff_eq.mpr c6
   have c6b1 : ((l3.length : Int) != 0) = false := bne_eq_false_iff_eq.mpr c6
   clear c6
   (first | rw [c6b0] | (simp only [i64_w, i32_w]; rw [c6b0]) | skip)
   have H' := Aside0.mk H
   clear H
   go_wp2
   go_meet
   case rel => exact ⟨_, (true), lF, H', ⟨lN⟩, ⟨lB⟩⟩
  ·rw [if_neg c6] at H
   have c6b0 : ((l3.length : Int) == 0) = false := beq_eq_false_iff_ne.mpr c6
   have c6b1 : ((l3.length : Int) != 0) = true := bne_iff_ne.mpr c6
   have c6b2 : ¬ (l3 = []) := fun h_ => c6 (by rw [h_]; rfl)
   (first | rw [c6b0] | (simp only [i64_w, i32_w]; rw [c6b0]) | skip)
   by_cases c7 : 0 < (l3.length : Int)
   ·rw [if_pos c7] at H
    have c7b0 : decide (0 < (l3.length : Int)) = true := decide_eq_true c7
    have c7b1 : decide (0 < l3.length) = true := decide_eq_true (by omega)
    clear c7
    by_cases c8 : ((rd_T63 l3 0).f0) = a2
    ·rw [if_pos c8] at H
     have c8b0 : (((rd_T63 l3 0).f0) == a2) = true := beq_iff_eq.mpr c8
     have c8b1 : (((rd_T63 l3 0).f0) != a2) = false := bne_eq_false_iff_eq.mpr c8
     clear c8
     by_cases c9 : ((rd_T63 l3 0).f1) < 0
     ·rw [if_pos c9] at H
      have c9b0 : decide (((rd_T63 l3 0).f1) < 0) = true := decide_eq_true c9
      clear c9
      have H' := Aside0.mk H
      clear H
      have p542 : 0 ≤ (0 : Int) := (by omega)
      have q542 : 0 < (l3.length : Int) := lD
      obtain ⟨ad542, e542, hx542_0, hx542_1⟩ := at_T63 HR3.out 0 p542 q542
      cases e542
      have qi542 : (0 < l3.length) = True := eq_true (by omega)
      (try rw [show ((0 : Int)).toNat = 0 from rfl] at hx542_0)
      (try rw [show 0 * 2 = 0 from rfl] at hx542_0)
      (try rw [Addr.add_zero'] at hx542_0)
      (try rw [show ((0 : Int)).toNat = 0 from rfl] at hx542_1)
      (try rw [show 0 * 2 = 0 from rfl] at hx542_1)
      (try rw [Addr.add_zero'] at hx542_1)
      replace hx542_0 := pw_cell_below HB.out hx542_0
      replace hx542_1 := pw_cell_below HB.out hx542_1
      replace p542 := eq_true p542
      replace q542 := eq_true q542
      have p543 : 0 ≤ (0 : Int) := (by omega)
      have q543 : 0 < (l3.length : Int) := lD
      obtain ⟨ad543, e543, hx543_0, hx543_1⟩ := at_T63 HR3.out 0 p543 q543
      obtain rfl : ad542 = ad543 := (by injection e543)
      have qi543 : (0 < l3.length) = True := eq_true (by omega)
      (try rw [show ((0 : Int)).toNat = 0 from rfl] at hx543_0)
      (try rw [show 0 * 2 = 0 from rfl] at hx543_0)
      (try rw [Addr.add_zero'] at hx543_0)
      (try rw [show ((0 : Int)).toNat = 0 from rfl] at hx543_1)
      (try rw [show 0 * 2 = 0 from rfl] at hx543_1)
      (try rw [Addr.add_zero'] at hx543_1)
      replace hx543_0 := pw_cell_below HB.out hx543_0
      replace hx543_1 := pw_cell_below HB.out hx543_1
      replace p543 := eq_true p543
      replace q543 := eq_true q543
      go_wp2
      go_meet
      case rel => exact ⟨_, (true), lF, H', ⟨lN⟩, ⟨lB⟩⟩
     ·rw [if_neg c9] at H
      have c9b0 : decide (((rd_T63 l3 0).f1) < 0) = false := decide_eq_false c9
      clear c9
      have H' := Aside0.mk H
      clear H
      have p542 : 0 ≤ (0 : Int) := (by omega)
      have q542 : 0 < (l3.length : Int) := lD
      obtain ⟨ad542, e542, hx542_0, hx542_1⟩ := at_T63 HR3.out 0 p542 q542
      cases e542
      have qi542 : (0 < l3.length) = True := eq_true (by omega)
      (try rw [show ((0 : Int)).toNat = 0 from rfl] at hx542_0)
      (try rw [show 0 * 2 = 0 from rfl] at hx542_0)
      (try rw [Addr.add_zero'] at hx542_0)
      (try rw [show ((0 : Int)).toNat = 0 from rfl] at hx542_1)
      (try rw [show 0 * 2 = 0 from rfl] at hx542_1)
      (try rw [Addr.add_zero'] at hx542_1)
      replace hx542_0 := pw_cell_below HB.out hx542_0
      replace hx542_1 := pw_cell_below HB.out hx542_1
      replace p542 := eq_true p542
      replace q542 := eq_true q542
      have p543 : 0 ≤ (0 : Int) := (by omega)
      have q543 : 0 < (l3.length : Int) := lD
      obtain ⟨ad543, e543, hx543_0, hx543_1⟩ := at_T63 HR3.out 0 p543 q543
      obtain rfl : ad542 = ad543 := (by injection e543)
      have qi543 : (0 < l3.length) = True := eq_true (by omega)
      (try rw [show ((0 : Int)).toNat = 0 from rfl] at hx543_0)
      (try rw [show 0 * 2 = 0 from rfl] at hx543_0)
      (try rw [Addr.add_zero'] at hx543_0)
      (try rw [show ((0 : Int)).toNat = 0 from rfl] at hx543_1)
      (try rw [show 0 * 2 = 0 from rfl] at hx543_1)
      (try rw [Addr.add_zero'] at hx543_1)
      replace hx543_0 := pw_cell_below HB.out hx543_0
      replace hx543_1 := pw_cell_below HB.out hx543_1
      replace p543 := eq_true p543
      replace q543 := eq_true q543
      have p544 : 0 ≤ (0 : Int) := (by omega)
      have q544 : 0 < (l3.length : Int) := lD
      obtain ⟨ad544, e544, hx544_0, hx544_1⟩ := at_T63 HR3.out 0 p544 q544
      obtain rfl : ad542 = ad544 := (by injection e544)
      have qi544 : (0 < l3.length) = True := eq_true (by omega)
      (try rw [show ((0 : Int)).toNat = 0 from rfl] at hx544_0)
      (try rw [show 0 * 2 = 0 from rfl] at hx544_0)
      (try rw [Addr.add_zero'] at hx544_0)
      (try rw [show ((0 : Int)).toNat = 0 from rfl] at hx544_1)
      (try rw [show 0 * 2 = 0 from rfl] at hx544_1)
      (try rw [Addr.add_zero'] at hx544_1)
      replace hx544_0 := pw_cell_below HB.out hx544_0
      replace hx544_1 := pw_cell_below HB.out hx544_1
      replace p544 := eq_true p544
      replace q544 := eq_true q544
      go_wp2
      go_meet
      case rel => exact ⟨_, (decide (((rd_T63 l3 0).f1) ≥ (l1.length : Int))), lF, H', ⟨lN⟩, ⟨lB⟩⟩
    ·rw [if_neg c8] at H
     have c8b0 : (((rd_T63 l3 0).f0) == a2) = false := beq_eq_false_iff_ne.mpr c8
     have c8b1 : (((rd_T63 l3 0).f0) != a2) = true := bne_iff_ne.mpr c8
     have H' := Aside0.mk H
     clear H
     have p542 : 0 ≤ (0 : Int) := (by omega)
     have q542 : 0 < (l3.length : Int) := lD
     obtain ⟨ad542, e542, hx542_0, hx542_1⟩ := at_T63 HR3.out 0 p542 q542
     cases e542
     have qi542 : (0 < l3.length) = True := eq_true (by omega)
     (try rw [show ((0 : Int)).toNat = 0 from rfl] at hx542_0)
     (try rw [show 0 * 2 = 0 from rfl] at hx542_0)
     (try rw [Addr.add_zero'] at hx542_0)
     (try rw [show ((0 : Int)).toNat = 0 from rfl] at hx542_1)
     (try rw [show 0 * 2 = 0 from rfl] at hx542_1)
     (try rw [Addr.add_zero'] at hx542_1)
     replace hx542_0 := pw_cell_below HB.out hx542_0
     replace hx542_1 := pw_cell_below HB.out hx542_1
     replace p542 := eq_true p542
     replace q542 := eq_true q542
     go_wp2
     go_meet
     case rel => exact ⟨_, (true), lF, H', ⟨lN⟩, ⟨lB⟩⟩
   ·rw [if_neg c7] at H
    exact absurd H (by simp)
 case rest =>
  clear HC5
  try clear c1
  try clear p2
  try clear c3
  try clear c5
  try clear p5
  try clear q5
  try clear hx5
  try clear qi5
  try clear c6
  try clear c6b0
  try clear c6b1
  try clear c6b2
  try clear c7
  try clear c7b0
  try clear c7b1
  try clear c8
  try clear c8b0
  try clear c8b1
  try clear c9
  try clear c9b0
  try clear hx542_0
  try clear hx542_1
  try clear hx543_0
  try clear hx543_1
  try clear hx544_0
  try clear hx544_1
  try clear p542
  try clear p543
  try clear p544
  try clear q542
  try clear q543
  try clear q544
  obtain ⟨kq, x41_4, rfl, HA, HJ4, HB⟩ := hcut
  cases kq with
  | zero => exact absurd HA.out (by simp [spec_l9Cover.j0])
  | succ kj4 =>
   have H := HA.out
   clear HA
   simp only [spec_l9Cover.j0] at H
   by_cases c10 : x41_4 = true
   ·subst c10
    rw [if_pos rfl] at H
    obtain rfl := Option.some.inj H
    first | (go_wp2; go_ret; exact ⟨lE, lB⟩) | (exfalso; simp only [decide_eq_false_iff_not, decide_eq_true_eq] at *; omega)
   ·replace c10 := Bool.eq_false_iff.mpr c10
    subst c10
    rw [if_neg (show ¬ (false = true) by decide)] at H
    by_cases c11 : 0 < (l3.length : Int)
    ·rw [if_pos c11] at H
     have c11b0 : decide (0 < (l3.length : Int)) = true := decide_eq_true c11
     have c11b1 : decide (0 < l3.length) = true := decide_eq_true (by omega)
     clear c11
     by_cases c12 : 0 ≤ ((rd_T63 l3 0).f1)
     ·rw [if_pos c12] at H
      have c12b0 : decide (0 ≤ ((rd_T63 l3 0).f1)) = true := decide_eq_true c12
      clear c12
      by_cases c13 : ((rd_T63 l3 0).f1) < (l1.length : Int)
      ·rw [if_pos c13] at H
       have c13b0 : decide (((rd_T63 l3 0).f1) < (l1.length : Int)) = true := decide_eq_true c13
       clear c13
       replace H := Option.bind_eq_some_iff.mp H
       obtain ⟨⟨t547, t550⟩, A140, H⟩ := H
       replace H : (if t550 = true then (spec_l9Cover.l0 kj4 l0 l1 l3 1 t547 (t547.length : Int) 0) else (some 0)) = some r := H
       have A14 := Aside0.mk A140
       clear A140
       by_cases c15 : t550 = true
       ·subst c15
        rw [if_pos rfl] at H
        have H' := Aside0.mk H
        clear H
        have p545 : 0 ≤ (0 : Int) := (by omega)
        have q545 : 0 < (l3.length : Int) := lD
        obtain ⟨ad545, e545, hx545_0, hx545_1⟩ := at_T63 HR3.out 0 p545 q545
        cases e545
        have qi545 : (0 < l3.length) = True := eq_true (by omega)
        (try rw [show ((0 : Int)).toNat = 0 from rfl] at hx545_0)
        (try rw [show 0 * 2 = 0 from rfl] at hx545_0)
        (try rw [Addr.add_zero'] at hx545_0)
        (try rw [show ((0 : Int)).toNat = 0 from rfl] at hx545_1)
        (try rw [show 0 * 2 = 0 from rfl] at hx545_1)
        (try rw [Addr.add_zero'] at hx545_1)
        replace hx545_0 := pw_cell_below HB.out hx545_0
        replace hx545_1 := pw_cell_below HB.out hx545_1
        replace p545 := eq_true p545
        replace q545 := eq_true q545
        have p546 : 0 ≤ (((rd_T63 l3 0).f1) : Int) := lD
        have q546 : ((rd_T63 l3 0).f1) < (l1.length : Int) := lD
        obtain ⟨ad546, A546_0, c546_0, e546, hx546_0, hx546_1, hl546_0, hi546_0⟩ := at_T57 HR1.out ((rd_T63 l3 0).f1) p546 q546
        cases e546
        replace hx546_0 := pw_cell_below HB.out hx546_0
        replace hx546_1 := pw_cell_below HB.out hx546_1
        have HR546_0 := Aside0.mk hi546_0
        have HC546_0 := Aside0.mk hl546_0
        clear hi546_0 hl546_0
        replace p546 := eq_true p546
        replace q546 := eq_true q546
        go_wp2_with (first | ((with_reducible refine gate_callee (f := 42) rfl ?_); refine gl_ (some 52) (Try.func42) #[.slice A0 l0.length c0, .int .i64 a2, .agg #[.slice A546_0 ((rd_T57 l1 ((rd_T63 l3 0).f1)).f0).length c546_0, .int .i64 ((rd_T57 l1 ((rd_T63 l3 0).f1)).f1)]] ?_; (with_reducible refine (spec_l9Fits.calls kj4 _ _ l0 a2 _ _ ((rd_T57 l1 ((rd_T63 l3 0).f1)).f0) ((rd_T57 l1 ((rd_T63 l3 0).f1)).f1) t547 true _ ?side1 ?side2 ?side3 ?side4 A14.out).mono ?_); (case side1 => exact lC (Kd.C_below HR0.out HB.out)); (case side2 => exact HC0.out); (case side3 => exact lC (Kd.C_below HR546_0.out HB.out)); (case side4 => exact HC546_0.out); rintro e w16 ⟨v548, rfl, ho0, hb⟩; refine ⟨_, rfl, ?_⟩; have n0_ := Aside0.mk (Kd.R_lower ho0 (below_size lB)); have n1_ := Aside0.mk (below_step lB hb); clear HB; have HO549 := n0_; have HB := n1_; clear n0_ n1_; (try clear hb); (try clear hb2); (try clear hk); (try clear hi); (try clear ho0); obtain ⟨Ao17, co17, eo17⟩ := Kd.R_slice HO549.out; subst eo17))
        go_loopg [11, 59] kj4 (fun kq v11 v59 w' => ∃ (x11_2 : Int) (x59_2 : Int), v11 = .int .i64 x11_2 ∧ v59 = .int .i64 x59_2 ∧ Aside0 (spec_l9Cover.l0 kq l0 l1 l3 x11_2 t547 (t547.length : Int) x59_2 = some r) ∧ Aside0 (kq ≤ kj4) ∧ Aside0 (Kd.R (Kd.int .i64) 3 w' w.heap.size (fun _ => True) (.slice Ao17 t547.length co17) t547) ∧ Aside0 (Below w.heap.size w w'))
        case atStart => exact ⟨(1), (0), lF, lF, H', ⟨Nat.le_refl _⟩, ⟨lR HO549.out⟩, ⟨lB⟩⟩
        case round =>
         clear H'
         try clear c1
         try clear p2
         try clear c3
         try clear c4
         try clear c5
         try clear p5
         try clear q5
         try clear hx5
         try clear qi5
         try clear c6
         try clear c6b0
         try clear c6b1
         try clear c6b2
         try clear c7
         try clear c7b0
         try clear c7b1
         try clear c8
         try clear c8b0
         try clear c8b1
         try clear c9
         try clear c9b0
         try clear c10
         try clear c11
         try clear c11b0
         try clear c11b1
         try clear c12
         try clear c12b0
         try clear c13
         try clear c13b0
         try clear c15
         try clear hx542_0
         try clear hx542_1
         try clear hx543_0
         try clear hx543_1
         try clear hx544_0
         try clear hx544_1
         try clear hx545_0
         try clear hx545_1
         try clear hx546_0
         try clear hx546_1
         try clear p2
         try clear p5
         try clear p542
         try clear p543
         try clear p544
         try clear p545
         try clear p546
         try clear q5
         try clear q542
         try clear q543
         try clear q544
         try clear q545
         try clear q546
         obtain ⟨x11_2, x59_2, rfl, rfl, HA, HK2, HO_57, HB⟩ := hrel
         cases gk with
         | zero => exact absurd HA.out (by simp [spec_l9Cover.l0])
         | succ k2 =>
          have H := HA.out
          clear HA
          simp only [spec_l9Cover.l0] at H
          by_cases c18 : x59_2 < (t547.length : Int)
          ·rw [if_pos c18] at H
           have c18b0 : decide (x59_2 < (t547.length : Int)) = true := decide_eq_true c18
           clear c18
           by_cases c19 : 0 ≤ x59_2
           ·rw [if_pos c19] at H
            have c19b0 : decide (0 ≤ x59_2) = true := decide_eq_true c19
            clear c19
            by_cases c20 : x59_2 < (t547.length : Int)
            ·rw [if_pos c20] at H
             have c20b0 : decide (x59_2 < (t547.length : Int)) = true := decide_eq_true c20
             clear c20
             by_cases c21 : 0 ≤ x11_2
             ·rw [if_pos c21] at H
              have c21b0 := eq_true c21
              have c21b1 : decide (0 ≤ x11_2) = true := decide_eq_true c21
              clear c21
              by_cases c22 : x11_2 ≤ (l3.length : Int)
              ·rw [if_pos c22] at H
               have c22b0 := eq_true c22
               have c22b1 : decide (x11_2 ≤ (l3.length : Int)) = true := decide_eq_true c22
               clear c22
               obtain ⟨y552, hy552⟩ : ∃ y_ : List (S63), y_ = (l3.drop (x11_2 : Int).toNat) := ⟨_, rfl⟩
               replace H : ((spec_l9Cover.f k2 l0 l1 (rd t547 x59_2) y552).bind fun t556 => (if t556 = 0 then (some 0) else (spec_l9Cover.l0 k2 l0 l1 l3 (wrap64 (x11_2 + t556)) t547 (t547.length : Int) (wrap64 (x59_2 + 1))))) = some r := by first | (rw [hy552]; with_reducible exact H) | (have H2_ := (Option.bind_some _ _).symm.trans H; rw [hy552]; with_reducible exact H2_) | (have H2_ := (Option.bind_some _ _).symm.trans H; with_reducible exact H2_) | with_reducible exact H | (rw [hy552]; exact H) | exact H
               have Ny552 := Aside0.mk hy552
               clear hy552
               replace H := lO H
               obtain ⟨t556, A23, H⟩ := H
               by_cases c24 : t556 = 0
               ·rw [if_pos c24] at H
                have c24b0 : (t556 == 0) = true := beq_iff_eq.mpr c24
                have c24b1 : (t556 != 0) = false := bne_eq_false_iff_eq.mpr c24
                clear c24
                obtain rfl := Option.some.inj H
                have p551 : 0 ≤ (x59_2 : Int) := lD
                have q551 : x59_2 < (t547.length : Int) := lD
                obtain ⟨ad551, e551, hx551_0⟩ := Kd.at_int (Kd.R_reads' HO_57.out).2.2 x59_2 p551 q551
                cases e551
                replace p551 := eq_true p551
                replace q551 := eq_true q551
                have q25 : (x11_2 : Int) ≤ ((l3.length : Int) : Int) := lD
                obtain ⟨i025, hi025, _, hsz25, _⟩ := info_parts info63
                have hroom25 : l3.length ≤ c3 := HC3.out
                have hC25 : Kd.C k63 _ (some ad545) l3.length l3 := HR3.out
                have q025 : (0 : Int) ≤ (x11_2 : Int) := lD
                have hcut25 := cut_from (P := Try.prog) 25 63 .i64 Try.underlying25 hi025 2 hsz25 (some ad545) l3.length c3 x11_2 q025 q25
                have hr25 := Kd.C_drop (m := (x11_2 : Int).toNat) (c := c3) hC25 (by omega) hroom25
                obtain ⟨A25, hA25⟩ : ∃ A1, A1 = (if c3 = (x11_2 : Int).toNat then (some ad545) else ((some ad545) : Option Addr).map (·.add ((x11_2 : Int).toNat * 2))) := ⟨_, rfl⟩
                obtain ⟨c25, hc25⟩ : ∃ c1, c1 = c3 - (x11_2 : Int).toNat := ⟨_, rfl⟩
                have hy25 : y552.length = l3.length - (x11_2 : Int).toNat := (by rw [Ny552.out, List.length_drop] <;> omega)
                rw [show (l3).drop (x11_2 : Int).toNat = y552 from Ny552.out.symm] at hr25
                replace hr25 : Kd.C k63 _ A25 y552.length y552 := (by rw [hA25]; exact hr25)
                rw [← hy25, ← hA25, ← hc25] at hcut25
                have HR555 := Aside0.mk hr25
                have HC555 := Aside0.mk (show y552.length ≤ c25 from by rw [hy25, hc25]; exact Nat.sub_le_sub_right hroom25 _)
                clear hr25 hC25 hroom25 hi025 hsz25 hc25
                have KY25 := Aside0.mk hy25
                have KA25 := Aside0.mk hA25
                clear hy25 hA25
                replace q25 := eq_true q25
                go_wp2_with (first | ((with_reducible refine gate_callee (f := 52) rfl ?_); refine gl_ (some 69) (Try.func52) #[.slice A0 l0.length c0, .slice (some ad546) l1.length c1, .int .i64 (rd t547 x59_2), .slice A25 y552.length c25] ?_; (with_reducible refine (ih k2 (by have := HJ4.out; have := HK2.out; omega) _ _ l0 _ _ l1 (rd t547 x59_2) _ _ y552 t556 _ ?side1 ?side2 ?side3 ?side4 ?side5 ?side6 A23.out).mono ?_); (case side1 => exact lC (Kd.C_below HR0.out HB.out)); (case side2 => exact HC0.out); (case side3 => exact lC (Kd.C_below HR1.out HB.out)); (case side4 => exact HC1.out); (case side5 => exact lC (Kd.C_below HR555.out HB.out)); (case side6 => exact HC555.out); rintro e w26 ⟨rfl, hb⟩; refine ⟨_, rfl, ?_⟩; have n0_ := Aside0.mk (Kd.R_below (lR HO_57.out) hb); have n1_ := Aside0.mk (below_step lB hb); clear HO_57; clear HB; have HO_57 := n0_; have HB := n1_; clear n0_ n1_; (try clear hb); (try clear hb2); (try clear hk); (try clear hi)))
                go_ret
                exact ⟨lE, lB⟩
               ·rw [if_neg c24] at H
                have c24b0 : (t556 == 0) = false := beq_eq_false_iff_ne.mpr c24
                have c24b1 : (t556 != 0) = true := bne_iff_ne.mpr c24
                have H' := Aside0.mk H
                clear H
                have p551 : 0 ≤ (x59_2 : Int) := lD
                have q551 : x59_2 < (t547.length : Int) := lD
                obtain ⟨ad551, e551, hx551_0⟩ := Kd.at_int (Kd.R_reads' HO_57.out).2.2 x59_2 p551 q551
                cases e551
                replace p551 := eq_true p551
                replace q551 := eq_true q551
                have q27 : (x11_2 : Int) ≤ ((l3.length : Int) : Int) := lD
                obtain ⟨i027, hi027, _, hsz27, _⟩ := info_parts info63
                have hroom27 : l3.length ≤ c3 := HC3.out
                have hC27 : Kd.C k63 _ (some ad545) l3.length l3 := HR3.out
                have q027 : (0 : Int) ≤ (x11_2 : Int) := lD
                have hcut27 := cut_from (P := Try.prog) 25 63 .i64 Try.underlying25 hi027 2 hsz27 (some ad545) l3.length c3 x11_2 q027 q27
                have hr27 := Kd.C_drop (m := (x11_2 : Int).toNat) (c := c3) hC27 (by omega) hroom27
                obtain ⟨A27, hA27⟩ : ∃ A1, A1 = (if c3 = (x11_2 : Int).toNat then (some ad545) else ((some ad545) : Option Addr).map (·.add ((x11_2 : Int).toNat * 2))) := ⟨_, rfl⟩
                obtain ⟨c27, hc27⟩ : ∃ c1, c1 = c3 - (x11_2 : Int).toNat := ⟨_, rfl⟩
                have hy27 : y552.length = l3.length - (x11_2 : Int).toNat := (by rw [Ny552.out, List.length_drop] <;> omega)
                rw [show (l3).drop (x11_2 : Int).toNat = y552 from Ny552.out.symm] at hr27
                replace hr27 : Kd.C k63 _ A27 y552.length y552 := (by rw [hA27]; exact hr27)
                rw [← hy27, ← hA27, ← hc27] at hcut27
                have HR555 := Aside0.mk hr27
                have HC555 := Aside0.mk (show y552.length ≤ c27 from by rw [hy27, hc27]; exact Nat.sub_le_sub_right hroom27 _)
                clear hr27 hC27 hroom27 hi027 hsz27 hc27
                have KY27 := Aside0.mk hy27
                have KA27 := Aside0.mk hA27
                clear hy27 hA27
                replace q27 := eq_true q27
                go_wp2_with (first | ((with_reducible refine gate_callee (f := 52) rfl ?_); refine gl_ (some 69) (Try.func52) #[.slice A0 l0.length c0, .slice (some ad546) l1.length c1, .int .i64 (rd t547 x59_2), .slice A27 y552.length c27] ?_; (with_reducible refine (ih k2 (by have := HJ4.out; have := HK2.out; omega) _ _ l0 _ _ l1 (rd t547 x59_2) _ _ y552 t556 _ ?side1 ?side2 ?side3 ?side4 ?side5 ?side6 A23.out).mono ?_); (case side1 => exact lC (Kd.C_below HR0.out HB.out)); (case side2 => exact HC0.out); (case side3 => exact lC (Kd.C_below HR1.out HB.out)); (case side4 => exact HC1.out); (case side5 => exact lC (Kd.C_below HR555.out HB.out)); (case side6 => exact HC555.out); rintro e w28 ⟨rfl, hb⟩; refine ⟨_, rfl, ?_⟩; have n0_ := Aside0.mk (Kd.R_below (lR HO_57.out) hb); have n1_ := Aside0.mk (below_step lB hb); clear HO_57; clear HB; have HO_57 := n0_; have HB := n1_; clear n0_ n1_; (try clear hb); (try clear hb2); (try clear hk); (try clear hi)))
                go_roundg k2
                case measure => have := HJ4.out; have := HK2.out; omega
                case rel => exact ⟨(wrap64 (x11_2 + t556)), (wrap64 (x59_2 + 1)), lF, lF, H', ⟨by have := HJ4.out; have := HK2.out; omega⟩, ⟨lR HO_57.out⟩, ⟨lB⟩⟩
              ·rw [if_neg c22] at H
               exact absurd H (by simp)
             ·rw [if_neg c21] at H
              exact absurd H (by simp)
            ·rw [if_neg c20] at H
             exact absurd H (by simp)
           ·rw [if_neg c19] at H
            exact absurd H (by simp)
          ·rw [if_neg c18] at H
           have c18b0 : decide (x59_2 < (t547.length : Int)) = false := decide_eq_false c18
           clear c18
           obtain rfl := Option.some.inj H
           first | (go_wp2; go_ret; exact ⟨lE, lB⟩) | (exfalso; simp only [decide_eq_false_iff_not, decide_eq_true_eq] at *; omega)
       ·replace c15 := Bool.eq_false_iff.mpr c15
        subst c15
        rw [if_neg (show ¬ (false = true) by decide)] at H
        obtain rfl := Option.some.inj H
        have p545 : 0 ≤ (0 : Int) := (by omega)
        have q545 : 0 < (l3.length : Int) := lD
        obtain ⟨ad545, e545, hx545_0, hx545_1⟩ := at_T63 HR3.out 0 p545 q545
        cases e545
        have qi545 : (0 < l3.length) = True := eq_true (by omega)
        (try rw [show ((0 : Int)).toNat = 0 from rfl] at hx545_0)
        (try rw [show 0 * 2 = 0 from rfl] at hx545_0)
        (try rw [Addr.add_zero'] at hx545_0)
        (try rw [show ((0 : Int)).toNat = 0 from rfl] at hx545_1)
        (try rw [show 0 * 2 = 0 from rfl] at hx545_1)
        (try rw [Addr.add_zero'] at hx545_1)
        replace hx545_0 := pw_cell_below HB.out hx545_0
        replace hx545_1 := pw_cell_below HB.out hx545_1
        replace p545 := eq_true p545
        replace q545 := eq_true q545
        have p546 : 0 ≤ (((rd_T63 l3 0).f1) : Int) := lD
        have q546 : ((rd_T63 l3 0).f1) < (l1.length : Int) := lD
        obtain ⟨ad546, A546_0, c546_0, e546, hx546_0, hx546_1, hl546_0, hi546_0⟩ := at_T57 HR1.out ((rd_T63 l3 0).f1) p546 q546
        cases e546
        replace hx546_0 := pw_cell_below HB.out hx546_0
        replace hx546_1 := pw_cell_below HB.out hx546_1
        have HR546_0 := Aside0.mk hi546_0
        have HC546_0 := Aside0.mk hl546_0
        clear hi546_0 hl546_0
        replace p546 := eq_true p546
        replace q546 := eq_true q546
        go_wp2_with (first | ((with_reducible refine gate_callee (f := 42) rfl ?_); refine gl_ (some 52) (Try.func42) #[.slice A0 l0.length c0, .int .i64 a2, .agg #[.slice A546_0 ((rd_T57 l1 ((rd_T63 l3 0).f1)).f0).length c546_0, .int .i64 ((rd_T57 l1 ((rd_T63 l3 0).f1)).f1)]] ?_; (with_reducible refine (spec_l9Fits.calls kj4 _ _ l0 a2 _ _ ((rd_T57 l1 ((rd_T63 l3 0).f1)).f0) ((rd_T57 l1 ((rd_T63 l3 0).f1)).f1) t547 false _ ?side1 ?side2 ?side3 ?side4 A14.out).mono ?_); (case side1 => exact lC (Kd.C_below HR0.out HB.out)); (case side2 => exact HC0.out); (case side3 => exact lC (Kd.C_below HR546_0.out HB.out)); (case side4 => exact HC546_0.out); rintro e w29 ⟨v548, rfl, ho0, hb⟩; refine ⟨_, rfl, ?_⟩; have n0_ := Aside0.mk (Kd.R_lower ho0 (below_size lB)); have n1_ := Aside0.mk (below_step lB hb); clear HB; have HO549 := n0_; have HB := n1_; clear n0_ n1_; (try clear hb); (try clear hb2); (try clear hk); (try clear hi); (try clear ho0)))
        go_ret
        exact ⟨lE, lB⟩
      ·rw [if_neg c13] at H
       exact absurd H (by simp)
     ·rw [if_neg c12] at H
      exact absurd H (by simp)
    ·rw [if_neg c11] at H
     exact absurd H (by simp)

/-! ### spec_IsCover: function 22 -/
def spec_IsCover.j0 : Nat → List Int → List (S57) → List (S63) → Bool → Option (Int × Bool × Bool)
 | 0, _, _, _, _ => none
 | k + 1, x0, x1, x2, x17 => if x17 = true then (some (0, false, false)) else ((spec_l9Cover.f k x0 x1 0 x2).bind fun t559 => (if t559 = 0 then (some (0, false, true)) else (if t559 = (x2.length : Int) then ((spec_l9Sum.f k x1 x2).bind fun t560 => (some (t560, true, true))) else (some (0, false, true)))))
def spec_IsCover.f (k : Nat) (l0 : List Int) (l1 : List (S57)) (l2 : List (S63)) : Option (Int × Bool × Bool) := (spec_GoodTree.f k l0).bind fun t557 => (if t557 = true then ((spec_GoodPatterns.f k l1).bind fun t558 => (spec_IsCover.j0 k l0 l1 l2 (!t558))) else (spec_IsCover.j0 k l0 l1 l2 true))
theorem spec_IsCover.mono_l : ∀ k, (∀ y0 y1 y2 y3, LeO (spec_IsCover.j0 k y0 y1 y2 y3) (spec_IsCover.j0 (k + 1) y0 y1 y2 y3))
 | 0 => fun _ _ _ _ r h => by simp [spec_IsCover.j0] at h
 | k + 1 => by
  have ih0 := spec_IsCover.mono_l k
  ·intro y0 y1 y2 y3
   unfold spec_IsCover.j0
   repeat' first
   | with_reducible apply ih0
   | with_reducible apply spec_GoodPatterns.mono
   | with_reducible apply spec_GoodTree.mono
   | with_reducible apply spec_l9Cover.mono
   | with_reducible apply spec_l9Sum.mono
   | (with_reducible exact LeO.refl _)
   | (with_reducible exact LeO.none _)
   | (with_reducible refine LeO.ite ?_ ?_)
   | (with_reducible refine LeO.bind ?_ (fun _ => ?_))
   | apply ih0
   | apply spec_GoodPatterns.mono
   | apply spec_GoodTree.mono
   | apply spec_l9Cover.mono
   | apply spec_l9Sum.mono
   | exact LeO.none _
   | refine LeO.ite ?_ ?_
   | refine LeO.bind ?_ (fun _ => ?_)
theorem spec_IsCover.mono : ∀ a0 a1 a2 k, LeO (spec_IsCover.f k a0 a1 a2) (spec_IsCover.f (k + 1) a0 a1 a2) := by
 intro a0 a1 a2 k
 have ih0 := spec_IsCover.mono_l k
 unfold spec_IsCover.f
 repeat' first
   | with_reducible apply ih0
   | with_reducible apply spec_GoodPatterns.mono
   | with_reducible apply spec_GoodTree.mono
   | with_reducible apply spec_l9Cover.mono
   | with_reducible apply spec_l9Sum.mono
   | (with_reducible exact LeO.refl _)
   | (with_reducible exact LeO.none _)
   | (with_reducible refine LeO.ite ?_ ?_)
   | (with_reducible refine LeO.bind ?_ (fun _ => ?_))
   | apply ih0
   | apply spec_GoodPatterns.mono
   | apply spec_GoodTree.mono
   | apply spec_l9Cover.mono
   | apply spec_l9Sum.mono
   | exact LeO.none _
   | refine LeO.ite ?_ ?_
   | refine LeO.bind ?_ (fun _ => ?_)
set_option maxHeartbeats 8000000 in
set_option maxRecDepth 100000 in
theorem spec_IsCover.calls (k : Nat) (A0 : Option Addr) (c0 : Nat) (l0 : List Int) (A1 : Option Addr) (c1 : Nat) (l1 : List (S57)) (A2 : Option Addr) (c2 : Nat) (l2 : List (S63)) (r1 : Int) (r2 : Bool) (r3 : Bool) (w : World) (hr0 : Kd.C (Kd.int .i64) w A0 l0.length l0) (hc0 : l0.length ≤ c0) (hr1 : Kd.C k57 w A1 l1.length l1) (hc1 : l1.length ≤ c1) (hr2 : Kd.C k63 w A2 l2.length l2) (hc2 : l2.length ≤ c2) (h : spec_IsCover.f k l0 l1 l2 = some (r1, r2, r3)) :
  Calls Try.prog 22 #[.slice A0 l0.length c0, .slice A1 l1.length c1, .slice A2 l2.length c2] w fun e w' => e = .returned (.tuple #[.int .i64 r1, .bool r2, .bool r3]) ∧ Below w.heap.size w w' := by
 have HR0 := Aside0.mk hr0
 have HC0 := Aside0.mk hc0
 clear hr0 hc0
 have HR1 := Aside0.mk hr1
 have HC1 := Aside0.mk hc1
 clear hr1 hc1
 have HR2 := Aside0.mk hr2
 have HC2 := Aside0.mk hc2
 clear hr2 hc2
 have HB := Aside0.mk (Below.refl w.heap.size w)
 have H : ((spec_GoodTree.f k l0).bind fun t557 => (if t557 = true then ((spec_GoodPatterns.f k l1).bind fun t558 => (spec_IsCover.j0 k l0 l1 l2 (!t558))) else (spec_IsCover.j0 k l0 l1 l2 true))) = some (r1, r2, r3) := h
 clear h
 have HC4 := Aside0.mk H
 clear H
 go_enter Try.func22, Try.ntmps22
 go_upto_region 1 with (fail)
 go_cut [17] (fun v17 wc => ∃ (kq : Nat) (x17_3 : Bool), v17 = .bool x17_3 ∧ Aside0 (spec_IsCover.j0 kq l0 l1 l2 x17_3 = some (r1, r2, r3)) ∧ Aside0 (kq ≤ k) ∧ Aside0 (Below w.heap.size w wc))
 case first =>
  have H := HC4.out
  clear HC4
  replace H := lO H
  obtain ⟨t557, A5, H⟩ := H
  by_cases c6 : t557 = true
  ·subst c6
   rw [if_pos rfl] at H
   replace H := lO H
   obtain ⟨t558, A7, H⟩ := H
   have H' := Aside0.mk H
   clear H
   go_wp2_with (first | ((with_reducible refine gate_callee (f := 25) rfl ?_); refine gl_ (some 11) (Try.func25) #[.slice A0 l0.length c0] ?_; (with_reducible refine (spec_GoodTree.calls k _ _ l0 true _ ?side1 ?side2 A5.out).mono ?_); (case side1 => exact lC (Kd.C_below HR0.out HB.out)); (case side2 => exact HC0.out); rintro e w' ⟨rfl, ⟨nd, rfl⟩⟩; refine ⟨_, rfl, ?_⟩) | (go_at_call 27; (with_reducible refine (spec_GoodPatterns.calls k _ _ l1 t558 _ ?side1 ?side2 A7.out).mono ?_); (case side1 => repeat (first | exact (Kd.C_below HR1.out lB) | (with_reducible refine Kd.C_alloc ?_ _) | (with_reducible refine Kd.C_drewN ?_ _) | (with_reducible refine Kd.C_drew ?_))); (case side2 => exact HC1.out); rintro e w8 ⟨rfl, hb⟩; have n0_ := Aside0.mk (below_step lB hb); clear HB; have HB := n0_; clear n0_; (try clear hb); (try clear hb2); (try clear hk); (try clear hi)))
   go_meet
   case rel => exact ⟨_, (!t558), lF, H', ⟨lN⟩, ⟨lB⟩⟩
  ·replace c6 := Bool.eq_false_iff.mpr c6
   subst c6
   rw [if_neg (show ¬ (false = true) by decide)] at H
   have H' := Aside0.mk H
   clear H
   go_wp2_with (first | ((with_reducible refine gate_callee (f := 25) rfl ?_); refine gl_ (some 11) (Try.func25) #[.slice A0 l0.length c0] ?_; (with_reducible refine (spec_GoodTree.calls k _ _ l0 false _ ?side1 ?side2 A5.out).mono ?_); (case side1 => exact lC (Kd.C_below HR0.out HB.out)); (case side2 => exact HC0.out); rintro e w' ⟨rfl, ⟨nd, rfl⟩⟩; refine ⟨_, rfl, ?_⟩))
   go_meet
   case rel => exact ⟨_, (true), lF, H', ⟨lN⟩, ⟨lB⟩⟩
 case rest =>
  clear HC4
  try clear c1
  try clear c2
  try clear p2
  try clear c6
  obtain ⟨kq, x17_3, rfl, HA, HJ3, HB⟩ := hcut
  cases kq with
  | zero => exact absurd HA.out (by simp [spec_IsCover.j0])
  | succ kj3 =>
   have H := HA.out
   clear HA
   simp only [spec_IsCover.j0] at H
   by_cases c9 : x17_3 = true
   ·subst c9
    rw [if_pos rfl] at H
    simp only [Option.some.injEq, Prod.mk.injEq] at H
    obtain ⟨rfl, rfl, rfl⟩ := H
    go_wp2
    go_ret3
    exact ⟨lE, lB⟩
   ·replace c9 := Bool.eq_false_iff.mpr c9
    subst c9
    rw [if_neg (show ¬ (false = true) by decide)] at H
    replace H := lO H
    obtain ⟨t559, A10, H⟩ := H
    by_cases c11 : t559 = 0
    ·rw [if_pos c11] at H
     have c11b0 : (t559 == 0) = true := beq_iff_eq.mpr c11
     have c11b1 : (t559 != 0) = false := bne_eq_false_iff_eq.mpr c11
     clear c11
     simp only [Option.some.injEq, Prod.mk.injEq] at H
     obtain ⟨rfl, rfl, rfl⟩ := H
     go_wp2_with (first | ((with_reducible refine gate_callee (f := 52) rfl ?_); refine gl_ (some 21) (Try.func52) #[.slice A0 l0.length c0, .slice A1 l1.length c1, .int .i64 0, .slice A2 l2.length c2] ?_; (with_reducible refine (spec_l9Cover.calls kj3 _ _ l0 _ _ l1 0 _ _ l2 t559 _ ?side1 ?side2 ?side3 ?side4 ?side5 ?side6 A10.out).mono ?_); (case side1 => exact lC (Kd.C_below HR0.out HB.out)); (case side2 => exact HC0.out); (case side3 => exact lC (Kd.C_below HR1.out HB.out)); (case side4 => exact HC1.out); (case side5 => exact lC (Kd.C_below HR2.out HB.out)); (case side6 => exact HC2.out); rintro e w12 ⟨rfl, hb⟩; refine ⟨_, rfl, ?_⟩; have n0_ := Aside0.mk (below_step lB hb); clear HB; have HB := n0_; clear n0_; (try clear hb); (try clear hb2); (try clear hk); (try clear hi)))
     go_ret3
     exact ⟨lE, lB⟩
    ·rw [if_neg c11] at H
     have c11b0 : (t559 == 0) = false := beq_eq_false_iff_ne.mpr c11
     have c11b1 : (t559 != 0) = true := bne_iff_ne.mpr c11
     by_cases c13 : t559 = (l2.length : Int)
     ·rw [if_pos c13] at H
      have c13b0 : (t559 == (l2.length : Int)) = true := beq_iff_eq.mpr c13
      have c13b1 : (t559 != (l2.length : Int)) = false := bne_eq_false_iff_eq.mpr c13
      clear c13
      replace H := lO H
      obtain ⟨t560, A14, H⟩ := H
      simp only [Option.some.injEq, Prod.mk.injEq] at H
      obtain ⟨rfl, rfl, rfl⟩ := H
      go_wp2_with (first | ((with_reducible refine gate_callee (f := 52) rfl ?_); refine gl_ (some 21) (Try.func52) #[.slice A0 l0.length c0, .slice A1 l1.length c1, .int .i64 0, .slice A2 l2.length c2] ?_; (with_reducible refine (spec_l9Cover.calls kj3 _ _ l0 _ _ l1 0 _ _ l2 t559 _ ?side1 ?side2 ?side3 ?side4 ?side5 ?side6 A10.out).mono ?_); (case side1 => exact lC (Kd.C_below HR0.out HB.out)); (case side2 => exact HC0.out); (case side3 => exact lC (Kd.C_below HR1.out HB.out)); (case side4 => exact HC1.out); (case side5 => exact lC (Kd.C_below HR2.out HB.out)); (case side6 => exact HC2.out); rintro e w15 ⟨rfl, hb⟩; refine ⟨_, rfl, ?_⟩; have n0_ := Aside0.mk (below_step lB hb); clear HB; have HB := n0_; clear n0_; (try clear hb); (try clear hb2); (try clear hk); (try clear hi)) | ((with_reducible refine gate_callee (f := 44) rfl ?_); refine gl_ (some 32) (Try.func44) #[.slice A1 l1.length c1, .slice A2 l2.length c2] ?_; (with_reducible refine (spec_l9Sum.calls kj3 _ _ l1 _ _ l2 t560 _ ?side1 ?side2 ?side3 ?side4 A14.out).mono ?_); (case side1 => exact lC (Kd.C_below HR1.out HB.out)); (case side2 => exact HC1.out); (case side3 => exact lC (Kd.C_below HR2.out HB.out)); (case side4 => exact HC2.out); rintro e w16 ⟨rfl, hb⟩; refine ⟨_, rfl, ?_⟩; have n0_ := Aside0.mk (below_step lB hb); clear HB; have HB := n0_; clear n0_; (try clear hb); (try clear hb2); (try clear hk); (try clear hi)))
      go_ret3
      exact ⟨lE, lB⟩
     ·rw [if_neg c13] at H
      have c13b0 : (t559 == (l2.length : Int)) = false := beq_eq_false_iff_ne.mpr c13
      have c13b1 : (t559 != (l2.length : Int)) = true := bne_iff_ne.mpr c13
      simp only [Option.some.injEq, Prod.mk.injEq] at H
      obtain ⟨rfl, rfl, rfl⟩ := H
      go_wp2_with (first | ((with_reducible refine gate_callee (f := 52) rfl ?_); refine gl_ (some 21) (Try.func52) #[.slice A0 l0.length c0, .slice A1 l1.length c1, .int .i64 0, .slice A2 l2.length c2] ?_; (with_reducible refine (spec_l9Cover.calls kj3 _ _ l0 _ _ l1 0 _ _ l2 t559 _ ?side1 ?side2 ?side3 ?side4 ?side5 ?side6 A10.out).mono ?_); (case side1 => exact lC (Kd.C_below HR0.out HB.out)); (case side2 => exact HC0.out); (case side3 => exact lC (Kd.C_below HR1.out HB.out)); (case side4 => exact HC1.out); (case side5 => exact lC (Kd.C_below HR2.out HB.out)); (case side6 => exact HC2.out); rintro e w17 ⟨rfl, hb⟩; refine ⟨_, rfl, ?_⟩; have n0_ := Aside0.mk (below_step lB hb); clear HB; have HB := n0_; clear n0_; (try clear hb); (try clear hb2); (try clear hk); (try clear hi)))
      go_ret3
      exact ⟨lE, lB⟩

/-! ### laws_samePieces: function 23 -/
def laws_samePieces.l0 : Nat → List (S63) → List (S63) → Int → Int → Option (Bool)
 | 0, _, _, _, _ => none
 | k + 1, x0, x1, x12, x13 => if x13 < x12 then (if 0 ≤ x13 then (if x13 < (x0.length : Int) then (if x13 < (x1.length : Int) then (if (!(((rd_T63 x0 x13).f0) == ((rd_T63 x1 x13).f0)) || (!(((rd_T63 x0 x13).f1) == ((rd_T63 x1 x13).f1)))) = true then (some false) else (laws_samePieces.l0 k x0 x1 x12 (wrap64 (x13 + 1)))) else (none)) else (none)) else (none)) else (some true)
def laws_samePieces.f (k : Nat) (l0 : List (S63)) (l1 : List (S63)) : Option (Bool) := if (l0.length : Int) = (l1.length : Int) then (laws_samePieces.l0 k l0 l1 (l0.length : Int) 0) else (some false)
theorem laws_samePieces.mono_l : ∀ k, (∀ y0 y1 y2 y3, LeO (laws_samePieces.l0 k y0 y1 y2 y3) (laws_samePieces.l0 (k + 1) y0 y1 y2 y3))
 | 0 => fun _ _ _ _ r h => by simp [laws_samePieces.l0] at h
 | k + 1 => by
  have ih0 := laws_samePieces.mono_l k
  ·intro y0 y1 y2 y3
   unfold laws_samePieces.l0
   repeat' first
   | with_reducible apply ih0
   | (with_reducible exact LeO.refl _)
   | (with_reducible exact LeO.none _)
   | (with_reducible refine LeO.ite ?_ ?_)
   | (with_reducible refine LeO.bind ?_ (fun _ => ?_))
   | apply ih0
   | exact LeO.none _
   | refine LeO.ite ?_ ?_
   | refine LeO.bind ?_ (fun _ => ?_)
theorem laws_samePieces.mono : ∀ a0 a1 k, LeO (laws_samePieces.f k a0 a1) (laws_samePieces.f (k + 1) a0 a1) := by
 intro a0 a1 k
 have ih0 := laws_samePieces.mono_l k
 unfold laws_samePieces.f
 repeat' first
   | with_reducible apply ih0
   | (with_reducible exact LeO.refl _)
   | (with_reducible exact LeO.none _)
   | (with_reducible refine LeO.ite ?_ ?_)
   | (with_reducible refine LeO.bind ?_ (fun _ => ?_))
   | apply ih0
   | exact LeO.none _
   | refine LeO.ite ?_ ?_
   | refine LeO.bind ?_ (fun _ => ?_)
set_option maxHeartbeats 8000000 in
set_option maxRecDepth 100000 in
theorem laws_samePieces.calls (k : Nat) (A0 : Option Addr) (c0 : Nat) (l0 : List (S63)) (A1 : Option Addr) (c1 : Nat) (l1 : List (S63)) (r : Bool) (w : World) (hr0 : Kd.C k63 w A0 l0.length l0) (hc0 : l0.length ≤ c0) (hr1 : Kd.C k63 w A1 l1.length l1) (hc1 : l1.length ≤ c1) (h : laws_samePieces.f k l0 l1 = some r) :
  Calls Try.prog 23 #[.slice A0 l0.length c0, .slice A1 l1.length c1] w fun e w' => e = .returned (.bool r) ∧ Drawn0 w w' := by
 have hu63 := Try.underlying63
 have HR0 := Aside0.mk hr0
 have HC0 := Aside0.mk hc0
 clear hr0 hc0
 have HR1 := Aside0.mk hr1
 have HC1 := Aside0.mk hc1
 clear hr1 hc1
 have H : (if (l0.length : Int) = (l1.length : Int) then (laws_samePieces.l0 k l0 l1 (l0.length : Int) 0) else (some false)) = some r := h
 clear h
 by_cases c3 : (l0.length : Int) = (l1.length : Int)
 ·rw [if_pos c3] at H
  have c3b0 : ((l0.length : Int) == (l1.length : Int)) = true := beq_iff_eq.mpr c3
  have c3b1 : ((l0.length : Int) != (l1.length : Int)) = false := bne_eq_false_iff_eq.mpr c3
  have c3b2 : (l0.length == l1.length) = true := by first | simpa using c3 | (simp at c3 ⊢; omega)
  clear c3
  have H' := Aside0.mk H
  clear H
  go_enter Try.func23, Try.ntmps23
  go_wp2
  repeat (go_quiet (fail); try go_wp2)
  go_loopg [13] k (fun kq v13 w' => ∃ (x13_1 : Int), v13 = .int .i64 x13_1 ∧ Aside0 (laws_samePieces.l0 kq l0 l1 (l0.length : Int) x13_1 = some r) ∧ Aside0 (kq ≤ k) ∧ Drawn0 w w')
  case atStart => exact ⟨(0), lF, H', ⟨Nat.le_refl _⟩, by repeat (first | exact Drawn0.refl _ | apply Drawn0.step)⟩
  case round =>
   clear H'
   try clear c1
   try clear c2
   try clear p2
   try clear c3
   try clear c3b0
   try clear c3b1
   try clear c3b2
   obtain ⟨x13_1, rfl, HA, HK1, ⟨m1, rfl⟩⟩ := hrel
   cases gk with
   | zero => exact absurd HA.out (by simp [laws_samePieces.l0])
   | succ k1 =>
    have H := HA.out
    clear HA
    simp only [laws_samePieces.l0] at H
    by_cases c4 : x13_1 < (l0.length : Int)
    ·rw [if_pos c4] at H
     have c4b0 : decide (x13_1 < (l0.length : Int)) = true := decide_eq_true c4
     clear c4
     by_cases c5 : 0 ≤ x13_1
     ·rw [if_pos c5] at H
      have c5b0 : decide (0 ≤ x13_1) = true := decide_eq_true c5
      clear c5
      by_cases c6 : x13_1 < (l0.length : Int)
      ·rw [if_pos c6] at H
       have c6b0 : decide (x13_1 < (l0.length : Int)) = true := decide_eq_true c6
       clear c6
       by_cases c7 : x13_1 < (l1.length : Int)
       ·rw [if_pos c7] at H
        have c7b0 : decide (x13_1 < (l1.length : Int)) = true := decide_eq_true c7
        clear c7
        by_cases c8 : (!(((rd_T63 l0 x13_1).f0) == ((rd_T63 l1 x13_1).f0)) || (!(((rd_T63 l0 x13_1).f1) == ((rd_T63 l1 x13_1).f1)))) = true
        ·rw [if_pos c8] at H
         have c8b0 : (!(((rd_T63 l0 x13_1).f0) == ((rd_T63 l1 x13_1).f0)) || (!(((rd_T63 l0 x13_1).f1) == ((rd_T63 l1 x13_1).f1)))) = true := c8
         clear c8
         obtain rfl := Option.some.inj H
         have p561 : 0 ≤ (x13_1 : Int) := lD
         have q561 : x13_1 < (l0.length : Int) := lD
         obtain ⟨ad561, e561, hx561_0, hx561_1⟩ := at_T63 HR0.out x13_1 p561 q561
         cases e561
         replace p561 := eq_true p561
         replace q561 := eq_true q561
         have p562 : 0 ≤ (x13_1 : Int) := lD
         have q562 : x13_1 < (l1.length : Int) := lD
         obtain ⟨ad562, e562, hx562_0, hx562_1⟩ := at_T63 HR1.out x13_1 p562 q562
         cases e562
         replace p562 := eq_true p562
         replace q562 := eq_true q562
         go_wp2
         repeat (go_quiet (fail); try go_wp2)
         go_ret
         exact ⟨by first | rfl | (simp; done) | (simp [*]; done), by repeat (first | exact Drawn0.refl _ | apply Drawn0.step)⟩
        ·rw [if_neg c8] at H
         have c8b0 : (!(((rd_T63 l0 x13_1).f0) == ((rd_T63 l1 x13_1).f0)) || (!(((rd_T63 l0 x13_1).f1) == ((rd_T63 l1 x13_1).f1)))) = false := by simpa using c8
         clear c8
         have H' := Aside0.mk H
         clear H
         have p561 : 0 ≤ (x13_1 : Int) := lD
         have q561 : x13_1 < (l0.length : Int) := lD
         obtain ⟨ad561, e561, hx561_0, hx561_1⟩ := at_T63 HR0.out x13_1 p561 q561
         cases e561
         replace p561 := eq_true p561
         replace q561 := eq_true q561
         have p562 : 0 ≤ (x13_1 : Int) := lD
         have q562 : x13_1 < (l1.length : Int) := lD
         obtain ⟨ad562, e562, hx562_0, hx562_1⟩ := at_T63 HR1.out x13_1 p562 q562
         cases e562
         replace p562 := eq_true p562
         replace q562 := eq_true q562
         go_wp2
         repeat (go_quiet (fail); try go_wp2)
         go_roundg k1
         case measure => have := HK1.out; omega
         case rel => exact ⟨(wrap64 (x13_1 + 1)), lF, H', ⟨by have := HK1.out; omega⟩, by repeat (first | exact Drawn0.refl _ | apply Drawn0.step)⟩
       ·rw [if_neg c7] at H
        exact absurd H (by simp)
      ·rw [if_neg c6] at H
       exact absurd H (by simp)
     ·rw [if_neg c5] at H
      exact absurd H (by simp)
    ·rw [if_neg c4] at H
     have c4b0 : decide (x13_1 < (l0.length : Int)) = false := decide_eq_false c4
     clear c4
     obtain rfl := Option.some.inj H
     go_wp2
     repeat (go_quiet (fail); try go_wp2)
     go_ret
     exact ⟨by first | rfl | (simp; done) | (simp [*]; done), by repeat (first | exact Drawn0.refl _ | apply Drawn0.step)⟩
 ·rw [if_neg c3] at H
  have c3b0 : ((l0.length : Int) == (l1.length : Int)) = false := beq_eq_false_iff_ne.mpr c3
  have c3b1 : ((l0.length : Int) != (l1.length : Int)) = true := bne_iff_ne.mpr c3
  have c3b2 : (l0.length == l1.length) = false := by first | simpa using c3 | (simp at c3 ⊢; omega)
  obtain rfl := Option.some.inj H
  go_enter Try.func23, Try.ntmps23
  go_wp2
  repeat (go_quiet (fail); try go_wp2)
  go_ret
  exact ⟨by first | rfl | (simp; done) | (simp [*]; done), by repeat (first | exact Drawn0.refl _ | apply Drawn0.step)⟩

end Go.Proofs.Ytfdbdbihhgabpaa.Q
