-- Written by the program wip/tools/pr.py of this claim's session, over the kit's print.py.
import Derived.Test.YtpnhlccdhflogaaQx0
import Derived.Test.YtpnhlccdhflogaaQx1
namespace Go.Proofs.Ytpnhlccdhflogaa.Q
open Go.RowKit Go.Proofs.YtpnhlccdhflogaaW.PrintWords Go.Proofs.YtpnhlccdhflogaaW.PrintLast Go.Proofs.YtpnhlccdhflogaaW.PrintMore
attribute [local go_sem] max2_int min2_int max_two min_two max_three min_three max_four min_four   -- for this text's walks alone
set_option linter.unusedVariables false
set_option linter.unusedSimpArgs false

/-! ### spec_l11Blocks: function 73 -/
def spec_l11Blocks.f (a0 : Int) : Option (Bool) := (spec_l1In.f a0 1 8).bind fun t125 => (some t125)
set_option maxHeartbeats 8000000 in
set_option maxRecDepth 100000 in
theorem spec_l11Blocks.calls (a0 : Int) (r : Bool) (w : World) (h : spec_l11Blocks.f a0 = some r) :
  Calls Try.prog 73 #[.int .i64 a0] w fun e w' => e = .returned (.bool r) ∧ Drawn0 w w' := by
 have H : ((spec_l1In.f a0 1 8).bind fun t125 => (some t125)) = some r := h
 clear h
 replace H := lO H
 obtain ⟨t125, A2, H⟩ := H
 obtain rfl := Option.some.inj H
 go_enter Try.func73, Try.ntmps73
 go_wp2_with (first | ((with_reducible refine gate_callee (f := 84) rfl ?_); refine gl_ (some 4) (Try.func84) #[.int .i64 a0, .int .i64 1, .int .i64 8] ?_; (with_reducible refine (spec_l1In.calls a0 1 8 t125 _ A2.out).mono ?_); rintro e w' ⟨rfl, ⟨nd, rfl⟩⟩; refine ⟨_, rfl, ?_⟩))
 go_ret
 exact ⟨by first | rfl | (simp; done) | (simp [*]; done), by repeat (first | exact Drawn0.refl _ | apply Drawn0.step)⟩

/-! ### spec_IsLayout: function 37 -/
mutual
def spec_IsLayout.j0 : Nat → Int → List Int → Bool → Option (Bool)
 | 0, _, _, _ => none
 | k + 1, x0, x1, x21 => if x21 = true then (some false) else (spec_IsLayout.l0 k x0 x1 x1 (x1.length : Int) 0)
def spec_IsLayout.l0 : Nat → Int → List Int → List Int → Int → Int → Option (Bool)
 | 0, _, _, _, _, _ => none
 | k + 1, x0, x1, x22, x23, x24 => if x24 < x23 then (if 0 ≤ x24 then (if x24 < (x22.length : Int) then (if (rd x22 x24) < 0 then (some false) else (if (rd x22 x24) ≥ x0 then (some false) else (if x24 ≤ (x1.length : Int) then ((spec_l1Has.f k (x1.take (x24 : Int).toNat) (rd x22 x24)).bind fun t130 => (if t130 = true then (some false) else (spec_IsLayout.l0 k x0 x1 x22 x23 (wrap64 (x24 + 1))))) else (none)))) else (none)) else (none)) else (some true)
end
def spec_IsLayout.f (k : Nat) (a0 : Int) (l1 : List Int) : Option (Bool) := (spec_l11Blocks.f a0).bind fun t126 => (if t126 = true then (if (l1.length : Int) = a0 then (if 0 < (l1.length : Int) then (spec_IsLayout.j0 k a0 l1 ((rd l1 0) != 0)) else (none)) else (spec_IsLayout.j0 k a0 l1 true)) else (spec_IsLayout.j0 k a0 l1 true))
theorem spec_IsLayout.mono_l : ∀ k, (∀ y0 y1 y2, LeO (spec_IsLayout.j0 k y0 y1 y2) (spec_IsLayout.j0 (k + 1) y0 y1 y2)) ∧ (∀ y0 y1 y2 y3 y4, LeO (spec_IsLayout.l0 k y0 y1 y2 y3 y4) (spec_IsLayout.l0 (k + 1) y0 y1 y2 y3 y4))
 | 0 => ⟨fun _ _ _ r h => by simp [spec_IsLayout.j0] at h, fun _ _ _ _ _ r h => by simp [spec_IsLayout.l0] at h⟩
 | k + 1 => by
  obtain ⟨ih0, ih1⟩ := spec_IsLayout.mono_l k
  refine ⟨?_, ?_⟩
  ·intro y0 y1 y2
   unfold spec_IsLayout.j0
   repeat' first
   | with_reducible apply ih0
   | with_reducible apply ih1
   | with_reducible apply spec_l1Has.mono
   | (with_reducible exact LeO.refl _)
   | (with_reducible exact LeO.none _)
   | (with_reducible refine LeO.ite ?_ ?_)
   | (with_reducible refine LeO.bind ?_ (fun _ => ?_))
   | apply ih0
   | apply ih1
   | apply spec_l1Has.mono
   | exact LeO.none _
   | refine LeO.ite ?_ ?_
   | refine LeO.bind ?_ (fun _ => ?_)
  ·intro y0 y1 y2 y3 y4
   unfold spec_IsLayout.l0
   repeat' first
   | with_reducible apply ih0
   | with_reducible apply ih1
   | with_reducible apply spec_l1Has.mono
   | (with_reducible exact LeO.refl _)
   | (with_reducible exact LeO.none _)
   | (with_reducible refine LeO.ite ?_ ?_)
   | (with_reducible refine LeO.bind ?_ (fun _ => ?_))
   | apply ih0
   | apply ih1
   | apply spec_l1Has.mono
   | exact LeO.none _
   | refine LeO.ite ?_ ?_
   | refine LeO.bind ?_ (fun _ => ?_)
theorem spec_IsLayout.mono : ∀ a0 a1 k, LeO (spec_IsLayout.f k a0 a1) (spec_IsLayout.f (k + 1) a0 a1) := by
 intro a0 a1 k
 obtain ⟨ih0, ih1⟩ := spec_IsLayout.mono_l k
 unfold spec_IsLayout.f
 repeat' first
   | with_reducible apply ih0
   | with_reducible apply ih1
   | with_reducible apply spec_l1Has.mono
   | (with_reducible exact LeO.refl _)
   | (with_reducible exact LeO.none _)
   | (with_reducible refine LeO.ite ?_ ?_)
   | (with_reducible refine LeO.bind ?_ (fun _ => ?_))
   | apply ih0
   | apply ih1
   | apply spec_l1Has.mono
   | exact LeO.none _
   | refine LeO.ite ?_ ?_
   | refine LeO.bind ?_ (fun _ => ?_)
set_option maxHeartbeats 8000000 in
set_option maxRecDepth 100000 in
theorem spec_IsLayout.calls (k : Nat) (a0 : Int) (A1 : Option Addr) (c1 : Nat) (l1 : List Int) (r : Bool) (w : World) (hr1 : Kd.C (Kd.int .i64) w A1 l1.length l1) (hc1 : l1.length ≤ c1) (h : spec_IsLayout.f k a0 l1 = some r) :
  Calls Try.prog 37 #[.int .i64 a0, .slice A1 l1.length c1] w fun e w' => e = .returned (.bool r) ∧ Drawn0 w w' := by
 have HR1 := Aside0.mk hr1
 have HC1 := Aside0.mk hc1
 clear hr1 hc1
 have H : ((spec_l11Blocks.f a0).bind fun t126 => (if t126 = true then (if (l1.length : Int) = a0 then (if 0 < (l1.length : Int) then (spec_IsLayout.j0 k a0 l1 ((rd l1 0) != 0)) else (none)) else (spec_IsLayout.j0 k a0 l1 true)) else (spec_IsLayout.j0 k a0 l1 true))) = some r := h
 clear h
 have HC3 := Aside0.mk H
 clear H
 go_enter Try.func37, Try.ntmps37
 go_upto_region 1 with (fail)
 go_cut [21] (fun v21 wc => ∃ (kq : Nat) (x21_2 : Bool), v21 = .bool x21_2 ∧ Aside0 (spec_IsLayout.j0 kq a0 l1 x21_2 = some r) ∧ Aside0 (kq ≤ k) ∧ Drawn0 w wc)
 case first =>
  have H := HC3.out
  clear HC3
  replace H := lO H
  obtain ⟨t126, A4, H⟩ := H
  by_cases c5 : t126 = true
  ·subst c5
   rw [if_pos rfl] at H
   by_cases c6 : (l1.length : Int) = a0
   ·rw [if_pos c6] at H
    have c6b0 : ((l1.length : Int) == a0) = true := beq_iff_eq.mpr c6
    have c6b1 : ((l1.length : Int) != a0) = false := bne_eq_false_iff_eq.mpr c6
    clear c6
    (first | rw [c6b0] | (simp only [i64_w, i32_w]; rw [c6b0]) | skip)
    by_cases c7 : 0 < (l1.length : Int)
    ·rw [if_pos c7] at H
     have c7b0 : decide (0 < (l1.length : Int)) = true := decide_eq_true c7
     have c7b1 : decide (0 < l1.length) = true := decide_eq_true (by omega)
     clear c7
     have H' := Aside0.mk H
     clear H
     go_wp2_with (first | ((with_reducible refine gate_callee (f := 73) rfl ?_); refine gl_ (some 8) (Try.func73) #[.int .i64 a0] ?_; (with_reducible refine (spec_l11Blocks.calls a0 true _ A4.out).mono ?_); rintro e w' ⟨rfl, ⟨nd, rfl⟩⟩; refine ⟨_, rfl, ?_⟩; have p127 : 0 ≤ (0 : Int) := (by omega); have q127 : 0 < (l1.length : Int) := lD; obtain ⟨ad127, e127, hx127_0⟩ := Kd.at_int HR1.out 0 p127 q127; cases e127; have qi127 : (0 < l1.length) = True := eq_true (by omega); (try rw [show ((0 : Int)).toNat = 0 from rfl] at hx127_0); (try rw [Addr.add_zero'] at hx127_0); replace p127 := eq_true p127; replace q127 := eq_true q127))
     go_meet
     case rel => exact ⟨_, (((rd l1 0) != 0)), lF, H', ⟨lN⟩, by repeat (first | exact Drawn0.refl _ | apply Drawn0.step)⟩
    ·rw [if_neg c7] at H
     exact absurd H (by simp)
   ·rw [if_neg c6] at H
    have c6b0 : ((l1.length : Int) == a0) = false := beq_eq_false_iff_ne.mpr c6
    have c6b1 : ((l1.length : Int) != a0) = true := bne_iff_ne.mpr c6
    (first | rw [c6b0] | (simp only [i64_w, i32_w]; rw [c6b0]) | skip)
    have H' := Aside0.mk H
    clear H
    go_wp2_with (first | ((with_reducible refine gate_callee (f := 73) rfl ?_); refine gl_ (some 8) (Try.func73) #[.int .i64 a0] ?_; (with_reducible refine (spec_l11Blocks.calls a0 true _ A4.out).mono ?_); rintro e w' ⟨rfl, ⟨nd, rfl⟩⟩; refine ⟨_, rfl, ?_⟩))
    go_meet
    case rel => exact ⟨_, (true), lF, H', ⟨lN⟩, by repeat (first | exact Drawn0.refl _ | apply Drawn0.step)⟩
  ·replace c5 := Bool.eq_false_iff.mpr c5
   subst c5
   rw [if_neg (show ¬ (false = true) by decide)] at H
   have H' := Aside0.mk H
   clear H
   go_wp2_with (first | ((with_reducible refine gate_callee (f := 73) rfl ?_); refine gl_ (some 8) (Try.func73) #[.int .i64 a0] ?_; (with_reducible refine (spec_l11Blocks.calls a0 false _ A4.out).mono ?_); rintro e w' ⟨rfl, ⟨nd, rfl⟩⟩; refine ⟨_, rfl, ?_⟩))
   go_meet
   case rel => exact ⟨_, (true), lF, H', ⟨lN⟩, by repeat (first | exact Drawn0.refl _ | apply Drawn0.step)⟩
 case rest =>
  clear HC3
  try clear c1
  try clear p1
  try clear q1
  try clear hx1
  try clear qi1
  try clear p2
  try clear c3
  try clear c5
  try clear c6
  try clear c6b0
  try clear c6b1
  try clear c7
  try clear c7b0
  try clear c7b1
  try clear hx127_0
  try clear p127
  try clear q127
  obtain ⟨kq, x21_2, rfl, HA, HJ2, ⟨mc2, rfl⟩⟩ := hcut
  cases kq with
  | zero => exact absurd HA.out (by simp [spec_IsLayout.j0])
  | succ kj2 =>
   have H := HA.out
   clear HA
   simp only [spec_IsLayout.j0] at H
   by_cases c8 : x21_2 = true
   ·subst c8
    rw [if_pos rfl] at H
    obtain rfl := Option.some.inj H
    first | (go_wp2; go_ret; exact ⟨by first | rfl | (simp; done) | (simp [*]; done), by repeat (first | exact Drawn0.refl _ | apply Drawn0.step)⟩) | (exfalso; simp only [decide_eq_false_iff_not, decide_eq_true_eq] at *; omega)
   ·replace c8 := Bool.eq_false_iff.mpr c8
    subst c8
    rw [if_neg (show ¬ (false = true) by decide)] at H
    have H' := Aside0.mk H
    clear H
    go_wp2
    go_loopg [24] kj2 (fun kq v24 w' => ∃ (x24_2 : Int), v24 = .int .i64 x24_2 ∧ Aside0 (spec_IsLayout.l0 kq a0 l1 l1 (l1.length : Int) x24_2 = some r) ∧ Aside0 (kq ≤ kj2) ∧ Drawn0 w w')
    case atStart => exact ⟨(0), lF, H', ⟨Nat.le_refl _⟩, by repeat (first | exact Drawn0.refl _ | apply Drawn0.step)⟩
    case round =>
     clear H'
     try clear c1
     try clear p1
     try clear q1
     try clear hx1
     try clear qi1
     try clear c2
     try clear p2
     try clear c3
     try clear c5
     try clear c6
     try clear c6b0
     try clear c6b1
     try clear c7
     try clear c7b0
     try clear c7b1
     try clear c8
     try clear hx127_0
     try clear p1
     try clear p127
     try clear p2
     try clear q1
     try clear q127
     obtain ⟨x24_2, rfl, HA, HK2, ⟨m2, rfl⟩⟩ := hrel
     cases gk with
     | zero => exact absurd HA.out (by simp [spec_IsLayout.l0])
     | succ k2 =>
      have H := HA.out
      clear HA
      simp only [spec_IsLayout.l0] at H
      by_cases c9 : x24_2 < (l1.length : Int)
      ·rw [if_pos c9] at H
       have c9b0 : decide (x24_2 < (l1.length : Int)) = true := decide_eq_true c9
       clear c9
       by_cases c10 : 0 ≤ x24_2
       ·rw [if_pos c10] at H
        have c10b0 : decide (0 ≤ x24_2) = true := decide_eq_true c10
        clear c10
        by_cases c11 : x24_2 < (l1.length : Int)
        ·rw [if_pos c11] at H
         have c11b0 : decide (x24_2 < (l1.length : Int)) = true := decide_eq_true c11
         clear c11
         by_cases c12 : (rd l1 x24_2) < 0
         ·rw [if_pos c12] at H
          have c12b0 : decide ((rd l1 x24_2) < 0) = true := decide_eq_true c12
          clear c12
          obtain rfl := Option.some.inj H
          have p128 : 0 ≤ (x24_2 : Int) := lD
          have q128 : x24_2 < (l1.length : Int) := lD
          obtain ⟨ad128, e128, hx128_0⟩ := Kd.at_int HR1.out x24_2 p128 q128
          cases e128
          replace p128 := eq_true p128
          replace q128 := eq_true q128
          first | (go_wp2; go_ret; exact ⟨by first | rfl | (simp; done) | (simp [*]; done), by repeat (first | exact Drawn0.refl _ | apply Drawn0.step)⟩) | (exfalso; simp only [decide_eq_false_iff_not, decide_eq_true_eq] at *; omega)
         ·rw [if_neg c12] at H
          have c12b0 : decide ((rd l1 x24_2) < 0) = false := decide_eq_false c12
          clear c12
          by_cases c13 : (rd l1 x24_2) ≥ a0
          ·rw [if_pos c13] at H
           have c13b0 : decide (a0 ≤ (rd l1 x24_2)) = true := decide_eq_true c13
           clear c13
           obtain rfl := Option.some.inj H
           have p128 : 0 ≤ (x24_2 : Int) := lD
           have q128 : x24_2 < (l1.length : Int) := lD
           obtain ⟨ad128, e128, hx128_0⟩ := Kd.at_int HR1.out x24_2 p128 q128
           cases e128
           replace p128 := eq_true p128
           replace q128 := eq_true q128
           first | (go_wp2; go_ret; exact ⟨by first | rfl | (simp; done) | (simp [*]; done), by repeat (first | exact Drawn0.refl _ | apply Drawn0.step)⟩) | (exfalso; simp only [decide_eq_false_iff_not, decide_eq_true_eq] at *; omega)
          ·rw [if_neg c13] at H
           have c13b0 : decide (a0 ≤ (rd l1 x24_2)) = false := decide_eq_false c13
           clear c13
           have c14b0 := eq_true (lD : 0 ≤ x24_2)
           by_cases c15 : x24_2 ≤ (l1.length : Int)
           ·rw [if_pos c15] at H
            have c15b0 := eq_true c15
            have c15b1 : decide (x24_2 ≤ (l1.length : Int)) = true := decide_eq_true c15
            clear c15
            replace H := lO H
            obtain ⟨t130, A16, H⟩ := H
            by_cases c17 : t130 = true
            ·subst c17
             rw [if_pos rfl] at H
             obtain rfl := Option.some.inj H
             have p128 : 0 ≤ (x24_2 : Int) := lD
             have q128 : x24_2 < (l1.length : Int) := lD
             obtain ⟨ad128, e128, hx128_0⟩ := Kd.at_int HR1.out x24_2 p128 q128
             cases e128
             replace p128 := eq_true p128
             replace q128 := eq_true q128
             obtain ⟨i018, hi018, _, hsz18, _⟩ := info_parts info3
             obtain ⟨hcut18, hA18, hC18⟩ := print_take_of (P := Try.prog) (Value.int .i64) 0 34 3 .i64 Try.underlying34 hi018 hsz18 (some ad128) c1 l1 x24_2 (lD) (lD) HC1.out
             have HR129 := Aside0.mk (Kd.C_of_reads (h1 := fun _ => rfl) (hA18 _ (Kd.reads_of_C HR1.out)))
             have HC129 := Aside0.mk hC18
             clear hA18 hC18 hi018 hsz18
             go_wp2_with (first | (go_at_call 62; refine calls_of_args (args' := #[.slice (some ad128) (l1.take (x24_2 : Int).toNat).length c1, .int .i64 (rd l1 x24_2)]) (by first | rfl | ((have h1_ : (x24_2 : Int) ≤ (l1.length : Int) := (by first | exact of_eq_true (by assumption) | exact of_decide_eq_true (by assumption) | assumption | omega)); rw [List.length_take, Nat.min_eq_left (by omega)])) ?_; (with_reducible refine (spec_l1Has.calls k2 _ _ (l1.take (x24_2 : Int).toNat) (rd l1 x24_2) true _ ?side1 ?side2 A16.out).mono ?_); (case side1 => repeat (first | exact HR129.out | (with_reducible refine Kd.C_alloc ?_ _) | (with_reducible refine Kd.C_drewN ?_ _) | (with_reducible refine Kd.C_drew ?_))); (case side2 => exact HC129.out); rintro e w' ⟨rfl, ⟨nd, rfl⟩⟩))
             go_ret
             exact ⟨by first | rfl | (simp; done) | (simp [*]; done), by repeat (first | exact Drawn0.refl _ | apply Drawn0.step)⟩
            ·replace c17 := Bool.eq_false_iff.mpr c17
             subst c17
             rw [if_neg (show ¬ (false = true) by decide)] at H
             have H' := Aside0.mk H
             clear H
             have p128 : 0 ≤ (x24_2 : Int) := lD
             have q128 : x24_2 < (l1.length : Int) := lD
             obtain ⟨ad128, e128, hx128_0⟩ := Kd.at_int HR1.out x24_2 p128 q128
             cases e128
             replace p128 := eq_true p128
             replace q128 := eq_true q128
             obtain ⟨i019, hi019, _, hsz19, _⟩ := info_parts info3
             obtain ⟨hcut19, hA19, hC19⟩ := print_take_of (P := Try.prog) (Value.int .i64) 0 34 3 .i64 Try.underlying34 hi019 hsz19 (some ad128) c1 l1 x24_2 (lD) (lD) HC1.out
             have HR129 := Aside0.mk (Kd.C_of_reads (h1 := fun _ => rfl) (hA19 _ (Kd.reads_of_C HR1.out)))
             have HC129 := Aside0.mk hC19
             clear hA19 hC19 hi019 hsz19
             go_wp2_with (first | (go_at_call 62; refine calls_of_args (args' := #[.slice (some ad128) (l1.take (x24_2 : Int).toNat).length c1, .int .i64 (rd l1 x24_2)]) (by first | rfl | ((have h1_ : (x24_2 : Int) ≤ (l1.length : Int) := (by first | exact of_eq_true (by assumption) | exact of_decide_eq_true (by assumption) | assumption | omega)); rw [List.length_take, Nat.min_eq_left (by omega)])) ?_; (with_reducible refine (spec_l1Has.calls k2 _ _ (l1.take (x24_2 : Int).toNat) (rd l1 x24_2) false _ ?side1 ?side2 A16.out).mono ?_); (case side1 => repeat (first | exact HR129.out | (with_reducible refine Kd.C_alloc ?_ _) | (with_reducible refine Kd.C_drewN ?_ _) | (with_reducible refine Kd.C_drew ?_))); (case side2 => exact HC129.out); rintro e w' ⟨rfl, ⟨nd, rfl⟩⟩))
             go_roundg k2
             case measure => have := HJ2.out; have := HK2.out; omega
             case rel => exact ⟨(wrap64 (x24_2 + 1)), lF, H', ⟨by have := HJ2.out; have := HK2.out; omega⟩, by repeat (first | exact Drawn0.refl _ | apply Drawn0.step)⟩
           ·rw [if_neg c15] at H
            exact absurd H (by simp)
        ·rw [if_neg c11] at H
         exact absurd H (by simp)
       ·rw [if_neg c10] at H
        exact absurd H (by simp)
      ·rw [if_neg c9] at H
       have c9b0 : decide (x24_2 < (l1.length : Int)) = false := decide_eq_false c9
       clear c9
       obtain rfl := Option.some.inj H
       first | (go_wp2; go_ret; exact ⟨by first | rfl | (simp; done) | (simp [*]; done), by repeat (first | exact Drawn0.refl _ | apply Drawn0.step)⟩) | (exfalso; simp only [decide_eq_false_iff_not, decide_eq_true_eq] at *; omega)

/-! ### spec_GoodEdges: function 56 -/
mutual
def spec_GoodEdges.l0 : Nat → Int → List (S48) → List (S48) → Int → Int → Option (Bool)
 | 0, _, _, _, _, _ => none
 | k + 1, x0, x1, x9, x10, x11 => if x11 < x10 then (if 0 ≤ x11 then (if x11 < (x9.length : Int) then (if ((rd_T48 x9 x11).f0) < 0 then (spec_GoodEdges.j1 k x0 x1 x11 x9 x10 x11 true ((rd_T48 x9 x11).f0) ((rd_T48 x9 x11).f1) ((rd_T48 x9 x11).f2)) else (if ((rd_T48 x9 x11).f0) ≥ x0 then (spec_GoodEdges.j1 k x0 x1 x11 x9 x10 x11 true ((rd_T48 x9 x11).f0) ((rd_T48 x9 x11).f1) ((rd_T48 x9 x11).f2)) else (if ((rd_T48 x9 x11).f1) < 0 then (spec_GoodEdges.j1 k x0 x1 x11 x9 x10 x11 true ((rd_T48 x9 x11).f0) ((rd_T48 x9 x11).f1) ((rd_T48 x9 x11).f2)) else (if ((rd_T48 x9 x11).f1) ≥ x0 then (spec_GoodEdges.j1 k x0 x1 x11 x9 x10 x11 true ((rd_T48 x9 x11).f0) ((rd_T48 x9 x11).f1) ((rd_T48 x9 x11).f2)) else ((spec_l1In.f ((rd_T48 x9 x11).f2) 0 100000).bind fun t134 => (spec_GoodEdges.j1 k x0 x1 x11 x9 x10 x11 (!t134) ((rd_T48 x9 x11).f0) ((rd_T48 x9 x11).f1) ((rd_T48 x9 x11).f2))))))) else (none)) else (none)) else ((spec_l11Blocks.f x0).bind fun t131 => (if t131 = true then (some (decide ((x1.length : Int) ≤ 20))) else (some false)))
def spec_GoodEdges.j1 : Nat → Int → List (S48) → Int → List (S48) → Int → Int → Bool → Int → Int → Int → Option (Bool)
 | 0, _, _, _, _, _, _, _, _, _, _ => none
 | k + 1, x0, x1, x5, x9, x10, x11, x41, x134000, x134001, x134002 => if x41 = true then (some false) else (if 0 ≤ x5 then (if x5 ≤ (x1.length : Int) then ((some (x1.take (x5 : Int).toNat : List (S48))).bind fun y135 => (spec_GoodEdges.l1 k x0 x1 x9 x10 x11 y135 (y135.length : Int) 0 x134000 x134001 x134002)) else (none)) else (none))
def spec_GoodEdges.l1 : Nat → Int → List (S48) → List (S48) → Int → Int → List (S48) → Int → Int → Int → Int → Int → Option (Bool)
 | 0, _, _, _, _, _, _, _, _, _, _, _ => none
 | k + 1, x0, x1, x9, x10, x11, x44, x45, x46, x134000, x134001, x134002 => if x46 < x45 then (if 0 ≤ x46 then (if x46 < (x44.length : Int) then (if ((rd_T48 x44 x46).f0) = x134000 then (if ((rd_T48 x44 x46).f1) = x134001 then (some false) else (spec_GoodEdges.l1 k x0 x1 x9 x10 x11 x44 x45 (wrap64 (x46 + 1)) x134000 x134001 x134002)) else (spec_GoodEdges.l1 k x0 x1 x9 x10 x11 x44 x45 (wrap64 (x46 + 1)) x134000 x134001 x134002)) else (none)) else (none)) else (spec_GoodEdges.l0 k x0 x1 x9 x10 (wrap64 (x11 + 1)))
end
def spec_GoodEdges.f (k : Nat) (a0 : Int) (l1 : List (S48)) : Option (Bool) := spec_GoodEdges.l0 k a0 l1 l1 (l1.length : Int) 0
theorem spec_GoodEdges.mono_l : ∀ k, (∀ y0 y1 y2 y3 y4, LeO (spec_GoodEdges.l0 k y0 y1 y2 y3 y4) (spec_GoodEdges.l0 (k + 1) y0 y1 y2 y3 y4)) ∧ (∀ y0 y1 y2 y3 y4 y5 y6 y7 y8 y9, LeO (spec_GoodEdges.j1 k y0 y1 y2 y3 y4 y5 y6 y7 y8 y9) (spec_GoodEdges.j1 (k + 1) y0 y1 y2 y3 y4 y5 y6 y7 y8 y9)) ∧ (∀ y0 y1 y2 y3 y4 y5 y6 y7 y8 y9 y10, LeO (spec_GoodEdges.l1 k y0 y1 y2 y3 y4 y5 y6 y7 y8 y9 y10) (spec_GoodEdges.l1 (k + 1) y0 y1 y2 y3 y4 y5 y6 y7 y8 y9 y10))
 | 0 => ⟨fun _ _ _ _ _ r h => by simp [spec_GoodEdges.l0] at h, fun _ _ _ _ _ _ _ _ _ _ r h => by simp [spec_GoodEdges.j1] at h, fun _ _ _ _ _ _ _ _ _ _ _ r h => by simp [spec_GoodEdges.l1] at h⟩
 | k + 1 => by
  obtain ⟨ih0, ih1, ih2⟩ := spec_GoodEdges.mono_l k
  refine ⟨?_, ?_, ?_⟩
  ·intro y0 y1 y2 y3 y4
   unfold spec_GoodEdges.l0
   repeat' first
   | with_reducible apply ih0
   | with_reducible apply ih1
   | with_reducible apply ih2
   | (with_reducible exact LeO.refl _)
   | (with_reducible exact LeO.none _)
   | (with_reducible refine LeO.ite ?_ ?_)
   | (with_reducible refine LeO.bind ?_ (fun _ => ?_))
   | apply ih0
   | apply ih1
   | apply ih2
   | exact LeO.none _
   | refine LeO.ite ?_ ?_
   | refine LeO.bind ?_ (fun _ => ?_)
  ·intro y0 y1 y2 y3 y4 y5 y6 y7 y8 y9
   unfold spec_GoodEdges.j1
   repeat' first
   | with_reducible apply ih0
   | with_reducible apply ih1
   | with_reducible apply ih2
   | (with_reducible exact LeO.refl _)
   | (with_reducible exact LeO.none _)
   | (with_reducible refine LeO.ite ?_ ?_)
   | (with_reducible refine LeO.bind ?_ (fun _ => ?_))
   | apply ih0
   | apply ih1
   | apply ih2
   | exact LeO.none _
   | refine LeO.ite ?_ ?_
   | refine LeO.bind ?_ (fun _ => ?_)
  ·intro y0 y1 y2 y3 y4 y5 y6 y7 y8 y9 y10
   unfold spec_GoodEdges.l1
   repeat' first
   | with_reducible apply ih0
   | with_reducible apply ih1
   | with_reducible apply ih2
   | (with_reducible exact LeO.refl _)
   | (with_reducible exact LeO.none _)
   | (with_reducible refine LeO.ite ?_ ?_)
   | (with_reducible refine LeO.bind ?_ (fun _ => ?_))
   | apply ih0
   | apply ih1
   | apply ih2
   | exact LeO.none _
   | refine LeO.ite ?_ ?_
   | refine LeO.bind ?_ (fun _ => ?_)
theorem spec_GoodEdges.mono : ∀ a0 a1 k, LeO (spec_GoodEdges.f k a0 a1) (spec_GoodEdges.f (k + 1) a0 a1) := by
 intro a0 a1 k
 obtain ⟨ih0, ih1, ih2⟩ := spec_GoodEdges.mono_l k
 unfold spec_GoodEdges.f
 repeat' first
   | with_reducible apply ih0
   | with_reducible apply ih1
   | with_reducible apply ih2
   | (with_reducible exact LeO.refl _)
   | (with_reducible exact LeO.none _)
   | (with_reducible refine LeO.ite ?_ ?_)
   | (with_reducible refine LeO.bind ?_ (fun _ => ?_))
   | apply ih0
   | apply ih1
   | apply ih2
   | exact LeO.none _
   | refine LeO.ite ?_ ?_
   | refine LeO.bind ?_ (fun _ => ?_)
set_option maxHeartbeats 8000000 in
set_option maxRecDepth 100000 in
theorem spec_GoodEdges.calls (k : Nat) (a0 : Int) (A1 : Option Addr) (c1 : Nat) (l1 : List (S48)) (r : Bool) (w : World) (hr1 : Kd.C k48 w A1 l1.length l1) (hc1 : l1.length ≤ c1) (h : spec_GoodEdges.f k a0 l1 = some r) :
  Calls Try.prog 56 #[.int .i64 a0, .slice A1 l1.length c1] w fun e w' => e = .returned (.bool r) ∧ Below w.heap.size w w' := by
 have hu48 := Try.underlying48
 have HR1 := Aside0.mk hr1
 have HC1 := Aside0.mk hc1
 clear hr1 hc1
 have HB := Aside0.mk (Below.refl w.heap.size w)
 have H : (spec_GoodEdges.l0 k a0 l1 l1 (l1.length : Int) 0) = some r := h
 clear h
 have H' := Aside0.mk H
 clear H
 go_enter Try.func56, Try.ntmps56
 go_wp2
 go_loopg [11] k (fun kq v11 w' => ∃ (x11_1 : Int), v11 = .int .i64 x11_1 ∧ Aside0 (spec_GoodEdges.l0 kq a0 l1 l1 (l1.length : Int) x11_1 = some r) ∧ Aside0 (kq ≤ k) ∧ Aside0 (Below w.heap.size w w'))
 case atStart => exact ⟨(0), lF, H', ⟨Nat.le_refl _⟩, ⟨lB⟩⟩
 case round =>
  clear H'
  try clear c1
  try clear p2
  obtain ⟨x11_1, rfl, HA, HK1, HB⟩ := hrel
  cases gk with
  | zero => exact absurd HA.out (by simp [spec_GoodEdges.l0])
  | succ k1 =>
   have H := HA.out
   clear HA
   simp only [spec_GoodEdges.l0] at H
   by_cases c3 : x11_1 < (l1.length : Int)
   ·rw [if_pos c3] at H
    have c3b0 : decide (x11_1 < (l1.length : Int)) = true := decide_eq_true c3
    clear c3
    by_cases c4 : 0 ≤ x11_1
    ·rw [if_pos c4] at H
     have c4b0 : decide (0 ≤ x11_1) = true := decide_eq_true c4
     clear c4
     by_cases c5 : x11_1 < (l1.length : Int)
     ·rw [if_pos c5] at H
      have c5b0 : decide (x11_1 < (l1.length : Int)) = true := decide_eq_true c5
      clear c5
      have HC6 := Aside0.mk H
      clear H
      have p132 : 0 ≤ (x11_1 : Int) := lD
      have q132 : x11_1 < (l1.length : Int) := lD
      obtain ⟨ad132, e132, hx132_0, hx132_1, hx132_2⟩ := at_T48 HR1.out x11_1 p132 q132
      cases e132
      replace hx132_0 := pw_cell_below HB.out hx132_0
      replace hx132_1 := pw_cell_below HB.out hx132_1
      replace hx132_2 := pw_cell_below HB.out hx132_2
      replace p132 := eq_true p132
      replace q132 := eq_true q132
      go_upto_region 4 with (first | ((with_reducible refine gate_dst (N := 6) rfl ?_); (try (refine gate_guard (by rfl) ?_; dsimp only)); refine bxe 6 #[.int .i64 0, .int .i64 0, .int .i64 0] 48 ?_; intro gb133 hg w7 hbox hb; have n0_ := Aside0.mk (below_step lB hb); have n1_ := Aside0.mk (hbox); have n2_ := lG w hg; have n3_ := lG w hg; clear HB; have HB := n0_; have BK133 := n1_; have GW133 := n2_; have GE133 := n3_; clear n0_ n1_ n2_ n3_; clear hb hbox hg; obtain ⟨hcz8_0, hfz8_0, hcz8_1, hfz8_1, hcz8_2, hfz8_2⟩ := bk3 BK133.out))
      (try simp only [Act.put, List.setIfInBounds_toArray, List.set_cons_zero, List.set_cons_succ])
      go_cut [41] (fun v41 wc => ∃ (kq : Nat) (x41_5 : Bool), v41 = .bool x41_5 ∧ Aside0 (spec_GoodEdges.j1 kq a0 l1 x11_1 l1 (l1.length : Int) x11_1 x41_5 ((rd_T48 l1 x11_1).f0) ((rd_T48 l1 x11_1).f1) ((rd_T48 l1 x11_1).f2) = some r) ∧ Aside0 (kq ≤ k1) ∧ Aside0 (wc.heap[gb133]? = some (.cells #[.int .i64 ((rd_T48 l1 x11_1).f0), .int .i64 ((rd_T48 l1 x11_1).f1), .int .i64 ((rd_T48 l1 x11_1).f2)] 48 (0, 0))) ∧ Aside0 (Below w.heap.size w wc))
      case first =>
       have H := HC6.out
       clear HC6
       by_cases c9 : ((rd_T48 l1 x11_1).f0) < 0
       ·rw [if_pos c9] at H
        have c9b0 : decide (((rd_T48 l1 x11_1).f0) < 0) = true := decide_eq_true c9
        clear c9
        (first | rw [c9b0] | (simp only [i64_w, i32_w]; rw [c9b0]) | skip)
        have H' := Aside0.mk H
        clear H
        obtain ⟨hcz10_0, hfz10_0, hcz10_1, hfz10_1, hcz10_2, hfz10_2⟩ := bk3 BK133.out
        go_wp2
        go_meet
        case rel => exact ⟨_, (true), lF, H', ⟨by have := HK1.out; first | omega | exact Nat.le_refl _⟩, ⟨by (with_reducible repeat first | apply bN | apply bD | apply bA); refine blk_put (cs := #[.int .i64 ((rd_T48 l1 x11_1).f0), .int .i64 ((rd_T48 l1 x11_1).f1), .int .i64 0]) ?_ 2 _ rfl; (with_reducible repeat first | apply bN | apply bD | apply bA); refine blk_put (cs := #[.int .i64 ((rd_T48 l1 x11_1).f0), .int .i64 0, .int .i64 0]) ?_ 1 _ rfl; (with_reducible repeat first | apply bN | apply bD | apply bA); refine blk_put (cs := #[.int .i64 0, .int .i64 0, .int .i64 0]) ?_ 0 _ rfl; (with_reducible repeat first | apply bN | apply bD | apply bA); exact BK133.out⟩, ⟨lB⟩⟩
       ·rw [if_neg c9] at H
        have c9b0 : decide (((rd_T48 l1 x11_1).f0) < 0) = false := decide_eq_false c9
        clear c9
        (first | rw [c9b0] | (simp only [i64_w, i32_w]; rw [c9b0]) | skip)
        by_cases c11 : ((rd_T48 l1 x11_1).f0) ≥ a0
        ·rw [if_pos c11] at H
         have c11b0 : decide (a0 ≤ ((rd_T48 l1 x11_1).f0)) = true := decide_eq_true c11
         clear c11
         have H' := Aside0.mk H
         clear H
         obtain ⟨hcz12_0, hfz12_0, hcz12_1, hfz12_1, hcz12_2, hfz12_2⟩ := bk3 BK133.out
         go_wp2
         go_meet
         case rel => exact ⟨_, (true), lF, H', ⟨by have := HK1.out; first | omega | exact Nat.le_refl _⟩, ⟨by (with_reducible repeat first | apply bN | apply bD | apply bA); refine blk_put (cs := #[.int .i64 ((rd_T48 l1 x11_1).f0), .int .i64 ((rd_T48 l1 x11_1).f1), .int .i64 0]) ?_ 2 _ rfl; (with_reducible repeat first | apply bN | apply bD | apply bA); refine blk_put (cs := #[.int .i64 ((rd_T48 l1 x11_1).f0), .int .i64 0, .int .i64 0]) ?_ 1 _ rfl; (with_reducible repeat first | apply bN | apply bD | apply bA); refine blk_put (cs := #[.int .i64 0, .int .i64 0, .int .i64 0]) ?_ 0 _ rfl; (with_reducible repeat first | apply bN | apply bD | apply bA); exact BK133.out⟩, ⟨lB⟩⟩
        ·rw [if_neg c11] at H
         have c11b0 : decide (a0 ≤ ((rd_T48 l1 x11_1).f0)) = false := decide_eq_false c11
         clear c11
         by_cases c13 : ((rd_T48 l1 x11_1).f1) < 0
         ·rw [if_pos c13] at H
          have c13b0 : decide (((rd_T48 l1 x11_1).f1) < 0) = true := decide_eq_true c13
          clear c13
          have H' := Aside0.mk H
          clear H
          obtain ⟨hcz14_0, hfz14_0, hcz14_1, hfz14_1, hcz14_2, hfz14_2⟩ := bk3 BK133.out
          go_wp2
          go_meet
          case rel => exact ⟨_, (true), lF, H', ⟨by have := HK1.out; first | omega | exact Nat.le_refl _⟩, ⟨by (with_reducible repeat first | apply bN | apply bD | apply bA); refine blk_put (cs := #[.int .i64 ((rd_T48 l1 x11_1).f0), .int .i64 ((rd_T48 l1 x11_1).f1), .int .i64 0]) ?_ 2 _ rfl; (with_reducible repeat first | apply bN | apply bD | apply bA); refine blk_put (cs := #[.int .i64 ((rd_T48 l1 x11_1).f0), .int .i64 0, .int .i64 0]) ?_ 1 _ rfl; (with_reducible repeat first | apply bN | apply bD | apply bA); refine blk_put (cs := #[.int .i64 0, .int .i64 0, .int .i64 0]) ?_ 0 _ rfl; (with_reducible repeat first | apply bN | apply bD | apply bA); exact BK133.out⟩, ⟨lB⟩⟩
         ·rw [if_neg c13] at H
          have c13b0 : decide (((rd_T48 l1 x11_1).f1) < 0) = false := decide_eq_false c13
          clear c13
          by_cases c15 : ((rd_T48 l1 x11_1).f1) ≥ a0
          ·rw [if_pos c15] at H
           have c15b0 : decide (a0 ≤ ((rd_T48 l1 x11_1).f1)) = true := decide_eq_true c15
           clear c15
           have H' := Aside0.mk H
           clear H
           obtain ⟨hcz16_0, hfz16_0, hcz16_1, hfz16_1, hcz16_2, hfz16_2⟩ := bk3 BK133.out
           go_wp2
           go_meet
           case rel => exact ⟨_, (true), lF, H', ⟨by have := HK1.out; first | omega | exact Nat.le_refl _⟩, ⟨by (with_reducible repeat first | apply bN | apply bD | apply bA); refine blk_put (cs := #[.int .i64 ((rd_T48 l1 x11_1).f0), .int .i64 ((rd_T48 l1 x11_1).f1), .int .i64 0]) ?_ 2 _ rfl; (with_reducible repeat first | apply bN | apply bD | apply bA); refine blk_put (cs := #[.int .i64 ((rd_T48 l1 x11_1).f0), .int .i64 0, .int .i64 0]) ?_ 1 _ rfl; (with_reducible repeat first | apply bN | apply bD | apply bA); refine blk_put (cs := #[.int .i64 0, .int .i64 0, .int .i64 0]) ?_ 0 _ rfl; (with_reducible repeat first | apply bN | apply bD | apply bA); exact BK133.out⟩, ⟨lB⟩⟩
          ·rw [if_neg c15] at H
           have c15b0 : decide (a0 ≤ ((rd_T48 l1 x11_1).f1)) = false := decide_eq_false c15
           clear c15
           replace H := lO H
           obtain ⟨t134, A17, H⟩ := H
           have H' := Aside0.mk H
           clear H
           obtain ⟨hcz18_0, hfz18_0, hcz18_1, hfz18_1, hcz18_2, hfz18_2⟩ := bk3 BK133.out
           go_wp2_with (first | (go_at_call 84; (with_reducible refine (spec_l1In.calls ((rd_T48 l1 x11_1).f2) 0 100000 t134 _ A17.out).mono ?_); rintro e w' ⟨rfl, ⟨nd, rfl⟩⟩))
           go_meet
           case rel => exact ⟨_, (!t134), lF, H', ⟨by have := HK1.out; first | omega | exact Nat.le_refl _⟩, ⟨by (with_reducible repeat first | apply bN | apply bD | apply bA); refine blk_put (cs := #[.int .i64 ((rd_T48 l1 x11_1).f0), .int .i64 ((rd_T48 l1 x11_1).f1), .int .i64 0]) ?_ 2 _ rfl; (with_reducible repeat first | apply bN | apply bD | apply bA); refine blk_put (cs := #[.int .i64 ((rd_T48 l1 x11_1).f0), .int .i64 0, .int .i64 0]) ?_ 1 _ rfl; (with_reducible repeat first | apply bN | apply bD | apply bA); refine blk_put (cs := #[.int .i64 0, .int .i64 0, .int .i64 0]) ?_ 0 _ rfl; (with_reducible repeat first | apply bN | apply bD | apply bA); exact BK133.out⟩, ⟨lB⟩⟩
      case rest =>
       clear HC6
       try clear c1
       try clear p1
       try clear q1
       try clear hx1
       try clear p2
       try clear c3
       try clear c3b0
       try clear c4
       try clear c4b0
       try clear c5
       try clear c5b0
       try clear c9
       try clear c9b0
       try clear c11
       try clear c11b0
       try clear c13
       try clear c13b0
       try clear p13
       try clear q13
       try clear hx13
       try clear c15
       try clear c15b0
       try clear hcz10_0 hcz10_1 hcz10_2
       try clear hcz12_0 hcz12_1 hcz12_2
       try clear hcz14_0 hcz14_1 hcz14_2
       try clear hcz16_0 hcz16_1 hcz16_2
       try clear hcz18_0 hcz18_1 hcz18_2
       try clear hcz8_0 hcz8_1 hcz8_2
       try clear hfz10_0 hfz10_1 hfz10_2
       try clear hfz12_0 hfz12_1 hfz12_2
       try clear hfz14_0 hfz14_1 hfz14_2
       try clear hfz16_0 hfz16_1 hfz16_2
       try clear hfz18_0 hfz18_1 hfz18_2
       try clear hfz8_0 hfz8_1 hfz8_2
       try clear hx132_0
       try clear hx132_1
       try clear hx132_2
       try clear p132
       try clear p2
       try clear q132
       obtain ⟨kq, x41_5, rfl, HA, HJ5, BK133, HB⟩ := hcut
       cases kq with
       | zero => exact absurd HA.out (by simp [spec_GoodEdges.j1])
       | succ kj5 =>
        have H := HA.out
        clear HA
        simp only [spec_GoodEdges.j1] at H
        by_cases c19 : x41_5 = true
        ·subst c19
         rw [if_pos rfl] at H
         obtain rfl := Option.some.inj H
         first | (go_wp2; go_ret; exact ⟨lE, lB⟩) | (exfalso; simp only [decide_eq_false_iff_not, decide_eq_true_eq] at *; omega)
        ·replace c19 := Bool.eq_false_iff.mpr c19
         subst c19
         rw [if_neg (show ¬ (false = true) by decide)] at H
         by_cases c20 : 0 ≤ x11_1
         ·rw [if_pos c20] at H
          have c20b0 := eq_true c20
          have c20b1 : decide (0 ≤ x11_1) = true := decide_eq_true c20
          clear c20
          by_cases c21 : x11_1 ≤ (l1.length : Int)
          ·rw [if_pos c21] at H
           have c21b0 := eq_true c21
           have c21b1 : decide (x11_1 ≤ (l1.length : Int)) = true := decide_eq_true c21
           clear c21
           obtain ⟨y135, hy135⟩ : ∃ y_ : List (S48), y_ = (l1.take (x11_1 : Int).toNat) := ⟨_, rfl⟩
           replace H : (spec_GoodEdges.l1 kj5 a0 l1 l1 (l1.length : Int) x11_1 y135 (y135.length : Int) 0 ((rd_T48 l1 x11_1).f0) ((rd_T48 l1 x11_1).f1) ((rd_T48 l1 x11_1).f2)) = some r := by first | (rw [hy135]; with_reducible exact H) | (have H2_ := (Option.bind_some _ _).symm.trans H; rw [hy135]; with_reducible exact H2_) | (have H2_ := (Option.bind_some _ _).symm.trans H; with_reducible exact H2_) | with_reducible exact H | (rw [hy135]; exact H) | exact H
           have Ny135 := Aside0.mk hy135
           clear hy135
           have H' := Aside0.mk H
           clear H
           have q22 : (x11_1 : Int) ≤ ((l1.length : Int) : Int) := lD
           obtain ⟨i022, hi022, _, hsz22, _⟩ := info_parts info48
           have hroom22 : l1.length ≤ c1 := HC1.out
           have hC22 : Kd.C k48 _ (some ad132) l1.length l1 := HR1.out
           have hcut22 := cut_to (P := Try.prog) 27 48 .i64 Try.underlying27 hi022 (some ad132) l1.length c1 x11_1 (lD) q22 hroom22
           have hr22 := Kd.C_take (m := (x11_1 : Int).toNat) hC22 (by omega)
           have hy22 : y135.length = (x11_1 : Int).toNat := (by rw [Ny135.out, List.length_take]; omega)
           rw [← Ny135.out] at hr22
           rw [← hy22] at hcut22
           have HR138 := Aside0.mk hr22
           have HC138 := Aside0.mk (show y135.length ≤ c1 from by omega)
           clear hr22 hC22 hroom22 hi022 hsz22
           have KY22 := Aside0.mk hy22
           clear hy22
           replace q22 := eq_true q22
           go_wp2
           go_loopg [46] kj5 (fun kq v46 w' => ∃ (x46_3 : Int), v46 = .int .i64 x46_3 ∧ Aside0 (spec_GoodEdges.l1 kq a0 l1 l1 (l1.length : Int) x11_1 y135 (y135.length : Int) x46_3 ((rd_T48 l1 x11_1).f0) ((rd_T48 l1 x11_1).f1) ((rd_T48 l1 x11_1).f2) = some r) ∧ Aside0 (kq ≤ kj5) ∧ Aside0 (w'.heap[gb133]? = some (.cells #[.int .i64 ((rd_T48 l1 x11_1).f0), .int .i64 ((rd_T48 l1 x11_1).f1), .int .i64 ((rd_T48 l1 x11_1).f2)] 48 (0, 0))) ∧ Aside0 (Below w.heap.size w w'))
           case atStart => exact ⟨(0), lF, H', ⟨Nat.le_refl _⟩, ⟨lK BK133.out⟩, ⟨lB⟩⟩
           case round =>
            clear H'
            try clear c1
            try clear p1
            try clear q1
            try clear hx1
            try clear c2
            try clear p2
            try clear q2
            try clear c3
            try clear c3b0
            try clear c4
            try clear c4b0
            try clear c5
            try clear c5b0
            try clear c9
            try clear c9b0
            try clear c11
            try clear c11b0
            try clear c13
            try clear c13b0
            try clear p13
            try clear q13
            try clear hx13
            try clear c15
            try clear c15b0
            try clear c19
            try clear c20
            try clear c20b0
            try clear c20b1
            try clear c21
            try clear c21b0
            try clear c21b1
            try clear q22
            try clear hcz10_0 hcz10_1 hcz10_2
            try clear hcz12_0 hcz12_1 hcz12_2
            try clear hcz14_0 hcz14_1 hcz14_2
            try clear hcz16_0 hcz16_1 hcz16_2
            try clear hcz18_0 hcz18_1 hcz18_2
            try clear hcz8_0 hcz8_1 hcz8_2
            try clear hfz10_0 hfz10_1 hfz10_2
            try clear hfz12_0 hfz12_1 hfz12_2
            try clear hfz14_0 hfz14_1 hfz14_2
            try clear hfz16_0 hfz16_1 hfz16_2
            try clear hfz18_0 hfz18_1 hfz18_2
            try clear hfz8_0 hfz8_1 hfz8_2
            try clear hx132_0
            try clear hx132_1
            try clear hx132_2
            try clear p1
            try clear p13
            try clear p132
            try clear p2
            try clear q1
            try clear q13
            try clear q132
            try clear q22
            obtain ⟨x46_3, rfl, HA, HK3, BK133, HB⟩ := hrel
            cases gk with
            | zero => exact absurd HA.out (by simp [spec_GoodEdges.l1])
            | succ k3 =>
             have H := HA.out
             clear HA
             simp only [spec_GoodEdges.l1] at H
             by_cases c23 : x46_3 < (y135.length : Int)
             ·rw [if_pos c23] at H
              have c23b0 : decide (x46_3 < (y135.length : Int)) = true := decide_eq_true c23
              clear c23
              by_cases c24 : 0 ≤ x46_3
              ·rw [if_pos c24] at H
               have c24b0 : decide (0 ≤ x46_3) = true := decide_eq_true c24
               clear c24
               by_cases c25 : x46_3 < (y135.length : Int)
               ·rw [if_pos c25] at H
                have c25b0 : decide (x46_3 < (y135.length : Int)) = true := decide_eq_true c25
                clear c25
                by_cases c26 : ((rd_T48 y135 x46_3).f0) = ((rd_T48 l1 x11_1).f0)
                ·rw [if_pos c26] at H
                 have c26b0 : (((rd_T48 y135 x46_3).f0) == ((rd_T48 l1 x11_1).f0)) = true := beq_iff_eq.mpr c26
                 have c26b1 : (((rd_T48 y135 x46_3).f0) != ((rd_T48 l1 x11_1).f0)) = false := bne_eq_false_iff_eq.mpr c26
                 clear c26
                 by_cases c27 : ((rd_T48 y135 x46_3).f1) = ((rd_T48 l1 x11_1).f1)
                 ·rw [if_pos c27] at H
                  have c27b0 : (((rd_T48 y135 x46_3).f1) == ((rd_T48 l1 x11_1).f1)) = true := beq_iff_eq.mpr c27
                  have c27b1 : (((rd_T48 y135 x46_3).f1) != ((rd_T48 l1 x11_1).f1)) = false := bne_eq_false_iff_eq.mpr c27
                  clear c27
                  obtain rfl := Option.some.inj H
                  have p139 : 0 ≤ (x46_3 : Int) := lD
                  have q139 : x46_3 < (y135.length : Int) := lD
                  obtain ⟨ad139, e139, hx139_0, hx139_1, hx139_2⟩ := at_T48 HR138.out x46_3 p139 q139
                  obtain rfl : ad132 = ad139 := (by injection e139)
                  replace hx139_0 := pw_cell_below HB.out hx139_0
                  replace hx139_1 := pw_cell_below HB.out hx139_1
                  replace hx139_2 := pw_cell_below HB.out hx139_2
                  replace p139 := eq_true p139
                  replace q139 := eq_true q139
                  go_wp2_with (first | ((with_reducible refine gate_dst (N := 8) rfl ?_); (try (refine gate_guard (by rfl) ?_; dsimp only)); refine bxe 8 #[.int .i64 0, .int .i64 0, .int .i64 0] 48 ?_; intro gb140 hg w28 hbox hb; have n0_ := Aside0.mk (blk_below (lK BK133.out) hb); have n1_ := Aside0.mk (below_step lB hb); have n2_ := Aside0.mk (hbox); have n3_ := lG w hg; have n4_ := lG w hg; have n5_ := Aside0.mk ((by rw [hg]; exact Nat.ne_of_lt (blk_lt (lK BK133.out)) : gb133 ≠ gb140)); have n6_ := Aside0.mk ((by rw [hg]; exact Nat.ne_of_gt (blk_lt (lK BK133.out)) : gb140 ≠ gb133)); clear BK133; clear HB; have BK133 := n0_; have HB := n1_; have BK140 := n2_; have GW140 := n3_; have GE140 := n4_; have NB133_140 := n5_; have NB140_133 := n6_; clear n0_ n1_ n2_ n3_ n4_ n5_ n6_; clear hb hbox hg; have hnb29 := NB140_133.out; have hnc29 := NB133_140.out; obtain ⟨hcz30_0, hfz30_0, hcz30_1, hfz30_1, hcz30_2, hfz30_2⟩ := bk3 BK140.out; obtain ⟨hcz31_0, hfz31_0, hcz31_1, hfz31_1, hcz31_2, hfz31_2⟩ := bk3 BK133.out))
                  go_ret
                  exact ⟨lE, lB⟩
                 ·rw [if_neg c27] at H
                  have c27b0 : (((rd_T48 y135 x46_3).f1) == ((rd_T48 l1 x11_1).f1)) = false := beq_eq_false_iff_ne.mpr c27
                  have c27b1 : (((rd_T48 y135 x46_3).f1) != ((rd_T48 l1 x11_1).f1)) = true := bne_iff_ne.mpr c27
                  have H' := Aside0.mk H
                  clear H
                  have p139 : 0 ≤ (x46_3 : Int) := lD
                  have q139 : x46_3 < (y135.length : Int) := lD
                  obtain ⟨ad139, e139, hx139_0, hx139_1, hx139_2⟩ := at_T48 HR138.out x46_3 p139 q139
                  obtain rfl : ad132 = ad139 := (by injection e139)
                  replace hx139_0 := pw_cell_below HB.out hx139_0
                  replace hx139_1 := pw_cell_below HB.out hx139_1
                  replace hx139_2 := pw_cell_below HB.out hx139_2
                  replace p139 := eq_true p139
                  replace q139 := eq_true q139
                  go_wp2_with (first | ((with_reducible refine gate_dst (N := 8) rfl ?_); (try (refine gate_guard (by rfl) ?_; dsimp only)); refine bxe 8 #[.int .i64 0, .int .i64 0, .int .i64 0] 48 ?_; intro gb140 hg w32 hbox hb; have n0_ := Aside0.mk (blk_below (lK BK133.out) hb); have n1_ := Aside0.mk (below_step lB hb); have n2_ := Aside0.mk (hbox); have n3_ := lG w hg; have n4_ := lG w hg; have n5_ := Aside0.mk ((by rw [hg]; exact Nat.ne_of_lt (blk_lt (lK BK133.out)) : gb133 ≠ gb140)); have n6_ := Aside0.mk ((by rw [hg]; exact Nat.ne_of_gt (blk_lt (lK BK133.out)) : gb140 ≠ gb133)); clear BK133; clear HB; have BK133 := n0_; have HB := n1_; have BK140 := n2_; have GW140 := n3_; have GE140 := n4_; have NB133_140 := n5_; have NB140_133 := n6_; clear n0_ n1_ n2_ n3_ n4_ n5_ n6_; clear hb hbox hg; have hnb33 := NB140_133.out; have hnc33 := NB133_140.out; obtain ⟨hcz34_0, hfz34_0, hcz34_1, hfz34_1, hcz34_2, hfz34_2⟩ := bk3 BK140.out; obtain ⟨hcz35_0, hfz35_0, hcz35_1, hfz35_1, hcz35_2, hfz35_2⟩ := bk3 BK133.out))
                  go_roundg k3
                  case measure => have := HK1.out; have := HJ5.out; have := HK3.out; omega
                  case rel => exact ⟨(wrap64 (x46_3 + 1)), lF, H', ⟨by have := HK1.out; have := HJ5.out; have := HK3.out; omega⟩, ⟨lJ BK133.out⟩, ⟨lB⟩⟩
                ·rw [if_neg c26] at H
                 have c26b0 : (((rd_T48 y135 x46_3).f0) == ((rd_T48 l1 x11_1).f0)) = false := beq_eq_false_iff_ne.mpr c26
                 have c26b1 : (((rd_T48 y135 x46_3).f0) != ((rd_T48 l1 x11_1).f0)) = true := bne_iff_ne.mpr c26
                 have H' := Aside0.mk H
                 clear H
                 have p139 : 0 ≤ (x46_3 : Int) := lD
                 have q139 : x46_3 < (y135.length : Int) := lD
                 obtain ⟨ad139, e139, hx139_0, hx139_1, hx139_2⟩ := at_T48 HR138.out x46_3 p139 q139
                 obtain rfl : ad132 = ad139 := (by injection e139)
                 replace hx139_0 := pw_cell_below HB.out hx139_0
                 replace hx139_1 := pw_cell_below HB.out hx139_1
                 replace hx139_2 := pw_cell_below HB.out hx139_2
                 replace p139 := eq_true p139
                 replace q139 := eq_true q139
                 go_wp2_with (first | ((with_reducible refine gate_dst (N := 8) rfl ?_); (try (refine gate_guard (by rfl) ?_; dsimp only)); refine bxe 8 #[.int .i64 0, .int .i64 0, .int .i64 0] 48 ?_; intro gb140 hg w36 hbox hb; have n0_ := Aside0.mk (blk_below (lK BK133.out) hb); have n1_ := Aside0.mk (below_step lB hb); have n2_ := Aside0.mk (hbox); have n3_ := lG w hg; have n4_ := lG w hg; have n5_ := Aside0.mk ((by rw [hg]; exact Nat.ne_of_lt (blk_lt (lK BK133.out)) : gb133 ≠ gb140)); have n6_ := Aside0.mk ((by rw [hg]; exact Nat.ne_of_gt (blk_lt (lK BK133.out)) : gb140 ≠ gb133)); clear BK133; clear HB; have BK133 := n0_; have HB := n1_; have BK140 := n2_; have GW140 := n3_; have GE140 := n4_; have NB133_140 := n5_; have NB140_133 := n6_; clear n0_ n1_ n2_ n3_ n4_ n5_ n6_; clear hb hbox hg; have hnb37 := NB140_133.out; have hnc37 := NB133_140.out; obtain ⟨hcz38_0, hfz38_0, hcz38_1, hfz38_1, hcz38_2, hfz38_2⟩ := bk3 BK140.out; obtain ⟨hcz39_0, hfz39_0, hcz39_1, hfz39_1, hcz39_2, hfz39_2⟩ := bk3 BK133.out))
                 go_roundg k3
                 case measure => have := HK1.out; have := HJ5.out; have := HK3.out; omega
                 case rel => exact ⟨(wrap64 (x46_3 + 1)), lF, H', ⟨by have := HK1.out; have := HJ5.out; have := HK3.out; omega⟩, ⟨lJ BK133.out⟩, ⟨lB⟩⟩
               ·rw [if_neg c25] at H
                exact absurd H (by simp)
              ·rw [if_neg c24] at H
               exact absurd H (by simp)
             ·rw [if_neg c23] at H
              have c23b0 : decide (x46_3 < (y135.length : Int)) = false := decide_eq_false c23
              clear c23
              have H' := Aside0.mk H
              clear H
              go_wp2
              go_roundg k3
              case measure => have := HK1.out; have := HJ5.out; have := HK3.out; omega
              case rel => exact ⟨(wrap64 (x11_1 + 1)), lF, H', ⟨by have := HK1.out; have := HJ5.out; have := HK3.out; omega⟩, ⟨lB⟩⟩
          ·rw [if_neg c21] at H
           exact absurd H (by simp)
         ·rw [if_neg c20] at H
          exact absurd H (by simp)
     ·rw [if_neg c5] at H
      exact absurd H (by simp)
    ·rw [if_neg c4] at H
     exact absurd H (by simp)
   ·rw [if_neg c3] at H
    have c3b0 : decide (x11_1 < (l1.length : Int)) = false := decide_eq_false c3
    clear c3
    replace H := lO H
    obtain ⟨t131, A40, H⟩ := H
    by_cases c41 : t131 = true
    ·subst c41
     rw [if_pos rfl] at H
     obtain rfl := Option.some.inj H
     go_wp2_with (first | ((with_reducible refine gate_callee (f := 73) rfl ?_); refine gl_ (some 65) (Try.func73) #[.int .i64 a0] ?_; (with_reducible refine (spec_l11Blocks.calls a0 true _ A40.out).mono ?_); rintro e w' ⟨rfl, ⟨nd, rfl⟩⟩; refine ⟨_, rfl, ?_⟩))
     go_ret
     exact ⟨lE, lB⟩
    ·replace c41 := Bool.eq_false_iff.mpr c41
     subst c41
     rw [if_neg (show ¬ (false = true) by decide)] at H
     obtain rfl := Option.some.inj H
     go_wp2_with (first | ((with_reducible refine gate_callee (f := 73) rfl ?_); refine gl_ (some 65) (Try.func73) #[.int .i64 a0] ?_; (with_reducible refine (spec_l11Blocks.calls a0 false _ A40.out).mono ?_); rintro e w' ⟨rfl, ⟨nd, rfl⟩⟩; refine ⟨_, rfl, ?_⟩))
     go_ret
     exact ⟨lE, lB⟩

end Go.Proofs.Ytpnhlccdhflogaa.Q
