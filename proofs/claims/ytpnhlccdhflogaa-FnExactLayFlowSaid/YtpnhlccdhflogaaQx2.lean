-- Written by the program wip/tools/pr.py of this claim's session, over the kit's print.py.
import Derived.Test.YtpnhlccdhflogaaQx0
import Derived.Test.YtpnhlccdhflogaaQx1
namespace Go.Proofs.Ytpnhlccdhflogaa.Q
open Go.RowKit Go.Proofs.YtpnhlccdhflogaaW.PrintWords Go.Proofs.YtpnhlccdhflogaaW.PrintLast Go.Proofs.YtpnhlccdhflogaaW.PrintMore
attribute [local go_sem] max2_int min2_int max_two min_two max_three min_three max_four min_four   -- for this text's walks alone
set_option linter.unusedVariables false
set_option linter.unusedSimpArgs false

/-! ### spec_IsLayout: function 37 -/
mutual
def spec_IsLayout.j0 : Nat → Int → List Int → Bool → Option (Bool)
 | 0, _, _, _ => none
 | k + 1, x0, x1, x21 => if x21 = true then (some false) else (spec_IsLayout.l0 k x0 x1 x1 (x1.length : Int) 0)
def spec_IsLayout.l0 : Nat → Int → List Int → List Int → Int → Int → Option (Bool)
 | 0, _, _, _, _, _ => none
 | k + 1, x0, x1, x22, x23, x24 => if x24 < x23 then (if 0 ≤ x24 then (if x24 < (x22.length : Int) then (if (rd x22 x24) < 0 then (some false) else (if (rd x22 x24) ≥ x0 then (some false) else (if x24 ≤ (x1.length : Int) then ((spec_l1Has.f k (x1.take (x24 : Int).toNat) (rd x22 x24)).bind fun t119 => (if t119 = true then (some false) else (spec_IsLayout.l0 k x0 x1 x22 x23 (wrap64 (x24 + 1))))) else (none)))) else (none)) else (none)) else (some true)
end
def spec_IsLayout.f (k : Nat) (a0 : Int) (l1 : List Int) : Option (Bool) := (spec_l11Blocks.f a0).bind fun t115 => (if t115 = true then (if (l1.length : Int) = a0 then (if 0 < (l1.length : Int) then (spec_IsLayout.j0 k a0 l1 ((rd l1 0) != 0)) else (none)) else (spec_IsLayout.j0 k a0 l1 true)) else (spec_IsLayout.j0 k a0 l1 true))
theorem spec_IsLayout.mono_l : ∀ k, (∀ y0 y1 y2, LeO (spec_IsLayout.j0 k y0 y1 y2) (spec_IsLayout.j0 (k + 1) y0 y1 y2)) ∧ (∀ y0 y1 y2 y3 y4, LeO (spec_IsLayout.l0 k y0 y1 y2 y3 y4) (spec_IsLayout.l0 (k + 1) y0 y1 y2 y3 y4))
 | 0 => ⟨fun _ _ _ r h => by simp [spec_IsLayout.j0] at h, fun _ _ _ _ _ r h => by simp [spec_IsLayout.l0] at h⟩
 | k + 1 => by
  obtain ⟨ih0, ih1⟩ := spec_IsLayout.mono_l k
  refine ⟨?_, ?_⟩
  ·intro y0 y1 y2
   unfold spec_IsLayout.j0
   repeat' first
   | with_reducible apply ih0
   | with_reducible apply ih1
   | with_reducible apply spec_l1Has.mono
   | (with_reducible exact LeO.refl _)
   | (with_reducible exact LeO.none _)
   | (with_reducible refine LeO.ite ?_ ?_)
   | (with_reducible refine LeO.bind ?_ (fun _ => ?_))
   | apply ih0
   | apply ih1
   | apply spec_l1Has.mono
   | exact LeO.none _
   | refine LeO.ite ?_ ?_
   | refine LeO.bind ?_ (fun _ => ?_)
  ·intro y0 y1 y2 y3 y4
   unfold spec_IsLayout.l0
   repeat' first
   | with_reducible apply ih0
   | with_reducible apply ih1
   | with_reducible apply spec_l1Has.mono
   | (with_reducible exact LeO.refl _)
   | (with_reducible exact LeO.none _)
   | (with_reducible refine LeO.ite ?_ ?_)
   | (with_reducible refine LeO.bind ?_ (fun _ => ?_))
   | apply ih0
   | apply ih1
   | apply spec_l1Has.mono
   | exact LeO.none _
   | refine LeO.ite ?_ ?_
   | refine LeO.bind ?_ (fun _ => ?_)
theorem spec_IsLayout.mono : ∀ a0 a1 k, LeO (spec_IsLayout.f k a0 a1) (spec_IsLayout.f (k + 1) a0 a1) := by
 intro a0 a1 k
 obtain ⟨ih0, ih1⟩ := spec_IsLayout.mono_l k
 unfold spec_IsLayout.f
 repeat' first
   | with_reducible apply ih0
   | with_reducible apply ih1
   | with_reducible apply spec_l1Has.mono
   | (with_reducible exact LeO.refl _)
   | (with_reducible exact LeO.none _)
   | (with_reducible refine LeO.ite ?_ ?_)
   | (with_reducible refine LeO.bind ?_ (fun _ => ?_))
   | apply ih0
   | apply ih1
   | apply spec_l1Has.mono
   | exact LeO.none _
   | refine LeO.ite ?_ ?_
   | refine LeO.bind ?_ (fun _ => ?_)
set_option maxHeartbeats 8000000 in
set_option maxRecDepth 100000 in
theorem spec_IsLayout.calls (k : Nat) (a0 : Int) (A1 : Option Addr) (c1 : Nat) (l1 : List Int) (r : Bool) (w : World) (hr1 : Kd.C (Kd.int .i64) w A1 l1.length l1) (hc1 : l1.length ≤ c1) (h : spec_IsLayout.f k a0 l1 = some r) :
  Calls Try.prog 37 #[.int .i64 a0, .slice A1 l1.length c1] w fun e w' => e = .returned (.bool r) ∧ Drawn0 w w' := by
 have HR1 := Aside0.mk hr1
 have HC1 := Aside0.mk hc1
 clear hr1 hc1
 have H : ((spec_l11Blocks.f a0).bind fun t115 => (if t115 = true then (if (l1.length : Int) = a0 then (if 0 < (l1.length : Int) then (spec_IsLayout.j0 k a0 l1 ((rd l1 0) != 0)) else (none)) else (spec_IsLayout.j0 k a0 l1 true)) else (spec_IsLayout.j0 k a0 l1 true))) = some r := h
 clear h
 have HC3 := Aside0.mk H
 clear H
 go_enter Try.func37, Try.ntmps37
 go_upto_region 1 with (fail)
 go_cut [21] (fun v21 wc => ∃ (kq : Nat) (x21_2 : Bool), v21 = .bool x21_2 ∧ Aside0 (spec_IsLayout.j0 kq a0 l1 x21_2 = some r) ∧ Aside0 (kq ≤ k) ∧ Drawn0 w wc)
 case first =>
  have H := HC3.out
  clear HC3
  replace H := lO H
  obtain ⟨t115, A4, H⟩ := H
  by_cases c5 : t115 = true
  ·subst c5
   rw [if_pos rfl] at H
   by_cases c6 : (l1.length : Int) = a0
   ·rw [if_pos c6] at H
    have c6b0 : ((l1.length : Int) == a0) = true := beq_iff_eq.mpr c6
    have c6b1 : ((l1.length : Int) != a0) = false := bne_eq_false_iff_eq.mpr c6
    clear c6
    (first | rw [c6b0] | (simp only [i64_w, i32_w]; rw [c6b0]) | skip)
    by_cases c7 : 0 < (l1.length : Int)
    ·rw [if_pos c7] at H
     have c7b0 : decide (0 < (l1.length : Int)) = true := decide_eq_true c7
     have c7b1 : decide (0 < l1.length) = true := decide_eq_true (by omega)
     clear c7
     have H' := Aside0.mk H
     clear H
     go_wp2_with (first | ((with_reducible refine gate_callee (f := 73) rfl ?_); refine gl_ (some 8) (Try.func73) #[.int .i64 a0] ?_; (with_reducible refine (spec_l11Blocks.calls a0 true _ A4.out).mono ?_); rintro e w' ⟨rfl, ⟨nd, rfl⟩⟩; refine ⟨_, rfl, ?_⟩; have p116 : 0 ≤ (0 : Int) := (by omega); have q116 : 0 < (l1.length : Int) := lD; obtain ⟨ad116, e116, hx116_0⟩ := Kd.at_int HR1.out 0 p116 q116; cases e116; have qi116 : (0 < l1.length) = True := eq_true (by omega); (try rw [show ((0 : Int)).toNat = 0 from rfl] at hx116_0); (try rw [Addr.add_zero'] at hx116_0); replace p116 := eq_true p116; replace q116 := eq_true q116))
     go_meet
     case rel => exact ⟨_, (((rd l1 0) != 0)), lF, H', ⟨lN⟩, by repeat (first | exact Drawn0.refl _ | apply Drawn0.step)⟩
    ·rw [if_neg c7] at H
     exact absurd H (by simp)
   ·rw [if_neg c6] at H
    have c6b0 : ((l1.length : Int) == a0) = false := beq_eq_false_iff_ne.mpr c6
    have c6b1 : ((l1.length : Int) != a0) = true := bne_iff_ne.mpr c6
    (first | rw [c6b0] | (simp only [i64_w, i32_w]; rw [c6b0]) | skip)
    have H' := Aside0.mk H
    clear H
    go_wp2_with (first | ((with_reducible refine gate_callee (f := 73) rfl ?_); refine gl_ (some 8) (Try.func73) #[.int .i64 a0] ?_; (with_reducible refine (spec_l11Blocks.calls a0 true _ A4.out).mono ?_); rintro e w' ⟨rfl, ⟨nd, rfl⟩⟩; refine ⟨_, rfl, ?_⟩))
    go_meet
    case rel => exact ⟨_, (true), lF, H', ⟨lN⟩, by repeat (first | exact Drawn0.refl _ | apply Drawn0.step)⟩
  ·replace c5 := Bool.eq_false_iff.mpr c5
   subst c5
   rw [if_neg (show ¬ (false = true) by decide)] at H
   have H' := Aside0.mk H
   clear H
   go_wp2_with (first | ((with_reducible refine gate_callee (f := 73) rfl ?_); refine gl_ (some 8) (Try.func73) #[.int .i64 a0] ?_; (with_reducible refine (spec_l11Blocks.calls a0 false _ A4.out).mono ?_); rintro e w' ⟨rfl, ⟨nd, rfl⟩⟩; refine ⟨_, rfl, ?_⟩))
   go_meet
   case rel => exact ⟨_, (true), lF, H', ⟨lN⟩, by repeat (first | exact Drawn0.refl _ | apply Drawn0.step)⟩
 case rest =>
  clear HC3
  try clear c1
  try clear p1
  try clear q1
  try clear hx1
  try clear qi1
  try clear p2
  try clear c3
  try clear c5
  try clear c6
  try clear c6b0
  try clear c6b1
  try clear c7
  try clear c7b0
  try clear c7b1
  try clear hx116_0
  try clear p116
  try clear q116
  obtain ⟨kq, x21_2, rfl, HA, HJ2, ⟨mc2, rfl⟩⟩ := hcut
  cases kq with
  | zero => exact absurd HA.out (by simp [spec_IsLayout.j0])
  | succ kj2 =>
   have H := HA.out
   clear HA
   simp only [spec_IsLayout.j0] at H
   by_cases c8 : x21_2 = true
   ·subst c8
    rw [if_pos rfl] at H
    obtain rfl := Option.some.inj H
    first | (go_wp2; go_ret; exact ⟨by first | rfl | (simp; done) | (simp [*]; done), by repeat (first | exact Drawn0.refl _ | apply Drawn0.step)⟩) | (exfalso; simp only [decide_eq_false_iff_not, decide_eq_true_eq] at *; omega)
   ·replace c8 := Bool.eq_false_iff.mpr c8
    subst c8
    rw [if_neg (show ¬ (false = true) by decide)] at H
    have H' := Aside0.mk H
    clear H
    go_wp2
    go_loopg [24] kj2 (fun kq v24 w' => ∃ (x24_2 : Int), v24 = .int .i64 x24_2 ∧ Aside0 (spec_IsLayout.l0 kq a0 l1 l1 (l1.length : Int) x24_2 = some r) ∧ Aside0 (kq ≤ kj2) ∧ Drawn0 w w')
    case atStart => exact ⟨(0), lF, H', ⟨Nat.le_refl _⟩, by repeat (first | exact Drawn0.refl _ | apply Drawn0.step)⟩
    case round =>
     clear H'
     try clear c1
     try clear p1
     try clear q1
     try clear hx1
     try clear qi1
     try clear c2
     try clear p2
     try clear c3
     try clear c5
     try clear c6
     try clear c6b0
     try clear c6b1
     try clear c7
     try clear c7b0
     try clear c7b1
     try clear c8
     try clear hx116_0
     try clear p1
     try clear p116
     try clear p2
     try clear q1
     try clear q116
     obtain ⟨x24_2, rfl, HA, HK2, ⟨m2, rfl⟩⟩ := hrel
     cases gk with
     | zero => exact absurd HA.out (by simp [spec_IsLayout.l0])
     | succ k2 =>
      have H := HA.out
      clear HA
      simp only [spec_IsLayout.l0] at H
      by_cases c9 : x24_2 < (l1.length : Int)
      ·rw [if_pos c9] at H
       have c9b0 : decide (x24_2 < (l1.length : Int)) = true := decide_eq_true c9
       clear c9
       by_cases c10 : 0 ≤ x24_2
       ·rw [if_pos c10] at H
        have c10b0 : decide (0 ≤ x24_2) = true := decide_eq_true c10
        clear c10
        by_cases c11 : x24_2 < (l1.length : Int)
        ·rw [if_pos c11] at H
         have c11b0 : decide (x24_2 < (l1.length : Int)) = true := decide_eq_true c11
         clear c11
         by_cases c12 : (rd l1 x24_2) < 0
         ·rw [if_pos c12] at H
          have c12b0 : decide ((rd l1 x24_2) < 0) = true := decide_eq_true c12
          clear c12
          obtain rfl := Option.some.inj H
          have p117 : 0 ≤ (x24_2 : Int) := lD
          have q117 : x24_2 < (l1.length : Int) := lD
          obtain ⟨ad117, e117, hx117_0⟩ := Kd.at_int HR1.out x24_2 p117 q117
          cases e117
          replace p117 := eq_true p117
          replace q117 := eq_true q117
          first | (go_wp2; go_ret; exact ⟨by first | rfl | (simp; done) | (simp [*]; done), by repeat (first | exact Drawn0.refl _ | apply Drawn0.step)⟩) | (exfalso; simp only [decide_eq_false_iff_not, decide_eq_true_eq] at *; omega)
         ·rw [if_neg c12] at H
          have c12b0 : decide ((rd l1 x24_2) < 0) = false := decide_eq_false c12
          clear c12
          by_cases c13 : (rd l1 x24_2) ≥ a0
          ·rw [if_pos c13] at H
           have c13b0 : decide (a0 ≤ (rd l1 x24_2)) = true := decide_eq_true c13
           clear c13
           obtain rfl := Option.some.inj H
           have p117 : 0 ≤ (x24_2 : Int) := lD
           have q117 : x24_2 < (l1.length : Int) := lD
           obtain ⟨ad117, e117, hx117_0⟩ := Kd.at_int HR1.out x24_2 p117 q117
           cases e117
           replace p117 := eq_true p117
           replace q117 := eq_true q117
           first | (go_wp2; go_ret; exact ⟨by first | rfl | (simp; done) | (simp [*]; done), by repeat (first | exact Drawn0.refl _ | apply Drawn0.step)⟩) | (exfalso; simp only [decide_eq_false_iff_not, decide_eq_true_eq] at *; omega)
          ·rw [if_neg c13] at H
           have c13b0 : decide (a0 ≤ (rd l1 x24_2)) = false := decide_eq_false c13
           clear c13
           have c14b0 := eq_true (lD : 0 ≤ x24_2)
           by_cases c15 : x24_2 ≤ (l1.length : Int)
           ·rw [if_pos c15] at H
            have c15b0 := eq_true c15
            have c15b1 : decide (x24_2 ≤ (l1.length : Int)) = true := decide_eq_true c15
            clear c15
            replace H := lO H
            obtain ⟨t119, A16, H⟩ := H
            by_cases c17 : t119 = true
            ·subst c17
             rw [if_pos rfl] at H
             obtain rfl := Option.some.inj H
             have p117 : 0 ≤ (x24_2 : Int) := lD
             have q117 : x24_2 < (l1.length : Int) := lD
             obtain ⟨ad117, e117, hx117_0⟩ := Kd.at_int HR1.out x24_2 p117 q117
             cases e117
             replace p117 := eq_true p117
             replace q117 := eq_true q117
             obtain ⟨i018, hi018, _, hsz18, _⟩ := info_parts info3
             obtain ⟨hcut18, hA18, hC18⟩ := print_take_of (P := Try.prog) (Value.int .i64) 0 34 3 .i64 Try.underlying34 hi018 hsz18 (some ad117) c1 l1 x24_2 (lD) (lD) HC1.out
             have HR118 := Aside0.mk (Kd.C_of_reads (h1 := fun _ => rfl) (hA18 _ (Kd.reads_of_C HR1.out)))
             have HC118 := Aside0.mk hC18
             clear hA18 hC18 hi018 hsz18
             go_wp2_with (first | (go_at_call 62; refine calls_of_args (args' := #[.slice (some ad117) (l1.take (x24_2 : Int).toNat).length c1, .int .i64 (rd l1 x24_2)]) (by first | rfl | ((have h1_ : (x24_2 : Int) ≤ (l1.length : Int) := (by first | exact of_eq_true (by assumption) | exact of_decide_eq_true (by assumption) | assumption | omega)); rw [List.length_take, Nat.min_eq_left (by omega)])) ?_; (with_reducible refine (spec_l1Has.calls k2 _ _ (l1.take (x24_2 : Int).toNat) (rd l1 x24_2) true _ ?side1 ?side2 A16.out).mono ?_); (case side1 => repeat (first | exact HR118.out | (with_reducible refine Kd.C_alloc ?_ _) | (with_reducible refine Kd.C_drewN ?_ _) | (with_reducible refine Kd.C_drew ?_))); (case side2 => exact HC118.out); rintro e w' ⟨rfl, ⟨nd, rfl⟩⟩))
             go_ret
             exact ⟨by first | rfl | (simp; done) | (simp [*]; done), by repeat (first | exact Drawn0.refl _ | apply Drawn0.step)⟩
            ·replace c17 := Bool.eq_false_iff.mpr c17
             subst c17
             rw [if_neg (show ¬ (false = true) by decide)] at H
             have H' := Aside0.mk H
             clear H
             have p117 : 0 ≤ (x24_2 : Int) := lD
             have q117 : x24_2 < (l1.length : Int) := lD
             obtain ⟨ad117, e117, hx117_0⟩ := Kd.at_int HR1.out x24_2 p117 q117
             cases e117
             replace p117 := eq_true p117
             replace q117 := eq_true q117
             obtain ⟨i019, hi019, _, hsz19, _⟩ := info_parts info3
             obtain ⟨hcut19, hA19, hC19⟩ := print_take_of (P := Try.prog) (Value.int .i64) 0 34 3 .i64 Try.underlying34 hi019 hsz19 (some ad117) c1 l1 x24_2 (lD) (lD) HC1.out
             have HR118 := Aside0.mk (Kd.C_of_reads (h1 := fun _ => rfl) (hA19 _ (Kd.reads_of_C HR1.out)))
             have HC118 := Aside0.mk hC19
             clear hA19 hC19 hi019 hsz19
             go_wp2_with (first | (go_at_call 62; refine calls_of_args (args' := #[.slice (some ad117) (l1.take (x24_2 : Int).toNat).length c1, .int .i64 (rd l1 x24_2)]) (by first | rfl | ((have h1_ : (x24_2 : Int) ≤ (l1.length : Int) := (by first | exact of_eq_true (by assumption) | exact of_decide_eq_true (by assumption) | assumption | omega)); rw [List.length_take, Nat.min_eq_left (by omega)])) ?_; (with_reducible refine (spec_l1Has.calls k2 _ _ (l1.take (x24_2 : Int).toNat) (rd l1 x24_2) false _ ?side1 ?side2 A16.out).mono ?_); (case side1 => repeat (first | exact HR118.out | (with_reducible refine Kd.C_alloc ?_ _) | (with_reducible refine Kd.C_drewN ?_ _) | (with_reducible refine Kd.C_drew ?_))); (case side2 => exact HC118.out); rintro e w' ⟨rfl, ⟨nd, rfl⟩⟩))
             go_roundg k2
             case measure => have := HJ2.out; have := HK2.out; omega
             case rel => exact ⟨(wrap64 (x24_2 + 1)), lF, H', ⟨by have := HJ2.out; have := HK2.out; omega⟩, by repeat (first | exact Drawn0.refl _ | apply Drawn0.step)⟩
           ·rw [if_neg c15] at H
            exact absurd H (by simp)
        ·rw [if_neg c11] at H
         exact absurd H (by simp)
       ·rw [if_neg c10] at H
        exact absurd H (by simp)
      ·rw [if_neg c9] at H
       have c9b0 : decide (x24_2 < (l1.length : Int)) = false := decide_eq_false c9
       clear c9
       obtain rfl := Option.some.inj H
       first | (go_wp2; go_ret; exact ⟨by first | rfl | (simp; done) | (simp [*]; done), by repeat (first | exact Drawn0.refl _ | apply Drawn0.step)⟩) | (exfalso; simp only [decide_eq_false_iff_not, decide_eq_true_eq] at *; omega)

/-! ### spec_l3Name: function 109 -/
def spec_l3Name.f (a0 : Int) : Option (Bool) := (spec_l1In.f a0 0 7).bind fun t120 => (some t120)
set_option maxHeartbeats 8000000 in
set_option maxRecDepth 100000 in
theorem spec_l3Name.calls (a0 : Int) (r : Bool) (w : World) (h : spec_l3Name.f a0 = some r) :
  Calls Try.prog 109 #[.int .i64 a0] w fun e w' => e = .returned (.bool r) ∧ Drawn0 w w' := by
 have H : ((spec_l1In.f a0 0 7).bind fun t120 => (some t120)) = some r := h
 clear h
 replace H := lO H
 obtain ⟨t120, A2, H⟩ := H
 obtain rfl := Option.some.inj H
 go_enter Try.func109, Try.ntmps109
 go_wp2_with (first | ((with_reducible refine gate_callee (f := 84) rfl ?_); refine gl_ (some 4) (Try.func84) #[.int .i64 a0, .int .i64 0, .int .i64 7] ?_; (with_reducible refine (spec_l1In.calls a0 0 7 t120 _ A2.out).mono ?_); rintro e w' ⟨rfl, ⟨nd, rfl⟩⟩; refine ⟨_, rfl, ?_⟩))
 go_ret
 exact ⟨by first | rfl | (simp; done) | (simp [*]; done), by repeat (first | exact Drawn0.refl _ | apply Drawn0.step)⟩

/-! ### spec_l1Word: function 116 -/
def spec_l1Word.f (a0 : Int) : Option (Bool) := (spec_l1In.f a0 0 65535).bind fun t121 => (some t121)
set_option maxHeartbeats 8000000 in
set_option maxRecDepth 100000 in
theorem spec_l1Word.calls (a0 : Int) (r : Bool) (w : World) (h : spec_l1Word.f a0 = some r) :
  Calls Try.prog 116 #[.int .i64 a0] w fun e w' => e = .returned (.bool r) ∧ Drawn0 w w' := by
 have H : ((spec_l1In.f a0 0 65535).bind fun t121 => (some t121)) = some r := h
 clear h
 replace H := lO H
 obtain ⟨t121, A2, H⟩ := H
 obtain rfl := Option.some.inj H
 go_enter Try.func116, Try.ntmps116
 go_wp2_with (first | ((with_reducible refine gate_callee (f := 84) rfl ?_); refine gl_ (some 4) (Try.func84) #[.int .i64 a0, .int .i64 0, .int .i64 65535] ?_; (with_reducible refine (spec_l1In.calls a0 0 65535 t121 _ A2.out).mono ?_); rintro e w' ⟨rfl, ⟨nd, rfl⟩⟩; refine ⟨_, rfl, ?_⟩))
 go_ret
 exact ⟨by first | rfl | (simp; done) | (simp [*]; done), by repeat (first | exact Drawn0.refl _ | apply Drawn0.step)⟩

/-! ### spec_l3Two: function 151 -/
def spec_l3Two.f (a0 : Int) : Option (Bool) := (spec_l1In.f a0 3 7).bind fun t122 => (some t122)
set_option maxHeartbeats 8000000 in
set_option maxRecDepth 100000 in
theorem spec_l3Two.calls (a0 : Int) (r : Bool) (w : World) (h : spec_l3Two.f a0 = some r) :
  Calls Try.prog 151 #[.int .i64 a0] w fun e w' => e = .returned (.bool r) ∧ Drawn0 w w' := by
 have H : ((spec_l1In.f a0 3 7).bind fun t122 => (some t122)) = some r := h
 clear h
 replace H := lO H
 obtain ⟨t122, A2, H⟩ := H
 obtain rfl := Option.some.inj H
 go_enter Try.func151, Try.ntmps151
 go_wp2_with (first | ((with_reducible refine gate_callee (f := 84) rfl ?_); refine gl_ (some 4) (Try.func84) #[.int .i64 a0, .int .i64 3, .int .i64 7] ?_; (with_reducible refine (spec_l1In.calls a0 3 7 t122 _ A2.out).mono ?_); rintro e w' ⟨rfl, ⟨nd, rfl⟩⟩; refine ⟨_, rfl, ?_⟩))
 go_ret
 exact ⟨by first | rfl | (simp; done) | (simp [*]; done), by repeat (first | exact Drawn0.refl _ | apply Drawn0.step)⟩

/-! ### spec_l3Good: function 127 -/
def spec_l3Good.f (a0_0 : Int) (a0_1 : Int) (a0_2 : Int) (a0_3 : Int) (a0_4 : Int) : Option (Bool) := if a0_0 = 1 then ((spec_l3Name.f a0_1).bind fun t124 => (if t124 = true then (if a0_2 = 0 then (if a0_3 = 0 then ((spec_l1Word.f a0_4).bind fun t125 => (some t125)) else (some false)) else (some false)) else (some false))) else (if a0_0 = 2 then ((spec_l3Name.f a0_1).bind fun t126 => (if t126 = true then ((spec_l3Name.f a0_2).bind fun t127 => (if t127 = true then (if a0_3 = 0 then (some (a0_4 == 0)) else (some false)) else (some false))) else (some false))) else (if a0_0 = 8 then (if a0_1 = 0 then ((spec_l3Name.f a0_2).bind fun t128 => (if t128 = true then (if a0_3 = 0 then (some (a0_4 == 0)) else (some false)) else (some false))) else (some false)) else ((spec_l3Two.f a0_0).bind fun t129 => (if t129 = true then ((spec_l3Name.f a0_1).bind fun t130 => (if t130 = true then ((spec_l3Name.f a0_2).bind fun t131 => (if t131 = true then ((spec_l3Name.f a0_3).bind fun t132 => (if t132 = true then (some (a0_4 == 0)) else (some false))) else (some false))) else (some false))) else (some false)))))
set_option maxHeartbeats 8000000 in
set_option maxRecDepth 100000 in
theorem spec_l3Good.calls (a0_0 : Int) (a0_1 : Int) (a0_2 : Int) (a0_3 : Int) (a0_4 : Int) (r : Bool) (w : World) (h : spec_l3Good.f a0_0 a0_1 a0_2 a0_3 a0_4 = some r) :
  Calls Try.prog 127 #[.agg #[.int .i64 a0_0, .int .i64 a0_1, .int .i64 a0_2, .int .i64 a0_3, .int .i64 a0_4]] w fun e w' => e = .returned (.bool r) ∧ Below w.heap.size w w' := by
 have hu130 := Try.underlying130
 have HB := Aside0.mk (Below.refl w.heap.size w)
 have H : (if a0_0 = 1 then ((spec_l3Name.f a0_1).bind fun t124 => (if t124 = true then (if a0_2 = 0 then (if a0_3 = 0 then ((spec_l1Word.f a0_4).bind fun t125 => (some t125)) else (some false)) else (some false)) else (some false))) else (if a0_0 = 2 then ((spec_l3Name.f a0_1).bind fun t126 => (if t126 = true then ((spec_l3Name.f a0_2).bind fun t127 => (if t127 = true then (if a0_3 = 0 then (some (a0_4 == 0)) else (some false)) else (some false))) else (some false))) else (if a0_0 = 8 then (if a0_1 = 0 then ((spec_l3Name.f a0_2).bind fun t128 => (if t128 = true then (if a0_3 = 0 then (some (a0_4 == 0)) else (some false)) else (some false))) else (some false)) else ((spec_l3Two.f a0_0).bind fun t129 => (if t129 = true then ((spec_l3Name.f a0_1).bind fun t130 => (if t130 = true then ((spec_l3Name.f a0_2).bind fun t131 => (if t131 = true then ((spec_l3Name.f a0_3).bind fun t132 => (if t132 = true then (some (a0_4 == 0)) else (some false))) else (some false))) else (some false))) else (some false)))))) = some r := h
 clear h
 by_cases c2 : a0_0 = 1
 ·rw [if_pos c2] at H
  have c2b0 : (a0_0 == 1) = true := beq_iff_eq.mpr c2
  have c2b1 : (a0_0 != 1) = false := bne_eq_false_iff_eq.mpr c2
  clear c2
  replace H := lO H
  obtain ⟨t124, A3, H⟩ := H
  by_cases c4 : t124 = true
  ·subst c4
   rw [if_pos rfl] at H
   by_cases c5 : a0_2 = 0
   ·rw [if_pos c5] at H
    have c5b0 : (a0_2 == 0) = true := beq_iff_eq.mpr c5
    have c5b1 : (a0_2 != 0) = false := bne_eq_false_iff_eq.mpr c5
    clear c5
    by_cases c6 : a0_3 = 0
    ·rw [if_pos c6] at H
     have c6b0 : (a0_3 == 0) = true := beq_iff_eq.mpr c6
     have c6b1 : (a0_3 != 0) = false := bne_eq_false_iff_eq.mpr c6
     clear c6
     replace H := lO H
     obtain ⟨t125, A7, H⟩ := H
     obtain rfl := Option.some.inj H
     go_enter Try.func127, Try.ntmps127
     go_wp2_with (first | ((with_reducible refine gate_dst (N := 1) rfl ?_); refine bxe 1 #[.int .i64 a0_0, .int .i64 a0_1, .int .i64 a0_2, .int .i64 a0_3, .int .i64 a0_4] 130 ?_; intro gb123 hg w8 hbox hb; have n0_ := Aside0.mk (below_step lB hb); have n1_ := Aside0.mk (hbox); have n2_ := lG w hg; have n3_ := lG w hg; clear HB; have HB := n0_; have BK123 := n1_; have GW123 := n2_; have GE123 := n3_; clear n0_ n1_ n2_ n3_; clear hb hbox hg; obtain ⟨hcz9_0, hfz9_0, hcz9_1, hfz9_1, hcz9_2, hfz9_2, hcz9_3, hfz9_3, hcz9_4, hfz9_4⟩ := bk5 BK123.out) | ((with_reducible refine gate_callee (f := 109) rfl ?_); refine gl_ (some 9) (Try.func109) #[.int .i64 a0_1] ?_; (with_reducible refine (spec_l3Name.calls a0_1 true _ A3.out).mono ?_); rintro e w' ⟨rfl, ⟨nd, rfl⟩⟩; refine ⟨_, rfl, ?_⟩) | (go_at_call 116; (with_reducible refine (spec_l1Word.calls a0_4 t125 _ A7.out).mono ?_); rintro e w' ⟨rfl, ⟨nd, rfl⟩⟩))
     go_ret
     exact ⟨lE, lB⟩
    ·rw [if_neg c6] at H
     have c6b0 : (a0_3 == 0) = false := beq_eq_false_iff_ne.mpr c6
     have c6b1 : (a0_3 != 0) = true := bne_iff_ne.mpr c6
     obtain rfl := Option.some.inj H
     go_enter Try.func127, Try.ntmps127
     go_wp2_with (first | ((with_reducible refine gate_dst (N := 1) rfl ?_); refine bxe 1 #[.int .i64 a0_0, .int .i64 a0_1, .int .i64 a0_2, .int .i64 a0_3, .int .i64 a0_4] 130 ?_; intro gb123 hg w10 hbox hb; have n0_ := Aside0.mk (below_step lB hb); have n1_ := Aside0.mk (hbox); have n2_ := lG w hg; have n3_ := lG w hg; clear HB; have HB := n0_; have BK123 := n1_; have GW123 := n2_; have GE123 := n3_; clear n0_ n1_ n2_ n3_; clear hb hbox hg; obtain ⟨hcz11_0, hfz11_0, hcz11_1, hfz11_1, hcz11_2, hfz11_2, hcz11_3, hfz11_3, hcz11_4, hfz11_4⟩ := bk5 BK123.out) | ((with_reducible refine gate_callee (f := 109) rfl ?_); refine gl_ (some 9) (Try.func109) #[.int .i64 a0_1] ?_; (with_reducible refine (spec_l3Name.calls a0_1 true _ A3.out).mono ?_); rintro e w' ⟨rfl, ⟨nd, rfl⟩⟩; refine ⟨_, rfl, ?_⟩))
     go_ret
     exact ⟨lE, lB⟩
   ·rw [if_neg c5] at H
    have c5b0 : (a0_2 == 0) = false := beq_eq_false_iff_ne.mpr c5
    have c5b1 : (a0_2 != 0) = true := bne_iff_ne.mpr c5
    obtain rfl := Option.some.inj H
    go_enter Try.func127, Try.ntmps127
    go_wp2_with (first | ((with_reducible refine gate_dst (N := 1) rfl ?_); refine bxe 1 #[.int .i64 a0_0, .int .i64 a0_1, .int .i64 a0_2, .int .i64 a0_3, .int .i64 a0_4] 130 ?_; intro gb123 hg w12 hbox hb; have n0_ := Aside0.mk (below_step lB hb); have n1_ := Aside0.mk (hbox); have n2_ := lG w hg; have n3_ := lG w hg; clear HB; have HB := n0_; have BK123 := n1_; have GW123 := n2_; have GE123 := n3_; clear n0_ n1_ n2_ n3_; clear hb hbox hg; obtain ⟨hcz13_0, hfz13_0, hcz13_1, hfz13_1, hcz13_2, hfz13_2, hcz13_3, hfz13_3, hcz13_4, hfz13_4⟩ := bk5 BK123.out) | ((with_reducible refine gate_callee (f := 109) rfl ?_); refine gl_ (some 9) (Try.func109) #[.int .i64 a0_1] ?_; (with_reducible refine (spec_l3Name.calls a0_1 true _ A3.out).mono ?_); rintro e w' ⟨rfl, ⟨nd, rfl⟩⟩; refine ⟨_, rfl, ?_⟩))
    go_ret
    exact ⟨lE, lB⟩
  ·replace c4 := Bool.eq_false_iff.mpr c4
   subst c4
   rw [if_neg (show ¬ (false = true) by decide)] at H
   obtain rfl := Option.some.inj H
   go_enter Try.func127, Try.ntmps127
   go_wp2_with (first | ((with_reducible refine gate_dst (N := 1) rfl ?_); refine bxe 1 #[.int .i64 a0_0, .int .i64 a0_1, .int .i64 a0_2, .int .i64 a0_3, .int .i64 a0_4] 130 ?_; intro gb123 hg w14 hbox hb; have n0_ := Aside0.mk (below_step lB hb); have n1_ := Aside0.mk (hbox); have n2_ := lG w hg; have n3_ := lG w hg; clear HB; have HB := n0_; have BK123 := n1_; have GW123 := n2_; have GE123 := n3_; clear n0_ n1_ n2_ n3_; clear hb hbox hg; obtain ⟨hcz15_0, hfz15_0, hcz15_1, hfz15_1, hcz15_2, hfz15_2, hcz15_3, hfz15_3, hcz15_4, hfz15_4⟩ := bk5 BK123.out) | ((with_reducible refine gate_callee (f := 109) rfl ?_); refine gl_ (some 9) (Try.func109) #[.int .i64 a0_1] ?_; (with_reducible refine (spec_l3Name.calls a0_1 false _ A3.out).mono ?_); rintro e w' ⟨rfl, ⟨nd, rfl⟩⟩; refine ⟨_, rfl, ?_⟩))
   go_ret
   exact ⟨lE, lB⟩
 ·rw [if_neg c2] at H
  have c2b0 : (a0_0 == 1) = false := beq_eq_false_iff_ne.mpr c2
  have c2b1 : (a0_0 != 1) = true := bne_iff_ne.mpr c2
  by_cases c16 : a0_0 = 2
  ·rw [if_pos c16] at H
   have c16b0 : (a0_0 == 2) = true := beq_iff_eq.mpr c16
   have c16b1 : (a0_0 != 2) = false := bne_eq_false_iff_eq.mpr c16
   clear c16
   replace H := lO H
   obtain ⟨t126, A17, H⟩ := H
   by_cases c18 : t126 = true
   ·subst c18
    rw [if_pos rfl] at H
    replace H := lO H
    obtain ⟨t127, A19, H⟩ := H
    by_cases c20 : t127 = true
    ·subst c20
     rw [if_pos rfl] at H
     by_cases c21 : a0_3 = 0
     ·rw [if_pos c21] at H
      have c21b0 : (a0_3 == 0) = true := beq_iff_eq.mpr c21
      have c21b1 : (a0_3 != 0) = false := bne_eq_false_iff_eq.mpr c21
      clear c21
      obtain rfl := Option.some.inj H
      go_enter Try.func127, Try.ntmps127
      go_wp2_with (first | ((with_reducible refine gate_dst (N := 1) rfl ?_); refine bxe 1 #[.int .i64 a0_0, .int .i64 a0_1, .int .i64 a0_2, .int .i64 a0_3, .int .i64 a0_4] 130 ?_; intro gb123 hg w22 hbox hb; have n0_ := Aside0.mk (below_step lB hb); have n1_ := Aside0.mk (hbox); have n2_ := lG w hg; have n3_ := lG w hg; clear HB; have HB := n0_; have BK123 := n1_; have GW123 := n2_; have GE123 := n3_; clear n0_ n1_ n2_ n3_; clear hb hbox hg; obtain ⟨hcz23_0, hfz23_0, hcz23_1, hfz23_1, hcz23_2, hfz23_2, hcz23_3, hfz23_3, hcz23_4, hfz23_4⟩ := bk5 BK123.out) | ((with_reducible refine gate_callee (f := 109) rfl ?_); refine gl_ (some 31) (Try.func109) #[.int .i64 a0_1] ?_; (with_reducible refine (spec_l3Name.calls a0_1 true _ A17.out).mono ?_); rintro e w' ⟨rfl, ⟨nd, rfl⟩⟩; refine ⟨_, rfl, ?_⟩) | (go_at_call 109; (with_reducible refine (spec_l3Name.calls a0_2 true _ A19.out).mono ?_); rintro e w' ⟨rfl, ⟨nd, rfl⟩⟩))
      go_ret
      exact ⟨lE, lB⟩
     ·rw [if_neg c21] at H
      have c21b0 : (a0_3 == 0) = false := beq_eq_false_iff_ne.mpr c21
      have c21b1 : (a0_3 != 0) = true := bne_iff_ne.mpr c21
      obtain rfl := Option.some.inj H
      go_enter Try.func127, Try.ntmps127
      go_wp2_with (first | ((with_reducible refine gate_dst (N := 1) rfl ?_); refine bxe 1 #[.int .i64 a0_0, .int .i64 a0_1, .int .i64 a0_2, .int .i64 a0_3, .int .i64 a0_4] 130 ?_; intro gb123 hg w24 hbox hb; have n0_ := Aside0.mk (below_step lB hb); have n1_ := Aside0.mk (hbox); have n2_ := lG w hg; have n3_ := lG w hg; clear HB; have HB := n0_; have BK123 := n1_; have GW123 := n2_; have GE123 := n3_; clear n0_ n1_ n2_ n3_; clear hb hbox hg; obtain ⟨hcz25_0, hfz25_0, hcz25_1, hfz25_1, hcz25_2, hfz25_2, hcz25_3, hfz25_3, hcz25_4, hfz25_4⟩ := bk5 BK123.out) | ((with_reducible refine gate_callee (f := 109) rfl ?_); refine gl_ (some 31) (Try.func109) #[.int .i64 a0_1] ?_; (with_reducible refine (spec_l3Name.calls a0_1 true _ A17.out).mono ?_); rintro e w' ⟨rfl, ⟨nd, rfl⟩⟩; refine ⟨_, rfl, ?_⟩) | (go_at_call 109; (with_reducible refine (spec_l3Name.calls a0_2 true _ A19.out).mono ?_); rintro e w' ⟨rfl, ⟨nd, rfl⟩⟩))
      go_ret
      exact ⟨lE, lB⟩
    ·replace c20 := Bool.eq_false_iff.mpr c20
     subst c20
     rw [if_neg (show ¬ (false = true) by decide)] at H
     obtain rfl := Option.some.inj H
     go_enter Try.func127, Try.ntmps127
     go_wp2_with (first | ((with_reducible refine gate_dst (N := 1) rfl ?_); refine bxe 1 #[.int .i64 a0_0, .int .i64 a0_1, .int .i64 a0_2, .int .i64 a0_3, .int .i64 a0_4] 130 ?_; intro gb123 hg w26 hbox hb; have n0_ := Aside0.mk (below_step lB hb); have n1_ := Aside0.mk (hbox); have n2_ := lG w hg; have n3_ := lG w hg; clear HB; have HB := n0_; have BK123 := n1_; have GW123 := n2_; have GE123 := n3_; clear n0_ n1_ n2_ n3_; clear hb hbox hg; obtain ⟨hcz27_0, hfz27_0, hcz27_1, hfz27_1, hcz27_2, hfz27_2, hcz27_3, hfz27_3, hcz27_4, hfz27_4⟩ := bk5 BK123.out) | ((with_reducible refine gate_callee (f := 109) rfl ?_); refine gl_ (some 31) (Try.func109) #[.int .i64 a0_1] ?_; (with_reducible refine (spec_l3Name.calls a0_1 true _ A17.out).mono ?_); rintro e w' ⟨rfl, ⟨nd, rfl⟩⟩; refine ⟨_, rfl, ?_⟩) | (go_at_call 109; (with_reducible refine (spec_l3Name.calls a0_2 false _ A19.out).mono ?_); rintro e w' ⟨rfl, ⟨nd, rfl⟩⟩))
     go_ret
     exact ⟨lE, lB⟩
   ·replace c18 := Bool.eq_false_iff.mpr c18
    subst c18
    rw [if_neg (show ¬ (false = true) by decide)] at H
    obtain rfl := Option.some.inj H
    go_enter Try.func127, Try.ntmps127
    go_wp2_with (first | ((with_reducible refine gate_dst (N := 1) rfl ?_); refine bxe 1 #[.int .i64 a0_0, .int .i64 a0_1, .int .i64 a0_2, .int .i64 a0_3, .int .i64 a0_4] 130 ?_; intro gb123 hg w28 hbox hb; have n0_ := Aside0.mk (below_step lB hb); have n1_ := Aside0.mk (hbox); have n2_ := lG w hg; have n3_ := lG w hg; clear HB; have HB := n0_; have BK123 := n1_; have GW123 := n2_; have GE123 := n3_; clear n0_ n1_ n2_ n3_; clear hb hbox hg; obtain ⟨hcz29_0, hfz29_0, hcz29_1, hfz29_1, hcz29_2, hfz29_2, hcz29_3, hfz29_3, hcz29_4, hfz29_4⟩ := bk5 BK123.out) | ((with_reducible refine gate_callee (f := 109) rfl ?_); refine gl_ (some 31) (Try.func109) #[.int .i64 a0_1] ?_; (with_reducible refine (spec_l3Name.calls a0_1 false _ A17.out).mono ?_); rintro e w' ⟨rfl, ⟨nd, rfl⟩⟩; refine ⟨_, rfl, ?_⟩))
    go_ret
    exact ⟨lE, lB⟩
  ·rw [if_neg c16] at H
   have c16b0 : (a0_0 == 2) = false := beq_eq_false_iff_ne.mpr c16
   have c16b1 : (a0_0 != 2) = true := bne_iff_ne.mpr c16
   by_cases c30 : a0_0 = 8
   ·rw [if_pos c30] at H
    have c30b0 : (a0_0 == 8) = true := beq_iff_eq.mpr c30
    have c30b1 : (a0_0 != 8) = false := bne_eq_false_iff_eq.mpr c30
    clear c30
    by_cases c31 : a0_1 = 0
    ·rw [if_pos c31] at H
     have c31b0 : (a0_1 == 0) = true := beq_iff_eq.mpr c31
     have c31b1 : (a0_1 != 0) = false := bne_eq_false_iff_eq.mpr c31
     clear c31
     replace H := lO H
     obtain ⟨t128, A32, H⟩ := H
     by_cases c33 : t128 = true
     ·subst c33
      rw [if_pos rfl] at H
      by_cases c34 : a0_3 = 0
      ·rw [if_pos c34] at H
       have c34b0 : (a0_3 == 0) = true := beq_iff_eq.mpr c34
       have c34b1 : (a0_3 != 0) = false := bne_eq_false_iff_eq.mpr c34
       clear c34
       obtain rfl := Option.some.inj H
       go_enter Try.func127, Try.ntmps127
       go_wp2_with (first | ((with_reducible refine gate_dst (N := 1) rfl ?_); refine bxe 1 #[.int .i64 a0_0, .int .i64 a0_1, .int .i64 a0_2, .int .i64 a0_3, .int .i64 a0_4] 130 ?_; intro gb123 hg w35 hbox hb; have n0_ := Aside0.mk (below_step lB hb); have n1_ := Aside0.mk (hbox); have n2_ := lG w hg; have n3_ := lG w hg; clear HB; have HB := n0_; have BK123 := n1_; have GW123 := n2_; have GE123 := n3_; clear n0_ n1_ n2_ n3_; clear hb hbox hg; obtain ⟨hcz36_0, hfz36_0, hcz36_1, hfz36_1, hcz36_2, hfz36_2, hcz36_3, hfz36_3, hcz36_4, hfz36_4⟩ := bk5 BK123.out) | (go_at_call 109; (with_reducible refine (spec_l3Name.calls a0_2 true _ A32.out).mono ?_); rintro e w' ⟨rfl, ⟨nd, rfl⟩⟩))
       go_ret
       exact ⟨lE, lB⟩
      ·rw [if_neg c34] at H
       have c34b0 : (a0_3 == 0) = false := beq_eq_false_iff_ne.mpr c34
       have c34b1 : (a0_3 != 0) = true := bne_iff_ne.mpr c34
       obtain rfl := Option.some.inj H
       go_enter Try.func127, Try.ntmps127
       go_wp2_with (first | ((with_reducible refine gate_dst (N := 1) rfl ?_); refine bxe 1 #[.int .i64 a0_0, .int .i64 a0_1, .int .i64 a0_2, .int .i64 a0_3, .int .i64 a0_4] 130 ?_; intro gb123 hg w37 hbox hb; have n0_ := Aside0.mk (below_step lB hb); have n1_ := Aside0.mk (hbox); have n2_ := lG w hg; have n3_ := lG w hg; clear HB; have HB := n0_; have BK123 := n1_; have GW123 := n2_; have GE123 := n3_; clear n0_ n1_ n2_ n3_; clear hb hbox hg; obtain ⟨hcz38_0, hfz38_0, hcz38_1, hfz38_1, hcz38_2, hfz38_2, hcz38_3, hfz38_3, hcz38_4, hfz38_4⟩ := bk5 BK123.out) | (go_at_call 109; (with_reducible refine (spec_l3Name.calls a0_2 true _ A32.out).mono ?_); rintro e w' ⟨rfl, ⟨nd, rfl⟩⟩))
       go_ret
       exact ⟨lE, lB⟩
     ·replace c33 := Bool.eq_false_iff.mpr c33
      subst c33
      rw [if_neg (show ¬ (false = true) by decide)] at H
      obtain rfl := Option.some.inj H
      go_enter Try.func127, Try.ntmps127
      go_wp2_with (first | ((with_reducible refine gate_dst (N := 1) rfl ?_); refine bxe 1 #[.int .i64 a0_0, .int .i64 a0_1, .int .i64 a0_2, .int .i64 a0_3, .int .i64 a0_4] 130 ?_; intro gb123 hg w39 hbox hb; have n0_ := Aside0.mk (below_step lB hb); have n1_ := Aside0.mk (hbox); have n2_ := lG w hg; have n3_ := lG w hg; clear HB; have HB := n0_; have BK123 := n1_; have GW123 := n2_; have GE123 := n3_; clear n0_ n1_ n2_ n3_; clear hb hbox hg; obtain ⟨hcz40_0, hfz40_0, hcz40_1, hfz40_1, hcz40_2, hfz40_2, hcz40_3, hfz40_3, hcz40_4, hfz40_4⟩ := bk5 BK123.out) | (go_at_call 109; (with_reducible refine (spec_l3Name.calls a0_2 false _ A32.out).mono ?_); rintro e w' ⟨rfl, ⟨nd, rfl⟩⟩))
      go_ret
      exact ⟨lE, lB⟩
    ·rw [if_neg c31] at H
     have c31b0 : (a0_1 == 0) = false := beq_eq_false_iff_ne.mpr c31
     have c31b1 : (a0_1 != 0) = true := bne_iff_ne.mpr c31
     obtain rfl := Option.some.inj H
     go_enter Try.func127, Try.ntmps127
     go_wp2_with (first | ((with_reducible refine gate_dst (N := 1) rfl ?_); refine bxe 1 #[.int .i64 a0_0, .int .i64 a0_1, .int .i64 a0_2, .int .i64 a0_3, .int .i64 a0_4] 130 ?_; intro gb123 hg w41 hbox hb; have n0_ := Aside0.mk (below_step lB hb); have n1_ := Aside0.mk (hbox); have n2_ := lG w hg; have n3_ := lG w hg; clear HB; have HB := n0_; have BK123 := n1_; have GW123 := n2_; have GE123 := n3_; clear n0_ n1_ n2_ n3_; clear hb hbox hg; obtain ⟨hcz42_0, hfz42_0, hcz42_1, hfz42_1, hcz42_2, hfz42_2, hcz42_3, hfz42_3, hcz42_4, hfz42_4⟩ := bk5 BK123.out))
     go_ret
     exact ⟨lE, lB⟩
   ·rw [if_neg c30] at H
    have c30b0 : (a0_0 == 8) = false := beq_eq_false_iff_ne.mpr c30
    have c30b1 : (a0_0 != 8) = true := bne_iff_ne.mpr c30
    replace H := lO H
    obtain ⟨t129, A43, H⟩ := H
    by_cases c44 : t129 = true
    ·subst c44
     rw [if_pos rfl] at H
     replace H := lO H
     obtain ⟨t130, A45, H⟩ := H
     by_cases c46 : t130 = true
     ·subst c46
      rw [if_pos rfl] at H
      replace H := lO H
      obtain ⟨t131, A47, H⟩ := H
      by_cases c48 : t131 = true
      ·subst c48
       rw [if_pos rfl] at H
       replace H := lO H
       obtain ⟨t132, A49, H⟩ := H
       by_cases c50 : t132 = true
       ·subst c50
        rw [if_pos rfl] at H
        obtain rfl := Option.some.inj H
        go_enter Try.func127, Try.ntmps127
        go_wp2_with (first | ((with_reducible refine gate_dst (N := 1) rfl ?_); refine bxe 1 #[.int .i64 a0_0, .int .i64 a0_1, .int .i64 a0_2, .int .i64 a0_3, .int .i64 a0_4] 130 ?_; intro gb123 hg w51 hbox hb; have n0_ := Aside0.mk (below_step lB hb); have n1_ := Aside0.mk (hbox); have n2_ := lG w hg; have n3_ := lG w hg; clear HB; have HB := n0_; have BK123 := n1_; have GW123 := n2_; have GE123 := n3_; clear n0_ n1_ n2_ n3_; clear hb hbox hg; obtain ⟨hcz52_0, hfz52_0, hcz52_1, hfz52_1, hcz52_2, hfz52_2, hcz52_3, hfz52_3, hcz52_4, hfz52_4⟩ := bk5 BK123.out) | ((with_reducible refine gate_callee (f := 151) rfl ?_); refine gl_ (some 71) (Try.func151) #[.int .i64 a0_0] ?_; (with_reducible refine (spec_l3Two.calls a0_0 true _ A43.out).mono ?_); rintro e w' ⟨rfl, ⟨nd, rfl⟩⟩; refine ⟨_, rfl, ?_⟩) | (go_at_call 109; (with_reducible refine (spec_l3Name.calls a0_1 true _ A45.out).mono ?_); rintro e w' ⟨rfl, ⟨nd, rfl⟩⟩) | (go_at_call 109; (with_reducible refine (spec_l3Name.calls a0_2 true _ A47.out).mono ?_); rintro e w' ⟨rfl, ⟨nd, rfl⟩⟩) | (go_at_call 109; (with_reducible refine (spec_l3Name.calls a0_3 true _ A49.out).mono ?_); rintro e w' ⟨rfl, ⟨nd, rfl⟩⟩))
        go_ret
        exact ⟨lE, lB⟩
       ·replace c50 := Bool.eq_false_iff.mpr c50
        subst c50
        rw [if_neg (show ¬ (false = true) by decide)] at H
        obtain rfl := Option.some.inj H
        go_enter Try.func127, Try.ntmps127
        go_wp2_with (first | ((with_reducible refine gate_dst (N := 1) rfl ?_); refine bxe 1 #[.int .i64 a0_0, .int .i64 a0_1, .int .i64 a0_2, .int .i64 a0_3, .int .i64 a0_4] 130 ?_; intro gb123 hg w53 hbox hb; have n0_ := Aside0.mk (below_step lB hb); have n1_ := Aside0.mk (hbox); have n2_ := lG w hg; have n3_ := lG w hg; clear HB; have HB := n0_; have BK123 := n1_; have GW123 := n2_; have GE123 := n3_; clear n0_ n1_ n2_ n3_; clear hb hbox hg; obtain ⟨hcz54_0, hfz54_0, hcz54_1, hfz54_1, hcz54_2, hfz54_2, hcz54_3, hfz54_3, hcz54_4, hfz54_4⟩ := bk5 BK123.out) | ((with_reducible refine gate_callee (f := 151) rfl ?_); refine gl_ (some 71) (Try.func151) #[.int .i64 a0_0] ?_; (with_reducible refine (spec_l3Two.calls a0_0 true _ A43.out).mono ?_); rintro e w' ⟨rfl, ⟨nd, rfl⟩⟩; refine ⟨_, rfl, ?_⟩) | (go_at_call 109; (with_reducible refine (spec_l3Name.calls a0_1 true _ A45.out).mono ?_); rintro e w' ⟨rfl, ⟨nd, rfl⟩⟩) | (go_at_call 109; (with_reducible refine (spec_l3Name.calls a0_2 true _ A47.out).mono ?_); rintro e w' ⟨rfl, ⟨nd, rfl⟩⟩) | (go_at_call 109; (with_reducible refine (spec_l3Name.calls a0_3 false _ A49.out).mono ?_); rintro e w' ⟨rfl, ⟨nd, rfl⟩⟩))
        go_ret
        exact ⟨lE, lB⟩
      ·replace c48 := Bool.eq_false_iff.mpr c48
       subst c48
       rw [if_neg (show ¬ (false = true) by decide)] at H
       obtain rfl := Option.some.inj H
       go_enter Try.func127, Try.ntmps127
       go_wp2_with (first | ((with_reducible refine gate_dst (N := 1) rfl ?_); refine bxe 1 #[.int .i64 a0_0, .int .i64 a0_1, .int .i64 a0_2, .int .i64 a0_3, .int .i64 a0_4] 130 ?_; intro gb123 hg w55 hbox hb; have n0_ := Aside0.mk (below_step lB hb); have n1_ := Aside0.mk (hbox); have n2_ := lG w hg; have n3_ := lG w hg; clear HB; have HB := n0_; have BK123 := n1_; have GW123 := n2_; have GE123 := n3_; clear n0_ n1_ n2_ n3_; clear hb hbox hg; obtain ⟨hcz56_0, hfz56_0, hcz56_1, hfz56_1, hcz56_2, hfz56_2, hcz56_3, hfz56_3, hcz56_4, hfz56_4⟩ := bk5 BK123.out) | ((with_reducible refine gate_callee (f := 151) rfl ?_); refine gl_ (some 71) (Try.func151) #[.int .i64 a0_0] ?_; (with_reducible refine (spec_l3Two.calls a0_0 true _ A43.out).mono ?_); rintro e w' ⟨rfl, ⟨nd, rfl⟩⟩; refine ⟨_, rfl, ?_⟩) | (go_at_call 109; (with_reducible refine (spec_l3Name.calls a0_1 true _ A45.out).mono ?_); rintro e w' ⟨rfl, ⟨nd, rfl⟩⟩) | (go_at_call 109; (with_reducible refine (spec_l3Name.calls a0_2 false _ A47.out).mono ?_); rintro e w' ⟨rfl, ⟨nd, rfl⟩⟩))
       go_ret
       exact ⟨lE, lB⟩
     ·replace c46 := Bool.eq_false_iff.mpr c46
      subst c46
      rw [if_neg (show ¬ (false = true) by decide)] at H
      obtain rfl := Option.some.inj H
      go_enter Try.func127, Try.ntmps127
      go_wp2_with (first | ((with_reducible refine gate_dst (N := 1) rfl ?_); refine bxe 1 #[.int .i64 a0_0, .int .i64 a0_1, .int .i64 a0_2, .int .i64 a0_3, .int .i64 a0_4] 130 ?_; intro gb123 hg w57 hbox hb; have n0_ := Aside0.mk (below_step lB hb); have n1_ := Aside0.mk (hbox); have n2_ := lG w hg; have n3_ := lG w hg; clear HB; have HB := n0_; have BK123 := n1_; have GW123 := n2_; have GE123 := n3_; clear n0_ n1_ n2_ n3_; clear hb hbox hg; obtain ⟨hcz58_0, hfz58_0, hcz58_1, hfz58_1, hcz58_2, hfz58_2, hcz58_3, hfz58_3, hcz58_4, hfz58_4⟩ := bk5 BK123.out) | ((with_reducible refine gate_callee (f := 151) rfl ?_); refine gl_ (some 71) (Try.func151) #[.int .i64 a0_0] ?_; (with_reducible refine (spec_l3Two.calls a0_0 true _ A43.out).mono ?_); rintro e w' ⟨rfl, ⟨nd, rfl⟩⟩; refine ⟨_, rfl, ?_⟩) | (go_at_call 109; (with_reducible refine (spec_l3Name.calls a0_1 false _ A45.out).mono ?_); rintro e w' ⟨rfl, ⟨nd, rfl⟩⟩))
      go_ret
      exact ⟨lE, lB⟩
    ·replace c44 := Bool.eq_false_iff.mpr c44
     subst c44
     rw [if_neg (show ¬ (false = true) by decide)] at H
     obtain rfl := Option.some.inj H
     go_enter Try.func127, Try.ntmps127
     go_wp2_with (first | ((with_reducible refine gate_dst (N := 1) rfl ?_); refine bxe 1 #[.int .i64 a0_0, .int .i64 a0_1, .int .i64 a0_2, .int .i64 a0_3, .int .i64 a0_4] 130 ?_; intro gb123 hg w59 hbox hb; have n0_ := Aside0.mk (below_step lB hb); have n1_ := Aside0.mk (hbox); have n2_ := lG w hg; have n3_ := lG w hg; clear HB; have HB := n0_; have BK123 := n1_; have GW123 := n2_; have GE123 := n3_; clear n0_ n1_ n2_ n3_; clear hb hbox hg; obtain ⟨hcz60_0, hfz60_0, hcz60_1, hfz60_1, hcz60_2, hfz60_2, hcz60_3, hfz60_3, hcz60_4, hfz60_4⟩ := bk5 BK123.out) | ((with_reducible refine gate_callee (f := 151) rfl ?_); refine gl_ (some 71) (Try.func151) #[.int .i64 a0_0] ?_; (with_reducible refine (spec_l3Two.calls a0_0 false _ A43.out).mono ?_); rintro e w' ⟨rfl, ⟨nd, rfl⟩⟩; refine ⟨_, rfl, ?_⟩))
     go_ret
     exact ⟨lE, lB⟩

/-! ### spec_GoodCode: function 108 -/
def spec_GoodCode.l0 : Nat → List (S130) → List (S130) → Int → Int → Option (Bool)
 | 0, _, _, _, _ => none
 | k + 1, x0, x5, x6, x7 => if x7 < x6 then (if 0 ≤ x7 then (if x7 < (x5.length : Int) then ((spec_l3Good.f ((rd_T130 x5 x7).f0) ((rd_T130 x5 x7).f1) ((rd_T130 x5 x7).f2) ((rd_T130 x5 x7).f3) ((rd_T130 x5 x7).f4)).bind fun t135 => (if t135 = true then (spec_GoodCode.l0 k x0 x5 x6 (wrap64 (x7 + 1))) else (some false))) else (none)) else (none)) else (some (decide ((x0.length : Int) ≤ 30)))
def spec_GoodCode.f (k : Nat) (l0 : List (S130)) : Option (Bool) := spec_GoodCode.l0 k l0 l0 (l0.length : Int) 0
theorem spec_GoodCode.mono_l : ∀ k, (∀ y0 y1 y2 y3, LeO (spec_GoodCode.l0 k y0 y1 y2 y3) (spec_GoodCode.l0 (k + 1) y0 y1 y2 y3))
 | 0 => fun _ _ _ _ r h => by simp [spec_GoodCode.l0] at h
 | k + 1 => by
  have ih0 := spec_GoodCode.mono_l k
  ·intro y0 y1 y2 y3
   unfold spec_GoodCode.l0
   repeat' first
   | with_reducible apply ih0
   | (with_reducible exact LeO.refl _)
   | (with_reducible exact LeO.none _)
   | (with_reducible refine LeO.ite ?_ ?_)
   | (with_reducible refine LeO.bind ?_ (fun _ => ?_))
   | apply ih0
   | exact LeO.none _
   | refine LeO.ite ?_ ?_
   | refine LeO.bind ?_ (fun _ => ?_)
theorem spec_GoodCode.mono : ∀ a0 k, LeO (spec_GoodCode.f k a0) (spec_GoodCode.f (k + 1) a0) := by
 intro a0 k
 have ih0 := spec_GoodCode.mono_l k
 unfold spec_GoodCode.f
 repeat' first
   | with_reducible apply ih0
   | (with_reducible exact LeO.refl _)
   | (with_reducible exact LeO.none _)
   | (with_reducible refine LeO.ite ?_ ?_)
   | (with_reducible refine LeO.bind ?_ (fun _ => ?_))
   | apply ih0
   | exact LeO.none _
   | refine LeO.ite ?_ ?_
   | refine LeO.bind ?_ (fun _ => ?_)
set_option maxHeartbeats 8000000 in
set_option maxRecDepth 100000 in
theorem spec_GoodCode.calls (k : Nat) (A0 : Option Addr) (c0 : Nat) (l0 : List (S130)) (r : Bool) (w : World) (hr0 : Kd.C k130 w A0 l0.length l0) (hc0 : l0.length ≤ c0) (h : spec_GoodCode.f k l0 = some r) :
  Calls Try.prog 108 #[.slice A0 l0.length c0] w fun e w' => e = .returned (.bool r) ∧ Below w.heap.size w w' := by
 have hu130 := Try.underlying130
 have HR0 := Aside0.mk hr0
 have HC0 := Aside0.mk hc0
 clear hr0 hc0
 have HB := Aside0.mk (Below.refl w.heap.size w)
 have H : (spec_GoodCode.l0 k l0 l0 (l0.length : Int) 0) = some r := h
 clear h
 have H' := Aside0.mk H
 clear H
 go_enter Try.func108, Try.ntmps108
 go_wp2
 go_loopg [7] k (fun kq v7 w' => ∃ (x7_1 : Int), v7 = .int .i64 x7_1 ∧ Aside0 (spec_GoodCode.l0 kq l0 l0 (l0.length : Int) x7_1 = some r) ∧ Aside0 (kq ≤ k) ∧ Aside0 (Below w.heap.size w w'))
 case atStart => exact ⟨(0), lF, H', ⟨Nat.le_refl _⟩, ⟨lB⟩⟩
 case round =>
  clear H'
  try clear c1
  obtain ⟨x7_1, rfl, HA, HK1, HB⟩ := hrel
  cases gk with
  | zero => exact absurd HA.out (by simp [spec_GoodCode.l0])
  | succ k1 =>
   have H := HA.out
   clear HA
   simp only [spec_GoodCode.l0] at H
   by_cases c2 : x7_1 < (l0.length : Int)
   ·rw [if_pos c2] at H
    have c2b0 : decide (x7_1 < (l0.length : Int)) = true := decide_eq_true c2
    clear c2
    by_cases c3 : 0 ≤ x7_1
    ·rw [if_pos c3] at H
     have c3b0 : decide (0 ≤ x7_1) = true := decide_eq_true c3
     clear c3
     by_cases c4 : x7_1 < (l0.length : Int)
     ·rw [if_pos c4] at H
      have c4b0 : decide (x7_1 < (l0.length : Int)) = true := decide_eq_true c4
      clear c4
      replace H := lO H
      obtain ⟨t135, A5, H⟩ := H
      by_cases c6 : t135 = true
      ·subst c6
       rw [if_pos rfl] at H
       have H' := Aside0.mk H
       clear H
       have p133 : 0 ≤ (x7_1 : Int) := lD
       have q133 : x7_1 < (l0.length : Int) := lD
       obtain ⟨ad133, e133, hx133_0, hx133_1, hx133_2, hx133_3, hx133_4⟩ := at_T130 HR0.out x7_1 p133 q133
       cases e133
       replace hx133_0 := pw_cell_below HB.out hx133_0
       replace hx133_1 := pw_cell_below HB.out hx133_1
       replace hx133_2 := pw_cell_below HB.out hx133_2
       replace hx133_3 := pw_cell_below HB.out hx133_3
       replace hx133_4 := pw_cell_below HB.out hx133_4
       replace p133 := eq_true p133
       replace q133 := eq_true q133
       go_wp2_with (first | ((with_reducible refine gate_dst (N := 4) rfl ?_); refine bxe 4 #[.int .i64 0, .int .i64 0, .int .i64 0, .int .i64 0, .int .i64 0] 130 ?_; intro gb134 hg w7 hbox hb; have n0_ := Aside0.mk (below_step lB hb); have n1_ := Aside0.mk (hbox); have n2_ := lG w hg; have n3_ := lG w hg; clear HB; have HB := n0_; have BK134 := n1_; have GW134 := n2_; have GE134 := n3_; clear n0_ n1_ n2_ n3_; clear hb hbox hg; obtain ⟨hcz8_0, hfz8_0, hcz8_1, hfz8_1, hcz8_2, hfz8_2, hcz8_3, hfz8_3, hcz8_4, hfz8_4⟩ := bk5 BK134.out) | ((with_reducible refine gate_callee (f := 127) rfl ?_); refine gl_ (some 12) (Try.func127) #[.agg #[.int .i64 ((rd_T130 l0 x7_1).f0), .int .i64 ((rd_T130 l0 x7_1).f1), .int .i64 ((rd_T130 l0 x7_1).f2), .int .i64 ((rd_T130 l0 x7_1).f3), .int .i64 ((rd_T130 l0 x7_1).f4)]] ?_; (with_reducible refine (spec_l3Good.calls ((rd_T130 l0 x7_1).f0) ((rd_T130 l0 x7_1).f1) ((rd_T130 l0 x7_1).f2) ((rd_T130 l0 x7_1).f3) ((rd_T130 l0 x7_1).f4) true _ A5.out).mono ?_); rintro e w9 ⟨rfl, hb⟩; refine ⟨_, rfl, ?_⟩; have n0_ := Aside0.mk (blk_below (g := gb134) (o := .cells #[.int .i64 ((rd_T130 l0 x7_1).f0), .int .i64 ((rd_T130 l0 x7_1).f1), .int .i64 ((rd_T130 l0 x7_1).f2), .int .i64 ((rd_T130 l0 x7_1).f3), .int .i64 ((rd_T130 l0 x7_1).f4)] 130 (0, 0)) (by (with_reducible repeat first | apply bN | apply bD | apply bA); refine blk_put (cs := #[.int .i64 ((rd_T130 l0 x7_1).f0), .int .i64 ((rd_T130 l0 x7_1).f1), .int .i64 ((rd_T130 l0 x7_1).f2), .int .i64 ((rd_T130 l0 x7_1).f3), .int .i64 0]) ?_ 4 _ rfl; (with_reducible repeat first | apply bN | apply bD | apply bA); refine blk_put (cs := #[.int .i64 ((rd_T130 l0 x7_1).f0), .int .i64 ((rd_T130 l0 x7_1).f1), .int .i64 ((rd_T130 l0 x7_1).f2), .int .i64 0, .int .i64 0]) ?_ 3 _ rfl; (with_reducible repeat first | apply bN | apply bD | apply bA); refine blk_put (cs := #[.int .i64 ((rd_T130 l0 x7_1).f0), .int .i64 ((rd_T130 l0 x7_1).f1), .int .i64 0, .int .i64 0, .int .i64 0]) ?_ 2 _ rfl; (with_reducible repeat first | apply bN | apply bD | apply bA); refine blk_put (cs := #[.int .i64 ((rd_T130 l0 x7_1).f0), .int .i64 0, .int .i64 0, .int .i64 0, .int .i64 0]) ?_ 1 _ rfl; (with_reducible repeat first | apply bN | apply bD | apply bA); refine blk_put (cs := #[.int .i64 0, .int .i64 0, .int .i64 0, .int .i64 0, .int .i64 0]) ?_ 0 _ rfl; (with_reducible repeat first | apply bN | apply bD | apply bA); exact BK134.out) hb); have n1_ := Aside0.mk (below_step lB hb); clear BK134; clear HB; have BK134 := n0_; have HB := n1_; clear n0_ n1_; (try clear hb); (try clear hb2); (try clear hk); (try clear hi)))
       go_roundg k1
       case measure => have := HK1.out; omega
       case rel => exact ⟨(wrap64 (x7_1 + 1)), lF, H', ⟨by have := HK1.out; omega⟩, ⟨lB⟩⟩
      ·replace c6 := Bool.eq_false_iff.mpr c6
       subst c6
       rw [if_neg (show ¬ (false = true) by decide)] at H
       obtain rfl := Option.some.inj H
       have p133 : 0 ≤ (x7_1 : Int) := lD
       have q133 : x7_1 < (l0.length : Int) := lD
       obtain ⟨ad133, e133, hx133_0, hx133_1, hx133_2, hx133_3, hx133_4⟩ := at_T130 HR0.out x7_1 p133 q133
       cases e133
       replace hx133_0 := pw_cell_below HB.out hx133_0
       replace hx133_1 := pw_cell_below HB.out hx133_1
       replace hx133_2 := pw_cell_below HB.out hx133_2
       replace hx133_3 := pw_cell_below HB.out hx133_3
       replace hx133_4 := pw_cell_below HB.out hx133_4
       replace p133 := eq_true p133
       replace q133 := eq_true q133
       go_wp2_with (first | ((with_reducible refine gate_dst (N := 4) rfl ?_); refine bxe 4 #[.int .i64 0, .int .i64 0, .int .i64 0, .int .i64 0, .int .i64 0] 130 ?_; intro gb134 hg w10 hbox hb; have n0_ := Aside0.mk (below_step lB hb); have n1_ := Aside0.mk (hbox); have n2_ := lG w hg; have n3_ := lG w hg; clear HB; have HB := n0_; have BK134 := n1_; have GW134 := n2_; have GE134 := n3_; clear n0_ n1_ n2_ n3_; clear hb hbox hg; obtain ⟨hcz11_0, hfz11_0, hcz11_1, hfz11_1, hcz11_2, hfz11_2, hcz11_3, hfz11_3, hcz11_4, hfz11_4⟩ := bk5 BK134.out) | ((with_reducible refine gate_callee (f := 127) rfl ?_); refine gl_ (some 12) (Try.func127) #[.agg #[.int .i64 ((rd_T130 l0 x7_1).f0), .int .i64 ((rd_T130 l0 x7_1).f1), .int .i64 ((rd_T130 l0 x7_1).f2), .int .i64 ((rd_T130 l0 x7_1).f3), .int .i64 ((rd_T130 l0 x7_1).f4)]] ?_; (with_reducible refine (spec_l3Good.calls ((rd_T130 l0 x7_1).f0) ((rd_T130 l0 x7_1).f1) ((rd_T130 l0 x7_1).f2) ((rd_T130 l0 x7_1).f3) ((rd_T130 l0 x7_1).f4) false _ A5.out).mono ?_); rintro e w12 ⟨rfl, hb⟩; refine ⟨_, rfl, ?_⟩; have n0_ := Aside0.mk (blk_below (g := gb134) (o := .cells #[.int .i64 ((rd_T130 l0 x7_1).f0), .int .i64 ((rd_T130 l0 x7_1).f1), .int .i64 ((rd_T130 l0 x7_1).f2), .int .i64 ((rd_T130 l0 x7_1).f3), .int .i64 ((rd_T130 l0 x7_1).f4)] 130 (0, 0)) (by (with_reducible repeat first | apply bN | apply bD | apply bA); refine blk_put (cs := #[.int .i64 ((rd_T130 l0 x7_1).f0), .int .i64 ((rd_T130 l0 x7_1).f1), .int .i64 ((rd_T130 l0 x7_1).f2), .int .i64 ((rd_T130 l0 x7_1).f3), .int .i64 0]) ?_ 4 _ rfl; (with_reducible repeat first | apply bN | apply bD | apply bA); refine blk_put (cs := #[.int .i64 ((rd_T130 l0 x7_1).f0), .int .i64 ((rd_T130 l0 x7_1).f1), .int .i64 ((rd_T130 l0 x7_1).f2), .int .i64 0, .int .i64 0]) ?_ 3 _ rfl; (with_reducible repeat first | apply bN | apply bD | apply bA); refine blk_put (cs := #[.int .i64 ((rd_T130 l0 x7_1).f0), .int .i64 ((rd_T130 l0 x7_1).f1), .int .i64 0, .int .i64 0, .int .i64 0]) ?_ 2 _ rfl; (with_reducible repeat first | apply bN | apply bD | apply bA); refine blk_put (cs := #[.int .i64 ((rd_T130 l0 x7_1).f0), .int .i64 0, .int .i64 0, .int .i64 0, .int .i64 0]) ?_ 1 _ rfl; (with_reducible repeat first | apply bN | apply bD | apply bA); refine blk_put (cs := #[.int .i64 0, .int .i64 0, .int .i64 0, .int .i64 0, .int .i64 0]) ?_ 0 _ rfl; (with_reducible repeat first | apply bN | apply bD | apply bA); exact BK134.out) hb); have n1_ := Aside0.mk (below_step lB hb); clear BK134; clear HB; have BK134 := n0_; have HB := n1_; clear n0_ n1_; (try clear hb); (try clear hb2); (try clear hk); (try clear hi)))
       go_ret
       exact ⟨lE, lB⟩
     ·rw [if_neg c4] at H
      exact absurd H (by simp)
    ·rw [if_neg c3] at H
     exact absurd H (by simp)
   ·rw [if_neg c2] at H
    have c2b0 : decide (x7_1 < (l0.length : Int)) = false := decide_eq_false c2
    clear c2
    obtain rfl := Option.some.inj H
    first | (go_wp2; go_ret; exact ⟨lE, lB⟩) | (exfalso; simp only [decide_eq_false_iff_not, decide_eq_true_eq] at *; omega)

/-! ### spec_GoodFlow: function 75 -/
def spec_GoodFlow.l0 : Nat → List (S99) → List (S99) → Int → Int → Option (Bool)
 | 0, _, _, _, _ => none
 | k + 1, x0, x5, x6, x7 => if x7 < x6 then (if 0 ≤ x7 then (if x7 < (x5.length : Int) then ((spec_GoodCode.f k ((rd_T99 x5 x7).f0)).bind fun t139 => (if t139 = true then ((spec_l3Name.f ((rd_T99 x5 x7).f1)).bind fun t140 => (if t140 = true then ((spec_l1In.f ((rd_T99 x5 x7).f2) (-1) (wrap64 ((x0.length : Int) - 1))).bind fun t141 => (if t141 = true then ((spec_l1In.f ((rd_T99 x5 x7).f3) (-1) (wrap64 ((x0.length : Int) - 1))).bind fun t142 => (if t142 = true then (spec_GoodFlow.l0 k x0 x5 x6 (wrap64 (x7 + 1))) else (some false))) else (some false))) else (some false))) else (some false))) else (none)) else (none)) else ((spec_l1In.f (x0.length : Int) 1 8).bind fun t136 => (some t136))
def spec_GoodFlow.f (k : Nat) (l0 : List (S99)) : Option (Bool) := spec_GoodFlow.l0 k l0 l0 (l0.length : Int) 0
theorem spec_GoodFlow.mono_l : ∀ k, (∀ y0 y1 y2 y3, LeO (spec_GoodFlow.l0 k y0 y1 y2 y3) (spec_GoodFlow.l0 (k + 1) y0 y1 y2 y3))
 | 0 => fun _ _ _ _ r h => by simp [spec_GoodFlow.l0] at h
 | k + 1 => by
  have ih0 := spec_GoodFlow.mono_l k
  ·intro y0 y1 y2 y3
   unfold spec_GoodFlow.l0
   repeat' first
   | with_reducible apply ih0
   | with_reducible apply spec_GoodCode.mono
   | (with_reducible exact LeO.refl _)
   | (with_reducible exact LeO.none _)
   | (with_reducible refine LeO.ite ?_ ?_)
   | (with_reducible refine LeO.bind ?_ (fun _ => ?_))
   | apply ih0
   | apply spec_GoodCode.mono
   | exact LeO.none _
   | refine LeO.ite ?_ ?_
   | refine LeO.bind ?_ (fun _ => ?_)
theorem spec_GoodFlow.mono : ∀ a0 k, LeO (spec_GoodFlow.f k a0) (spec_GoodFlow.f (k + 1) a0) := by
 intro a0 k
 have ih0 := spec_GoodFlow.mono_l k
 unfold spec_GoodFlow.f
 repeat' first
   | with_reducible apply ih0
   | with_reducible apply spec_GoodCode.mono
   | (with_reducible exact LeO.refl _)
   | (with_reducible exact LeO.none _)
   | (with_reducible refine LeO.ite ?_ ?_)
   | (with_reducible refine LeO.bind ?_ (fun _ => ?_))
   | apply ih0
   | apply spec_GoodCode.mono
   | exact LeO.none _
   | refine LeO.ite ?_ ?_
   | refine LeO.bind ?_ (fun _ => ?_)
set_option maxHeartbeats 8000000 in
set_option maxRecDepth 100000 in
theorem spec_GoodFlow.calls (k : Nat) (A0 : Option Addr) (c0 : Nat) (l0 : List (S99)) (r : Bool) (w : World) (hr0 : Kd.C k99 w A0 l0.length l0) (hc0 : l0.length ≤ c0) (h : spec_GoodFlow.f k l0 = some r) :
  Calls Try.prog 75 #[.slice A0 l0.length c0] w fun e w' => e = .returned (.bool r) ∧ Below w.heap.size w w' := by
 have hu99 := Try.underlying99
 have HR0 := Aside0.mk hr0
 have HC0 := Aside0.mk hc0
 clear hr0 hc0
 have HB := Aside0.mk (Below.refl w.heap.size w)
 have H : (spec_GoodFlow.l0 k l0 l0 (l0.length : Int) 0) = some r := h
 clear h
 have H' := Aside0.mk H
 clear H
 go_enter Try.func75, Try.ntmps75
 go_wp2
 go_loopg [7] k (fun kq v7 w' => ∃ (x7_1 : Int), v7 = .int .i64 x7_1 ∧ Aside0 (spec_GoodFlow.l0 kq l0 l0 (l0.length : Int) x7_1 = some r) ∧ Aside0 (kq ≤ k) ∧ Aside0 (Below w.heap.size w w'))
 case atStart => exact ⟨(0), lF, H', ⟨Nat.le_refl _⟩, ⟨lB⟩⟩
 case round =>
  clear H'
  obtain ⟨x7_1, rfl, HA, HK1, HB⟩ := hrel
  cases gk with
  | zero => exact absurd HA.out (by simp [spec_GoodFlow.l0])
  | succ k1 =>
   have H := HA.out
   clear HA
   simp only [spec_GoodFlow.l0] at H
   by_cases c2 : x7_1 < (l0.length : Int)
   ·rw [if_pos c2] at H
    have c2b0 : decide (x7_1 < (l0.length : Int)) = true := decide_eq_true c2
    clear c2
    by_cases c3 : 0 ≤ x7_1
    ·rw [if_pos c3] at H
     have c3b0 : decide (0 ≤ x7_1) = true := decide_eq_true c3
     clear c3
     by_cases c4 : x7_1 < (l0.length : Int)
     ·rw [if_pos c4] at H
      have c4b0 : decide (x7_1 < (l0.length : Int)) = true := decide_eq_true c4
      clear c4
      replace H := lO H
      obtain ⟨t139, A5, H⟩ := H
      by_cases c6 : t139 = true
      ·subst c6
       rw [if_pos rfl] at H
       replace H := lO H
       obtain ⟨t140, A7, H⟩ := H
       by_cases c8 : t140 = true
       ·subst c8
        rw [if_pos rfl] at H
        replace H := lO H
        obtain ⟨t141, A9, H⟩ := H
        by_cases c10 : t141 = true
        ·subst c10
         rw [if_pos rfl] at H
         replace H := lO H
         obtain ⟨t142, A11, H⟩ := H
         by_cases c12 : t142 = true
         ·subst c12
          rw [if_pos rfl] at H
          have H' := Aside0.mk H
          clear H
          have p137 : 0 ≤ (x7_1 : Int) := lD
          have q137 : x7_1 < (l0.length : Int) := lD
          obtain ⟨ad137, A137_0, c137_0, e137, hx137_0, hx137_1, hx137_2, hx137_3, hl137_0, hi137_0⟩ := at_T99 HR0.out x7_1 p137 q137
          cases e137
          replace hx137_0 := pw_cell_below HB.out hx137_0
          replace hx137_1 := pw_cell_below HB.out hx137_1
          replace hx137_2 := pw_cell_below HB.out hx137_2
          replace hx137_3 := pw_cell_below HB.out hx137_3
          have HR137_0 := Aside0.mk hi137_0
          have HC137_0 := Aside0.mk hl137_0
          clear hi137_0 hl137_0
          replace p137 := eq_true p137
          replace q137 := eq_true q137
          go_wp2_with (first | ((with_reducible refine gate_dst (N := 4) rfl ?_); (try (refine gate_guard (by rfl) ?_; dsimp only)); refine bxe 4 #[.slice none 0 0, .int .i64 0, .int .i64 0, .int .i64 0] 99 ?_; intro gb138 hg w13 hbox hb; have n0_ := Aside0.mk (below_step lB hb); have n1_ := Aside0.mk (hbox); have n2_ := lG w hg; have n3_ := lG w hg; clear HB; have HB := n0_; have BK138 := n1_; have GW138 := n2_; have GE138 := n3_; clear n0_ n1_ n2_ n3_; clear hb hbox hg; obtain ⟨hcz14_0, hfz14_0, hcz14_1, hfz14_1, hcz14_2, hfz14_2, hcz14_3, hfz14_3⟩ := bk4 BK138.out) | ((with_reducible refine gate_callee (f := 108) rfl ?_); refine gl_ (some 13) (Try.func108) #[.slice A137_0 ((rd_T99 l0 x7_1).f0).length c137_0] ?_; (with_reducible refine (spec_GoodCode.calls k1 _ _ ((rd_T99 l0 x7_1).f0) true _ ?side1 ?side2 A5.out).mono ?_); (case side1 => exact Kd.C_below HR137_0.out lB); (case side2 => exact HC137_0.out); rintro e w15 ⟨rfl, hb⟩; refine ⟨_, rfl, ?_⟩; have n0_ := Aside0.mk (blk_below (g := gb138) (o := .cells #[.slice A137_0 ((rd_T99 l0 x7_1).f0).length c137_0, .int .i64 ((rd_T99 l0 x7_1).f1), .int .i64 ((rd_T99 l0 x7_1).f2), .int .i64 ((rd_T99 l0 x7_1).f3)] 99 (0, 0)) (by (with_reducible repeat first | apply bN | apply bD | apply bA); refine blk_put (cs := #[.slice A137_0 ((rd_T99 l0 x7_1).f0).length c137_0, .int .i64 ((rd_T99 l0 x7_1).f1), .int .i64 ((rd_T99 l0 x7_1).f2), .int .i64 0]) ?_ 3 _ rfl; (with_reducible repeat first | apply bN | apply bD | apply bA); refine blk_put (cs := #[.slice A137_0 ((rd_T99 l0 x7_1).f0).length c137_0, .int .i64 ((rd_T99 l0 x7_1).f1), .int .i64 0, .int .i64 0]) ?_ 2 _ rfl; (with_reducible repeat first | apply bN | apply bD | apply bA); refine blk_put (cs := #[.slice A137_0 ((rd_T99 l0 x7_1).f0).length c137_0, .int .i64 0, .int .i64 0, .int .i64 0]) ?_ 1 _ rfl; (with_reducible repeat first | apply bN | apply bD | apply bA); refine blk_put (cs := #[.slice none 0 0, .int .i64 0, .int .i64 0, .int .i64 0]) ?_ 0 _ rfl; (with_reducible repeat first | apply bN | apply bD | apply bA); exact BK138.out) hb); have n1_ := Aside0.mk (below_step lB hb); clear BK138; clear HB; have BK138 := n0_; have HB := n1_; clear n0_ n1_; (try clear hb); (try clear hb2); (try clear hk); (try clear hi); obtain ⟨hcz16_0, hfz16_0, hcz16_1, hfz16_1, hcz16_2, hfz16_2, hcz16_3, hfz16_3⟩ := bk4 BK138.out) | (go_at_call 109; (with_reducible refine (spec_l3Name.calls ((rd_T99 l0 x7_1).f1) true _ A7.out).mono ?_); rintro e w' ⟨rfl, ⟨nd, rfl⟩⟩) | (go_at_call 84; (with_reducible refine (spec_l1In.calls ((rd_T99 l0 x7_1).f2) (-1) (wrap64 ((l0.length : Int) - 1)) true _ A9.out).mono ?_); rintro e w' ⟨rfl, ⟨nd, rfl⟩⟩) | (go_at_call 84; (with_reducible refine (spec_l1In.calls ((rd_T99 l0 x7_1).f3) (-1) (wrap64 ((l0.length : Int) - 1)) true _ A11.out).mono ?_); rintro e w' ⟨rfl, ⟨nd, rfl⟩⟩))
          go_roundg k1
          case measure => have := HK1.out; omega
          case rel => exact ⟨(wrap64 (x7_1 + 1)), lF, H', ⟨by have := HK1.out; omega⟩, ⟨lB⟩⟩
         ·replace c12 := Bool.eq_false_iff.mpr c12
          subst c12
          rw [if_neg (show ¬ (false = true) by decide)] at H
          obtain rfl := Option.some.inj H
          have p137 : 0 ≤ (x7_1 : Int) := lD
          have q137 : x7_1 < (l0.length : Int) := lD
          obtain ⟨ad137, A137_0, c137_0, e137, hx137_0, hx137_1, hx137_2, hx137_3, hl137_0, hi137_0⟩ := at_T99 HR0.out x7_1 p137 q137
          cases e137
          replace hx137_0 := pw_cell_below HB.out hx137_0
          replace hx137_1 := pw_cell_below HB.out hx137_1
          replace hx137_2 := pw_cell_below HB.out hx137_2
          replace hx137_3 := pw_cell_below HB.out hx137_3
          have HR137_0 := Aside0.mk hi137_0
          have HC137_0 := Aside0.mk hl137_0
          clear hi137_0 hl137_0
          replace p137 := eq_true p137
          replace q137 := eq_true q137
          go_wp2_with (first | ((with_reducible refine gate_dst (N := 4) rfl ?_); (try (refine gate_guard (by rfl) ?_; dsimp only)); refine bxe 4 #[.slice none 0 0, .int .i64 0, .int .i64 0, .int .i64 0] 99 ?_; intro gb138 hg w17 hbox hb; have n0_ := Aside0.mk (below_step lB hb); have n1_ := Aside0.mk (hbox); have n2_ := lG w hg; have n3_ := lG w hg; clear HB; have HB := n0_; have BK138 := n1_; have GW138 := n2_; have GE138 := n3_; clear n0_ n1_ n2_ n3_; clear hb hbox hg; obtain ⟨hcz18_0, hfz18_0, hcz18_1, hfz18_1, hcz18_2, hfz18_2, hcz18_3, hfz18_3⟩ := bk4 BK138.out) | ((with_reducible refine gate_callee (f := 108) rfl ?_); refine gl_ (some 13) (Try.func108) #[.slice A137_0 ((rd_T99 l0 x7_1).f0).length c137_0] ?_; (with_reducible refine (spec_GoodCode.calls k1 _ _ ((rd_T99 l0 x7_1).f0) true _ ?side1 ?side2 A5.out).mono ?_); (case side1 => exact Kd.C_below HR137_0.out lB); (case side2 => exact HC137_0.out); rintro e w19 ⟨rfl, hb⟩; refine ⟨_, rfl, ?_⟩; have n0_ := Aside0.mk (blk_below (g := gb138) (o := .cells #[.slice A137_0 ((rd_T99 l0 x7_1).f0).length c137_0, .int .i64 ((rd_T99 l0 x7_1).f1), .int .i64 ((rd_T99 l0 x7_1).f2), .int .i64 ((rd_T99 l0 x7_1).f3)] 99 (0, 0)) (by (with_reducible repeat first | apply bN | apply bD | apply bA); refine blk_put (cs := #[.slice A137_0 ((rd_T99 l0 x7_1).f0).length c137_0, .int .i64 ((rd_T99 l0 x7_1).f1), .int .i64 ((rd_T99 l0 x7_1).f2), .int .i64 0]) ?_ 3 _ rfl; (with_reducible repeat first | apply bN | apply bD | apply bA); refine blk_put (cs := #[.slice A137_0 ((rd_T99 l0 x7_1).f0).length c137_0, .int .i64 ((rd_T99 l0 x7_1).f1), .int .i64 0, .int .i64 0]) ?_ 2 _ rfl; (with_reducible repeat first | apply bN | apply bD | apply bA); refine blk_put (cs := #[.slice A137_0 ((rd_T99 l0 x7_1).f0).length c137_0, .int .i64 0, .int .i64 0, .int .i64 0]) ?_ 1 _ rfl; (with_reducible repeat first | apply bN | apply bD | apply bA); refine blk_put (cs := #[.slice none 0 0, .int .i64 0, .int .i64 0, .int .i64 0]) ?_ 0 _ rfl; (with_reducible repeat first | apply bN | apply bD | apply bA); exact BK138.out) hb); have n1_ := Aside0.mk (below_step lB hb); clear BK138; clear HB; have BK138 := n0_; have HB := n1_; clear n0_ n1_; (try clear hb); (try clear hb2); (try clear hk); (try clear hi); obtain ⟨hcz20_0, hfz20_0, hcz20_1, hfz20_1, hcz20_2, hfz20_2, hcz20_3, hfz20_3⟩ := bk4 BK138.out) | (go_at_call 109; (with_reducible refine (spec_l3Name.calls ((rd_T99 l0 x7_1).f1) true _ A7.out).mono ?_); rintro e w' ⟨rfl, ⟨nd, rfl⟩⟩) | (go_at_call 84; (with_reducible refine (spec_l1In.calls ((rd_T99 l0 x7_1).f2) (-1) (wrap64 ((l0.length : Int) - 1)) true _ A9.out).mono ?_); rintro e w' ⟨rfl, ⟨nd, rfl⟩⟩) | (go_at_call 84; (with_reducible refine (spec_l1In.calls ((rd_T99 l0 x7_1).f3) (-1) (wrap64 ((l0.length : Int) - 1)) false _ A11.out).mono ?_); rintro e w' ⟨rfl, ⟨nd, rfl⟩⟩))
          go_ret
          exact ⟨lE, lB⟩
        ·replace c10 := Bool.eq_false_iff.mpr c10
         subst c10
         rw [if_neg (show ¬ (false = true) by decide)] at H
         obtain rfl := Option.some.inj H
         have p137 : 0 ≤ (x7_1 : Int) := lD
         have q137 : x7_1 < (l0.length : Int) := lD
         obtain ⟨ad137, A137_0, c137_0, e137, hx137_0, hx137_1, hx137_2, hx137_3, hl137_0, hi137_0⟩ := at_T99 HR0.out x7_1 p137 q137
         cases e137
         replace hx137_0 := pw_cell_below HB.out hx137_0
         replace hx137_1 := pw_cell_below HB.out hx137_1
         replace hx137_2 := pw_cell_below HB.out hx137_2
         replace hx137_3 := pw_cell_below HB.out hx137_3
         have HR137_0 := Aside0.mk hi137_0
         have HC137_0 := Aside0.mk hl137_0
         clear hi137_0 hl137_0
         replace p137 := eq_true p137
         replace q137 := eq_true q137
         go_wp2_with (first | ((with_reducible refine gate_dst (N := 4) rfl ?_); (try (refine gate_guard (by rfl) ?_; dsimp only)); refine bxe 4 #[.slice none 0 0, .int .i64 0, .int .i64 0, .int .i64 0] 99 ?_; intro gb138 hg w21 hbox hb; have n0_ := Aside0.mk (below_step lB hb); have n1_ := Aside0.mk (hbox); have n2_ := lG w hg; have n3_ := lG w hg; clear HB; have HB := n0_; have BK138 := n1_; have GW138 := n2_; have GE138 := n3_; clear n0_ n1_ n2_ n3_; clear hb hbox hg; obtain ⟨hcz22_0, hfz22_0, hcz22_1, hfz22_1, hcz22_2, hfz22_2, hcz22_3, hfz22_3⟩ := bk4 BK138.out) | ((with_reducible refine gate_callee (f := 108) rfl ?_); refine gl_ (some 13) (Try.func108) #[.slice A137_0 ((rd_T99 l0 x7_1).f0).length c137_0] ?_; (with_reducible refine (spec_GoodCode.calls k1 _ _ ((rd_T99 l0 x7_1).f0) true _ ?side1 ?side2 A5.out).mono ?_); (case side1 => exact Kd.C_below HR137_0.out lB); (case side2 => exact HC137_0.out); rintro e w23 ⟨rfl, hb⟩; refine ⟨_, rfl, ?_⟩; have n0_ := Aside0.mk (blk_below (g := gb138) (o := .cells #[.slice A137_0 ((rd_T99 l0 x7_1).f0).length c137_0, .int .i64 ((rd_T99 l0 x7_1).f1), .int .i64 ((rd_T99 l0 x7_1).f2), .int .i64 ((rd_T99 l0 x7_1).f3)] 99 (0, 0)) (by (with_reducible repeat first | apply bN | apply bD | apply bA); refine blk_put (cs := #[.slice A137_0 ((rd_T99 l0 x7_1).f0).length c137_0, .int .i64 ((rd_T99 l0 x7_1).f1), .int .i64 ((rd_T99 l0 x7_1).f2), .int .i64 0]) ?_ 3 _ rfl; (with_reducible repeat first | apply bN | apply bD | apply bA); refine blk_put (cs := #[.slice A137_0 ((rd_T99 l0 x7_1).f0).length c137_0, .int .i64 ((rd_T99 l0 x7_1).f1), .int .i64 0, .int .i64 0]) ?_ 2 _ rfl; (with_reducible repeat first | apply bN | apply bD | apply bA); refine blk_put (cs := #[.slice A137_0 ((rd_T99 l0 x7_1).f0).length c137_0, .int .i64 0, .int .i64 0, .int .i64 0]) ?_ 1 _ rfl; (with_reducible repeat first | apply bN | apply bD | apply bA); refine blk_put (cs := #[.slice none 0 0, .int .i64 0, .int .i64 0, .int .i64 0]) ?_ 0 _ rfl; (with_reducible repeat first | apply bN | apply bD | apply bA); exact BK138.out) hb); have n1_ := Aside0.mk (below_step lB hb); clear BK138; clear HB; have BK138 := n0_; have HB := n1_; clear n0_ n1_; (try clear hb); (try clear hb2); (try clear hk); (try clear hi); obtain ⟨hcz24_0, hfz24_0, hcz24_1, hfz24_1, hcz24_2, hfz24_2, hcz24_3, hfz24_3⟩ := bk4 BK138.out) | (go_at_call 109; (with_reducible refine (spec_l3Name.calls ((rd_T99 l0 x7_1).f1) true _ A7.out).mono ?_); rintro e w' ⟨rfl, ⟨nd, rfl⟩⟩) | (go_at_call 84; (with_reducible refine (spec_l1In.calls ((rd_T99 l0 x7_1).f2) (-1) (wrap64 ((l0.length : Int) - 1)) false _ A9.out).mono ?_); rintro e w' ⟨rfl, ⟨nd, rfl⟩⟩))
         go_ret
         exact ⟨lE, lB⟩
       ·replace c8 := Bool.eq_false_iff.mpr c8
        subst c8
        rw [if_neg (show ¬ (false = true) by decide)] at H
        obtain rfl := Option.some.inj H
        have p137 : 0 ≤ (x7_1 : Int) := lD
        have q137 : x7_1 < (l0.length : Int) := lD
        obtain ⟨ad137, A137_0, c137_0, e137, hx137_0, hx137_1, hx137_2, hx137_3, hl137_0, hi137_0⟩ := at_T99 HR0.out x7_1 p137 q137
        cases e137
        replace hx137_0 := pw_cell_below HB.out hx137_0
        replace hx137_1 := pw_cell_below HB.out hx137_1
        replace hx137_2 := pw_cell_below HB.out hx137_2
        replace hx137_3 := pw_cell_below HB.out hx137_3
        have HR137_0 := Aside0.mk hi137_0
        have HC137_0 := Aside0.mk hl137_0
        clear hi137_0 hl137_0
        replace p137 := eq_true p137
        replace q137 := eq_true q137
        go_wp2_with (first | ((with_reducible refine gate_dst (N := 4) rfl ?_); (try (refine gate_guard (by rfl) ?_; dsimp only)); refine bxe 4 #[.slice none 0 0, .int .i64 0, .int .i64 0, .int .i64 0] 99 ?_; intro gb138 hg w25 hbox hb; have n0_ := Aside0.mk (below_step lB hb); have n1_ := Aside0.mk (hbox); have n2_ := lG w hg; have n3_ := lG w hg; clear HB; have HB := n0_; have BK138 := n1_; have GW138 := n2_; have GE138 := n3_; clear n0_ n1_ n2_ n3_; clear hb hbox hg; obtain ⟨hcz26_0, hfz26_0, hcz26_1, hfz26_1, hcz26_2, hfz26_2, hcz26_3, hfz26_3⟩ := bk4 BK138.out) | ((with_reducible refine gate_callee (f := 108) rfl ?_); refine gl_ (some 13) (Try.func108) #[.slice A137_0 ((rd_T99 l0 x7_1).f0).length c137_0] ?_; (with_reducible refine (spec_GoodCode.calls k1 _ _ ((rd_T99 l0 x7_1).f0) true _ ?side1 ?side2 A5.out).mono ?_); (case side1 => exact Kd.C_below HR137_0.out lB); (case side2 => exact HC137_0.out); rintro e w27 ⟨rfl, hb⟩; refine ⟨_, rfl, ?_⟩; have n0_ := Aside0.mk (blk_below (g := gb138) (o := .cells #[.slice A137_0 ((rd_T99 l0 x7_1).f0).length c137_0, .int .i64 ((rd_T99 l0 x7_1).f1), .int .i64 ((rd_T99 l0 x7_1).f2), .int .i64 ((rd_T99 l0 x7_1).f3)] 99 (0, 0)) (by (with_reducible repeat first | apply bN | apply bD | apply bA); refine blk_put (cs := #[.slice A137_0 ((rd_T99 l0 x7_1).f0).length c137_0, .int .i64 ((rd_T99 l0 x7_1).f1), .int .i64 ((rd_T99 l0 x7_1).f2), .int .i64 0]) ?_ 3 _ rfl; (with_reducible repeat first | apply bN | apply bD | apply bA); refine blk_put (cs := #[.slice A137_0 ((rd_T99 l0 x7_1).f0).length c137_0, .int .i64 ((rd_T99 l0 x7_1).f1), .int .i64 0, .int .i64 0]) ?_ 2 _ rfl; (with_reducible repeat first | apply bN | apply bD | apply bA); refine blk_put (cs := #[.slice A137_0 ((rd_T99 l0 x7_1).f0).length c137_0, .int .i64 0, .int .i64 0, .int .i64 0]) ?_ 1 _ rfl; (with_reducible repeat first | apply bN | apply bD | apply bA); refine blk_put (cs := #[.slice none 0 0, .int .i64 0, .int .i64 0, .int .i64 0]) ?_ 0 _ rfl; (with_reducible repeat first | apply bN | apply bD | apply bA); exact BK138.out) hb); have n1_ := Aside0.mk (below_step lB hb); clear BK138; clear HB; have BK138 := n0_; have HB := n1_; clear n0_ n1_; (try clear hb); (try clear hb2); (try clear hk); (try clear hi); obtain ⟨hcz28_0, hfz28_0, hcz28_1, hfz28_1, hcz28_2, hfz28_2, hcz28_3, hfz28_3⟩ := bk4 BK138.out) | (go_at_call 109; (with_reducible refine (spec_l3Name.calls ((rd_T99 l0 x7_1).f1) false _ A7.out).mono ?_); rintro e w' ⟨rfl, ⟨nd, rfl⟩⟩))
        go_ret
        exact ⟨lE, lB⟩
      ·replace c6 := Bool.eq_false_iff.mpr c6
       subst c6
       rw [if_neg (show ¬ (false = true) by decide)] at H
       obtain rfl := Option.some.inj H
       have p137 : 0 ≤ (x7_1 : Int) := lD
       have q137 : x7_1 < (l0.length : Int) := lD
       obtain ⟨ad137, A137_0, c137_0, e137, hx137_0, hx137_1, hx137_2, hx137_3, hl137_0, hi137_0⟩ := at_T99 HR0.out x7_1 p137 q137
       cases e137
       replace hx137_0 := pw_cell_below HB.out hx137_0
       replace hx137_1 := pw_cell_below HB.out hx137_1
       replace hx137_2 := pw_cell_below HB.out hx137_2
       replace hx137_3 := pw_cell_below HB.out hx137_3
       have HR137_0 := Aside0.mk hi137_0
       have HC137_0 := Aside0.mk hl137_0
       clear hi137_0 hl137_0
       replace p137 := eq_true p137
       replace q137 := eq_true q137
       go_wp2_with (first | ((with_reducible refine gate_dst (N := 4) rfl ?_); (try (refine gate_guard (by rfl) ?_; dsimp only)); refine bxe 4 #[.slice none 0 0, .int .i64 0, .int .i64 0, .int .i64 0] 99 ?_; intro gb138 hg w29 hbox hb; have n0_ := Aside0.mk (below_step lB hb); have n1_ := Aside0.mk (hbox); have n2_ := lG w hg; have n3_ := lG w hg; clear HB; have HB := n0_; have BK138 := n1_; have GW138 := n2_; have GE138 := n3_; clear n0_ n1_ n2_ n3_; clear hb hbox hg; obtain ⟨hcz30_0, hfz30_0, hcz30_1, hfz30_1, hcz30_2, hfz30_2, hcz30_3, hfz30_3⟩ := bk4 BK138.out) | ((with_reducible refine gate_callee (f := 108) rfl ?_); refine gl_ (some 13) (Try.func108) #[.slice A137_0 ((rd_T99 l0 x7_1).f0).length c137_0] ?_; (with_reducible refine (spec_GoodCode.calls k1 _ _ ((rd_T99 l0 x7_1).f0) false _ ?side1 ?side2 A5.out).mono ?_); (case side1 => exact Kd.C_below HR137_0.out lB); (case side2 => exact HC137_0.out); rintro e w31 ⟨rfl, hb⟩; refine ⟨_, rfl, ?_⟩; have n0_ := Aside0.mk (blk_below (g := gb138) (o := .cells #[.slice A137_0 ((rd_T99 l0 x7_1).f0).length c137_0, .int .i64 ((rd_T99 l0 x7_1).f1), .int .i64 ((rd_T99 l0 x7_1).f2), .int .i64 ((rd_T99 l0 x7_1).f3)] 99 (0, 0)) (by (with_reducible repeat first | apply bN | apply bD | apply bA); refine blk_put (cs := #[.slice A137_0 ((rd_T99 l0 x7_1).f0).length c137_0, .int .i64 ((rd_T99 l0 x7_1).f1), .int .i64 ((rd_T99 l0 x7_1).f2), .int .i64 0]) ?_ 3 _ rfl; (with_reducible repeat first | apply bN | apply bD | apply bA); refine blk_put (cs := #[.slice A137_0 ((rd_T99 l0 x7_1).f0).length c137_0, .int .i64 ((rd_T99 l0 x7_1).f1), .int .i64 0, .int .i64 0]) ?_ 2 _ rfl; (with_reducible repeat first | apply bN | apply bD | apply bA); refine blk_put (cs := #[.slice A137_0 ((rd_T99 l0 x7_1).f0).length c137_0, .int .i64 0, .int .i64 0, .int .i64 0]) ?_ 1 _ rfl; (with_reducible repeat first | apply bN | apply bD | apply bA); refine blk_put (cs := #[.slice none 0 0, .int .i64 0, .int .i64 0, .int .i64 0]) ?_ 0 _ rfl; (with_reducible repeat first | apply bN | apply bD | apply bA); exact BK138.out) hb); have n1_ := Aside0.mk (below_step lB hb); clear BK138; clear HB; have BK138 := n0_; have HB := n1_; clear n0_ n1_; (try clear hb); (try clear hb2); (try clear hk); (try clear hi)))
       go_ret
       exact ⟨lE, lB⟩
     ·rw [if_neg c4] at H
      exact absurd H (by simp)
    ·rw [if_neg c3] at H
     exact absurd H (by simp)
   ·rw [if_neg c2] at H
    have c2b0 : decide (x7_1 < (l0.length : Int)) = false := decide_eq_false c2
    clear c2
    replace H := lO H
    obtain ⟨t136, A32, H⟩ := H
    obtain rfl := Option.some.inj H
    go_wp2_with (first | ((with_reducible refine gate_callee (f := 84) rfl ?_); refine gl_ (some 42) (Try.func84) #[.int .i64 (l0.length : Int), .int .i64 1, .int .i64 8] ?_; (with_reducible refine (spec_l1In.calls (l0.length : Int) 1 8 t136 _ A32.out).mono ?_); rintro e w' ⟨rfl, ⟨nd, rfl⟩⟩; refine ⟨_, rfl, ?_⟩))
    go_ret
    exact ⟨lE, lB⟩

end Go.Proofs.Ytpnhlccdhflogaa.Q
