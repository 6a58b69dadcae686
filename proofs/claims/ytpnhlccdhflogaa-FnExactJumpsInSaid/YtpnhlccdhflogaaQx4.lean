-- Written by the program wip/tools/pr.py of this claim's session, over the kit's print.py.
import Derived.Test.YtpnhlccdhflogaaQx0
import Derived.Test.YtpnhlccdhflogaaQx1
import Derived.Test.YtpnhlccdhflogaaQx3
namespace Go.Proofs.Ytpnhlccdhflogaa.Q
open Go.RowKit Go.Proofs.YtpnhlccdhflogaaW.PrintWords Go.Proofs.YtpnhlccdhflogaaW.PrintLast Go.Proofs.YtpnhlccdhflogaaW.PrintMore
attribute [local go_sem] max2_int min2_int max_two min_two max_three min_three max_four min_four   -- for this text's walks alone
set_option linter.unusedVariables false
set_option linter.unusedSimpArgs false

/-! ### slices_Index_int_int: function 79 -/
def slices_Index_int_int.l0 : Nat → List Int → Int → Int → Int → Option (Int)
 | 0, _, _, _, _ => none
 | k + 1, x0, x1, x7, x8 => if x8 < x7 then (if 0 ≤ x8 then (if x8 < (x0.length : Int) then (if x1 = (rd x0 x8) then (some x8) else (slices_Index_int_int.l0 k x0 x1 x7 (wrap64 (x8 + 1)))) else (none)) else (none)) else (some (-1))
def slices_Index_int_int.f (k : Nat) (l0 : List Int) (a1 : Int) : Option (Int) := slices_Index_int_int.l0 k l0 a1 (l0.length : Int) 0
theorem slices_Index_int_int.mono_l : ∀ k, (∀ y0 y1 y2 y3, LeO (slices_Index_int_int.l0 k y0 y1 y2 y3) (slices_Index_int_int.l0 (k + 1) y0 y1 y2 y3))
 | 0 => fun _ _ _ _ r h => by simp [slices_Index_int_int.l0] at h
 | k + 1 => by
  have ih0 := slices_Index_int_int.mono_l k
  ·intro y0 y1 y2 y3
   unfold slices_Index_int_int.l0
   repeat' first
   | with_reducible apply ih0
   | (with_reducible exact LeO.refl _)
   | (with_reducible exact LeO.none _)
   | (with_reducible refine LeO.ite ?_ ?_)
   | (with_reducible refine LeO.bind ?_ (fun _ => ?_))
   | apply ih0
   | exact LeO.none _
   | refine LeO.ite ?_ ?_
   | refine LeO.bind ?_ (fun _ => ?_)
theorem slices_Index_int_int.mono : ∀ a0 a1 k, LeO (slices_Index_int_int.f k a0 a1) (slices_Index_int_int.f (k + 1) a0 a1) := by
 intro a0 a1 k
 have ih0 := slices_Index_int_int.mono_l k
 unfold slices_Index_int_int.f
 repeat' first
   | with_reducible apply ih0
   | (with_reducible exact LeO.refl _)
   | (with_reducible exact LeO.none _)
   | (with_reducible refine LeO.ite ?_ ?_)
   | (with_reducible refine LeO.bind ?_ (fun _ => ?_))
   | apply ih0
   | exact LeO.none _
   | refine LeO.ite ?_ ?_
   | refine LeO.bind ?_ (fun _ => ?_)
set_option maxHeartbeats 8000000 in
set_option maxRecDepth 100000 in
theorem slices_Index_int_int.calls (k : Nat) (A0 : Option Addr) (c0 : Nat) (l0 : List Int) (a1 : Int) (r : Int) (w : World) (hr0 : Kd.C (Kd.int .i64) w A0 l0.length l0) (hc0 : l0.length ≤ c0) (h : slices_Index_int_int.f k l0 a1 = some r) :
  Calls Try.prog 79 #[.slice A0 l0.length c0, .int .i64 a1] w fun e w' => e = .returned (.int .i64 r) ∧ Drawn0 w w' := by
 have HR0 := Aside0.mk hr0
 have HC0 := Aside0.mk hc0
 clear hr0 hc0
 have H : (slices_Index_int_int.l0 k l0 a1 (l0.length : Int) 0) = some r := h
 clear h
 have H' := Aside0.mk H
 clear H
 go_enter Try.func79, Try.ntmps79
 go_wp2
 go_loopg [8] k (fun kq v8 w' => ∃ (x8_1 : Int), v8 = .int .i64 x8_1 ∧ Aside0 (slices_Index_int_int.l0 kq l0 a1 (l0.length : Int) x8_1 = some r) ∧ Aside0 (kq ≤ k) ∧ Drawn0 w w')
 case atStart => exact ⟨(0), lF, H', ⟨Nat.le_refl _⟩, by repeat (first | exact Drawn0.refl _ | apply Drawn0.step)⟩
 case round =>
  clear H'
  try clear p2
  obtain ⟨x8_1, rfl, HA, HK1, ⟨m1, rfl⟩⟩ := hrel
  cases gk with
  | zero => exact absurd HA.out (by simp [slices_Index_int_int.l0])
  | succ k1 =>
   have H := HA.out
   clear HA
   simp only [slices_Index_int_int.l0] at H
   by_cases c3 : x8_1 < (l0.length : Int)
   ·rw [if_pos c3] at H
    have c3b0 : decide (x8_1 < (l0.length : Int)) = true := decide_eq_true c3
    clear c3
    by_cases c4 : 0 ≤ x8_1
    ·rw [if_pos c4] at H
     have c4b0 : decide (0 ≤ x8_1) = true := decide_eq_true c4
     clear c4
     by_cases c5 : x8_1 < (l0.length : Int)
     ·rw [if_pos c5] at H
      have c5b0 : decide (x8_1 < (l0.length : Int)) = true := decide_eq_true c5
      clear c5
      by_cases c6 : a1 = (rd l0 x8_1)
      ·rw [if_pos c6] at H
       have c6b0 : (a1 == (rd l0 x8_1)) = true := beq_iff_eq.mpr c6
       have c6b1 : (a1 != (rd l0 x8_1)) = false := bne_eq_false_iff_eq.mpr c6
       clear c6
       obtain rfl := Option.some.inj H
       have p149 : 0 ≤ (x8_1 : Int) := lD
       have q149 : x8_1 < (l0.length : Int) := lD
       obtain ⟨ad149, e149, hx149_0⟩ := Kd.at_int HR0.out x8_1 p149 q149
       cases e149
       replace p149 := eq_true p149
       replace q149 := eq_true q149
       first | (go_wp2; go_ret; exact ⟨by first | rfl | (simp; done) | (simp [*]; done), by repeat (first | exact Drawn0.refl _ | apply Drawn0.step)⟩) | (exfalso; simp only [decide_eq_false_iff_not, decide_eq_true_eq] at *; omega)
      ·rw [if_neg c6] at H
       have c6b0 : (a1 == (rd l0 x8_1)) = false := beq_eq_false_iff_ne.mpr c6
       have c6b1 : (a1 != (rd l0 x8_1)) = true := bne_iff_ne.mpr c6
       have H' := Aside0.mk H
       clear H
       have p149 : 0 ≤ (x8_1 : Int) := lD
       have q149 : x8_1 < (l0.length : Int) := lD
       obtain ⟨ad149, e149, hx149_0⟩ := Kd.at_int HR0.out x8_1 p149 q149
       cases e149
       replace p149 := eq_true p149
       replace q149 := eq_true q149
       go_wp2
       go_roundg k1
       case measure => have := HK1.out; omega
       case rel => exact ⟨(wrap64 (x8_1 + 1)), lF, H', ⟨by have := HK1.out; omega⟩, by repeat (first | exact Drawn0.refl _ | apply Drawn0.step)⟩
     ·rw [if_neg c5] at H
      exact absurd H (by simp)
    ·rw [if_neg c4] at H
     exact absurd H (by simp)
   ·rw [if_neg c3] at H
    have c3b0 : decide (x8_1 < (l0.length : Int)) = false := decide_eq_false c3
    clear c3
    obtain rfl := Option.some.inj H
    first | (go_wp2; go_ret; exact ⟨by first | rfl | (simp; done) | (simp [*]; done), by repeat (first | exact Drawn0.refl _ | apply Drawn0.step)⟩) | (exfalso; simp only [decide_eq_false_iff_not, decide_eq_true_eq] at *; omega)

/-! ### slices_Contains_int_int: function 63 -/
def slices_Contains_int_int.f (k : Nat) (l0 : List Int) (a1 : Int) : Option (Bool) := (slices_Index_int_int.f k l0 a1).bind fun t150 => (some (decide (t150 ≥ 0)))
theorem slices_Contains_int_int.mono : ∀ a0 a1 k, LeO (slices_Contains_int_int.f k a0 a1) (slices_Contains_int_int.f (k + 1) a0 a1) := by
 intro a0 a1 k
 unfold slices_Contains_int_int.f
 repeat' first
   | with_reducible apply slices_Index_int_int.mono
   | (with_reducible exact LeO.refl _)
   | (with_reducible exact LeO.none _)
   | (with_reducible refine LeO.ite ?_ ?_)
   | (with_reducible refine LeO.bind ?_ (fun _ => ?_))
   | apply slices_Index_int_int.mono
   | exact LeO.none _
   | refine LeO.ite ?_ ?_
   | refine LeO.bind ?_ (fun _ => ?_)
set_option maxHeartbeats 8000000 in
set_option maxRecDepth 100000 in
theorem slices_Contains_int_int.calls (k : Nat) (A0 : Option Addr) (c0 : Nat) (l0 : List Int) (a1 : Int) (r : Bool) (w : World) (hr0 : Kd.C (Kd.int .i64) w A0 l0.length l0) (hc0 : l0.length ≤ c0) (h : slices_Contains_int_int.f k l0 a1 = some r) :
  Calls Try.prog 63 #[.slice A0 l0.length c0, .int .i64 a1] w fun e w' => e = .returned (.bool r) ∧ Drawn0 w w' := by
 have HR0 := Aside0.mk hr0
 have HC0 := Aside0.mk hc0
 clear hr0 hc0
 have H : ((slices_Index_int_int.f k l0 a1).bind fun t150 => (some (decide (t150 ≥ 0)))) = some r := h
 clear h
 replace H := lO H
 obtain ⟨t150, A3, H⟩ := H
 obtain rfl := Option.some.inj H
 go_enter Try.func63, Try.ntmps63
 go_wp2_with (first | ((with_reducible refine gate_callee (f := 79) rfl ?_); refine gl_ (some 7) (Try.func79) #[.slice A0 l0.length c0, .int .i64 a1] ?_; (with_reducible refine (slices_Index_int_int.calls k _ _ l0 a1 t150 _ ?side1 ?side2 A3.out).mono ?_); (case side1 => repeat (first | exact HR0.out | (with_reducible refine Kd.C_alloc ?_ _) | (with_reducible refine Kd.C_drewN ?_ _) | (with_reducible refine Kd.C_drew ?_))); (case side2 => exact HC0.out); rintro e w' ⟨rfl, ⟨nd, rfl⟩⟩; refine ⟨_, rfl, ?_⟩))
 go_ret
 exact ⟨by first | rfl | (simp; done) | (simp [*]; done), by repeat (first | exact Drawn0.refl _ | apply Drawn0.step)⟩

/-! ### impl_isOrder: function 104 -/
def impl_isOrder.l0 : Nat → List Int → Int → Int → Option (Bool)
 | 0, _, _, _ => none
 | k + 1, x0, x10, x11 => if x11 < x10 then ((slices_Contains_int_int.f k x0 x11).bind fun t151 => (if t151 = true then (impl_isOrder.l0 k x0 x10 (wrap64 (x11 + 1))) else (some false))) else (some true)
def impl_isOrder.f (k : Nat) (l0 : List Int) (a1 : Int) : Option (Bool) := if (l0.length : Int) = a1 then (impl_isOrder.l0 k l0 a1 0) else (some false)
theorem impl_isOrder.mono_l : ∀ k, (∀ y0 y1 y2, LeO (impl_isOrder.l0 k y0 y1 y2) (impl_isOrder.l0 (k + 1) y0 y1 y2))
 | 0 => fun _ _ _ r h => by simp [impl_isOrder.l0] at h
 | k + 1 => by
  have ih0 := impl_isOrder.mono_l k
  ·intro y0 y1 y2
   unfold impl_isOrder.l0
   repeat' first
   | with_reducible apply ih0
   | with_reducible apply slices_Contains_int_int.mono
   | (with_reducible exact LeO.refl _)
   | (with_reducible exact LeO.none _)
   | (with_reducible refine LeO.ite ?_ ?_)
   | (with_reducible refine LeO.bind ?_ (fun _ => ?_))
   | apply ih0
   | apply slices_Contains_int_int.mono
   | exact LeO.none _
   | refine LeO.ite ?_ ?_
   | refine LeO.bind ?_ (fun _ => ?_)
theorem impl_isOrder.mono : ∀ a0 a1 k, LeO (impl_isOrder.f k a0 a1) (impl_isOrder.f (k + 1) a0 a1) := by
 intro a0 a1 k
 have ih0 := impl_isOrder.mono_l k
 unfold impl_isOrder.f
 repeat' first
   | with_reducible apply ih0
   | with_reducible apply slices_Contains_int_int.mono
   | (with_reducible exact LeO.refl _)
   | (with_reducible exact LeO.none _)
   | (with_reducible refine LeO.ite ?_ ?_)
   | (with_reducible refine LeO.bind ?_ (fun _ => ?_))
   | apply ih0
   | apply slices_Contains_int_int.mono
   | exact LeO.none _
   | refine LeO.ite ?_ ?_
   | refine LeO.bind ?_ (fun _ => ?_)
set_option maxHeartbeats 8000000 in
set_option maxRecDepth 100000 in
theorem impl_isOrder.calls (k : Nat) (A0 : Option Addr) (c0 : Nat) (l0 : List Int) (a1 : Int) (r : Bool) (w : World) (hr0 : Kd.C (Kd.int .i64) w A0 l0.length l0) (hc0 : l0.length ≤ c0) (h : impl_isOrder.f k l0 a1 = some r) :
  Calls Try.prog 104 #[.slice A0 l0.length c0, .int .i64 a1] w fun e w' => e = .returned (.bool r) ∧ Drawn0 w w' := by
 have HR0 := Aside0.mk hr0
 have HC0 := Aside0.mk hc0
 clear hr0 hc0
 have H : (if (l0.length : Int) = a1 then (impl_isOrder.l0 k l0 a1 0) else (some false)) = some r := h
 clear h
 by_cases c3 : (l0.length : Int) = a1
 ·rw [if_pos c3] at H
  have c3b0 : ((l0.length : Int) == a1) = true := beq_iff_eq.mpr c3
  have c3b1 : ((l0.length : Int) != a1) = false := bne_eq_false_iff_eq.mpr c3
  clear c3
  have H' := Aside0.mk H
  clear H
  go_enter Try.func104, Try.ntmps104
  go_wp2
  go_loopg [11] k (fun kq v11 w' => ∃ (x11_1 : Int), v11 = .int .i64 x11_1 ∧ Aside0 (impl_isOrder.l0 kq l0 a1 x11_1 = some r) ∧ Aside0 (kq ≤ k) ∧ Drawn0 w w')
  case atStart => exact ⟨(0), lF, H', ⟨Nat.le_refl _⟩, by repeat (first | exact Drawn0.refl _ | apply Drawn0.step)⟩
  case round =>
   clear H'
   try clear c1
   try clear p2
   try clear c3
   try clear c3b0
   try clear c3b1
   obtain ⟨x11_1, rfl, HA, HK1, ⟨m1, rfl⟩⟩ := hrel
   cases gk with
   | zero => exact absurd HA.out (by simp [impl_isOrder.l0])
   | succ k1 =>
    have H := HA.out
    clear HA
    simp only [impl_isOrder.l0] at H
    by_cases c4 : x11_1 < a1
    ·rw [if_pos c4] at H
     have c4b0 : decide (x11_1 < a1) = true := decide_eq_true c4
     clear c4
     replace H := lO H
     obtain ⟨t151, A5, H⟩ := H
     by_cases c6 : t151 = true
     ·subst c6
      rw [if_pos rfl] at H
      have H' := Aside0.mk H
      clear H
      go_wp2_with (first | ((with_reducible refine gate_callee (f := 63) rfl ?_); refine gl_ (some 16) (Try.func63) #[.slice A0 l0.length c0, .int .i64 x11_1] ?_; (with_reducible refine (slices_Contains_int_int.calls k1 _ _ l0 x11_1 true _ ?side1 ?side2 A5.out).mono ?_); (case side1 => repeat (first | exact HR0.out | (with_reducible refine Kd.C_alloc ?_ _) | (with_reducible refine Kd.C_drewN ?_ _) | (with_reducible refine Kd.C_drew ?_))); (case side2 => exact HC0.out); rintro e w' ⟨rfl, ⟨nd, rfl⟩⟩; refine ⟨_, rfl, ?_⟩))
      go_roundg k1
      case measure => have := HK1.out; omega
      case rel => exact ⟨(wrap64 (x11_1 + 1)), lF, H', ⟨by have := HK1.out; omega⟩, by repeat (first | exact Drawn0.refl _ | apply Drawn0.step)⟩
     ·replace c6 := Bool.eq_false_iff.mpr c6
      subst c6
      rw [if_neg (show ¬ (false = true) by decide)] at H
      obtain rfl := Option.some.inj H
      go_wp2_with (first | ((with_reducible refine gate_callee (f := 63) rfl ?_); refine gl_ (some 16) (Try.func63) #[.slice A0 l0.length c0, .int .i64 x11_1] ?_; (with_reducible refine (slices_Contains_int_int.calls k1 _ _ l0 x11_1 false _ ?side1 ?side2 A5.out).mono ?_); (case side1 => repeat (first | exact HR0.out | (with_reducible refine Kd.C_alloc ?_ _) | (with_reducible refine Kd.C_drewN ?_ _) | (with_reducible refine Kd.C_drew ?_))); (case side2 => exact HC0.out); rintro e w' ⟨rfl, ⟨nd, rfl⟩⟩; refine ⟨_, rfl, ?_⟩))
      go_ret
      exact ⟨by first | rfl | (simp; done) | (simp [*]; done), by repeat (first | exact Drawn0.refl _ | apply Drawn0.step)⟩
    ·rw [if_neg c4] at H
     have c4b0 : decide (x11_1 < a1) = false := decide_eq_false c4
     clear c4
     obtain rfl := Option.some.inj H
     first | (go_wp2; go_ret; exact ⟨by first | rfl | (simp; done) | (simp [*]; done), by repeat (first | exact Drawn0.refl _ | apply Drawn0.step)⟩) | (exfalso; simp only [decide_eq_false_iff_not, decide_eq_true_eq] at *; omega)
 ·rw [if_neg c3] at H
  have c3b0 : ((l0.length : Int) == a1) = false := beq_eq_false_iff_ne.mpr c3
  have c3b1 : ((l0.length : Int) != a1) = true := bne_iff_ne.mpr c3
  obtain rfl := Option.some.inj H
  go_enter Try.func104, Try.ntmps104
  first | (go_wp2; go_ret; exact ⟨by first | rfl | (simp; done) | (simp [*]; done), by repeat (first | exact Drawn0.refl _ | apply Drawn0.step)⟩) | (exfalso; simp only [decide_eq_false_iff_not, decide_eq_true_eq] at *; omega)

/-! ### impl_isLayout: function 66 -/
def impl_isLayout.f (k : Nat) (a0 : Int) (l1 : List Int) : Option (Bool) := (impl_in.f a0 1 8).bind fun t152 => (if t152 = true then ((impl_isOrder.f k l1 a0).bind fun t153 => (if t153 = true then (if 0 < (l1.length : Int) then (some ((rd l1 0) == 0)) else (none)) else (some false))) else (some false))
theorem impl_isLayout.mono : ∀ a0 a1 k, LeO (impl_isLayout.f k a0 a1) (impl_isLayout.f (k + 1) a0 a1) := by
 intro a0 a1 k
 unfold impl_isLayout.f
 repeat' first
   | with_reducible apply impl_isOrder.mono
   | (with_reducible exact LeO.refl _)
   | (with_reducible exact LeO.none _)
   | (with_reducible refine LeO.ite ?_ ?_)
   | (with_reducible refine LeO.bind ?_ (fun _ => ?_))
   | apply impl_isOrder.mono
   | exact LeO.none _
   | refine LeO.ite ?_ ?_
   | refine LeO.bind ?_ (fun _ => ?_)
set_option maxHeartbeats 8000000 in
set_option maxRecDepth 100000 in
theorem impl_isLayout.calls (k : Nat) (a0 : Int) (A1 : Option Addr) (c1 : Nat) (l1 : List Int) (r : Bool) (w : World) (hr1 : Kd.C (Kd.int .i64) w A1 l1.length l1) (hc1 : l1.length ≤ c1) (h : impl_isLayout.f k a0 l1 = some r) :
  Calls Try.prog 66 #[.int .i64 a0, .slice A1 l1.length c1] w fun e w' => e = .returned (.bool r) ∧ Drawn0 w w' := by
 have HR1 := Aside0.mk hr1
 have HC1 := Aside0.mk hc1
 clear hr1 hc1
 have H : ((impl_in.f a0 1 8).bind fun t152 => (if t152 = true then ((impl_isOrder.f k l1 a0).bind fun t153 => (if t153 = true then (if 0 < (l1.length : Int) then (some ((rd l1 0) == 0)) else (none)) else (some false))) else (some false))) = some r := h
 clear h
 replace H := lO H
 obtain ⟨t152, A3, H⟩ := H
 by_cases c4 : t152 = true
 ·subst c4
  rw [if_pos rfl] at H
  replace H := lO H
  obtain ⟨t153, A5, H⟩ := H
  by_cases c6 : t153 = true
  ·subst c6
   rw [if_pos rfl] at H
   by_cases c7 : 0 < (l1.length : Int)
   ·rw [if_pos c7] at H
    have c7b0 : decide (0 < (l1.length : Int)) = true := decide_eq_true c7
    have c7b1 : decide (0 < l1.length) = true := decide_eq_true (by omega)
    clear c7
    obtain rfl := Option.some.inj H
    go_enter Try.func66, Try.ntmps66
    go_wp2_with (first | ((with_reducible refine gate_callee (f := 87) rfl ?_); refine gl_ (some 6) (Try.func87) #[.int .i64 a0, .int .i64 1, .int .i64 8] ?_; (with_reducible refine (impl_in.calls a0 1 8 true _ A3.out).mono ?_); rintro e w' ⟨rfl, ⟨nd, rfl⟩⟩; refine ⟨_, rfl, ?_⟩) | (go_at_call 104; (with_reducible refine (impl_isOrder.calls k _ _ l1 a0 true _ ?side1 ?side2 A5.out).mono ?_); (case side1 => repeat (first | exact HR1.out | (with_reducible refine Kd.C_alloc ?_ _) | (with_reducible refine Kd.C_drewN ?_ _) | (with_reducible refine Kd.C_drew ?_))); (case side2 => exact HC1.out); rintro e w' ⟨rfl, ⟨nd, rfl⟩⟩; have p154 : 0 ≤ (0 : Int) := (by omega); have q154 : 0 < (l1.length : Int) := lD; obtain ⟨ad154, e154, hx154_0⟩ := Kd.at_int HR1.out 0 p154 q154; cases e154; have qi154 : (0 < l1.length) = True := eq_true (by omega); (try rw [show ((0 : Int)).toNat = 0 from rfl] at hx154_0); (try rw [Addr.add_zero'] at hx154_0); replace p154 := eq_true p154; replace q154 := eq_true q154))
    go_ret
    exact ⟨by first | rfl | (simp; done) | (simp [*]; done), by repeat (first | exact Drawn0.refl _ | apply Drawn0.step)⟩
   ·rw [if_neg c7] at H
    exact absurd H (by simp)
  ·replace c6 := Bool.eq_false_iff.mpr c6
   subst c6
   rw [if_neg (show ¬ (false = true) by decide)] at H
   obtain rfl := Option.some.inj H
   go_enter Try.func66, Try.ntmps66
   go_wp2_with (first | ((with_reducible refine gate_callee (f := 87) rfl ?_); refine gl_ (some 6) (Try.func87) #[.int .i64 a0, .int .i64 1, .int .i64 8] ?_; (with_reducible refine (impl_in.calls a0 1 8 true _ A3.out).mono ?_); rintro e w' ⟨rfl, ⟨nd, rfl⟩⟩; refine ⟨_, rfl, ?_⟩) | (go_at_call 104; (with_reducible refine (impl_isOrder.calls k _ _ l1 a0 false _ ?side1 ?side2 A5.out).mono ?_); (case side1 => repeat (first | exact HR1.out | (with_reducible refine Kd.C_alloc ?_ _) | (with_reducible refine Kd.C_drewN ?_ _) | (with_reducible refine Kd.C_drew ?_))); (case side2 => exact HC1.out); rintro e w' ⟨rfl, ⟨nd, rfl⟩⟩))
   go_ret
   exact ⟨by first | rfl | (simp; done) | (simp [*]; done), by repeat (first | exact Drawn0.refl _ | apply Drawn0.step)⟩
 ·replace c4 := Bool.eq_false_iff.mpr c4
  subst c4
  rw [if_neg (show ¬ (false = true) by decide)] at H
  obtain rfl := Option.some.inj H
  go_enter Try.func66, Try.ntmps66
  go_wp2_with (first | ((with_reducible refine gate_callee (f := 87) rfl ?_); refine gl_ (some 6) (Try.func87) #[.int .i64 a0, .int .i64 1, .int .i64 8] ?_; (with_reducible refine (impl_in.calls a0 1 8 false _ A3.out).mono ?_); rintro e w' ⟨rfl, ⟨nd, rfl⟩⟩; refine ⟨_, rfl, ?_⟩))
  go_ret
  exact ⟨by first | rfl | (simp; done) | (simp [*]; done), by repeat (first | exact Drawn0.refl _ | apply Drawn0.step)⟩

/-! ### impl_straight: function 67 -/
def impl_straight.l0 : Nat → List Int → Int → List (S48) → Int → Int → Option (Int)
 | 0, _, _, _, _, _ => none
 | k + 1, x1, x5, x9, x10, x11 => if x11 < x10 then (if 0 ≤ x11 then (if x11 < (x9.length : Int) then ((slices_Index_int_int.f k x1 ((rd_T48 x9 x11).f0)).bind fun t157 => (if (wrap64 (t157 + 1)) < (x1.length : Int) then (if 0 ≤ (wrap64 (t157 + 1)) then (if (rd x1 (wrap64 (t157 + 1))) = ((rd_T48 x9 x11).f1) then (impl_straight.l0 k x1 (wrap64 (x5 + ((rd_T48 x9 x11).f2))) x9 x10 (wrap64 (x11 + 1))) else (impl_straight.l0 k x1 x5 x9 x10 (wrap64 (x11 + 1)))) else (none)) else (impl_straight.l0 k x1 x5 x9 x10 (wrap64 (x11 + 1))))) else (none)) else (none)) else (some x5)
def impl_straight.f (k : Nat) (l0 : List (S48)) (l1 : List Int) : Option (Int) := impl_straight.l0 k l1 0 l0 (l0.length : Int) 0
theorem impl_straight.mono_l : ∀ k, (∀ y0 y1 y2 y3 y4, LeO (impl_straight.l0 k y0 y1 y2 y3 y4) (impl_straight.l0 (k + 1) y0 y1 y2 y3 y4))
 | 0 => fun _ _ _ _ _ r h => by simp [impl_straight.l0] at h
 | k + 1 => by
  have ih0 := impl_straight.mono_l k
  ·intro y0 y1 y2 y3 y4
   unfold impl_straight.l0
   repeat' first
   | with_reducible apply ih0
   | with_reducible apply slices_Index_int_int.mono
   | (with_reducible exact LeO.refl _)
   | (with_reducible exact LeO.none _)
   | (with_reducible refine LeO.ite ?_ ?_)
   | (with_reducible refine LeO.bind ?_ (fun _ => ?_))
   | apply ih0
   | apply slices_Index_int_int.mono
   | exact LeO.none _
   | refine LeO.ite ?_ ?_
   | refine LeO.bind ?_ (fun _ => ?_)
theorem impl_straight.mono : ∀ a0 a1 k, LeO (impl_straight.f k a0 a1) (impl_straight.f (k + 1) a0 a1) := by
 intro a0 a1 k
 have ih0 := impl_straight.mono_l k
 unfold impl_straight.f
 repeat' first
   | with_reducible apply ih0
   | with_reducible apply slices_Index_int_int.mono
   | (with_reducible exact LeO.refl _)
   | (with_reducible exact LeO.none _)
   | (with_reducible refine LeO.ite ?_ ?_)
   | (with_reducible refine LeO.bind ?_ (fun _ => ?_))
   | apply ih0
   | apply slices_Index_int_int.mono
   | exact LeO.none _
   | refine LeO.ite ?_ ?_
   | refine LeO.bind ?_ (fun _ => ?_)
set_option maxHeartbeats 8000000 in
set_option maxRecDepth 100000 in
theorem impl_straight.calls (k : Nat) (A0 : Option Addr) (c0 : Nat) (l0 : List (S48)) (A1 : Option Addr) (c1 : Nat) (l1 : List Int) (r : Int) (w : World) (hr0 : Kd.C k48 w A0 l0.length l0) (hc0 : l0.length ≤ c0) (hr1 : Kd.C (Kd.int .i64) w A1 l1.length l1) (hc1 : l1.length ≤ c1) (h : impl_straight.f k l0 l1 = some r) :
  Calls Try.prog 67 #[.slice A0 l0.length c0, .slice A1 l1.length c1] w fun e w' => e = .returned (.int .i64 r) ∧ Below w.heap.size w w' := by
 have hu48 := Try.underlying48
 have HR0 := Aside0.mk hr0
 have HC0 := Aside0.mk hc0
 clear hr0 hc0
 have HR1 := Aside0.mk hr1
 have HC1 := Aside0.mk hc1
 clear hr1 hc1
 have HB := Aside0.mk (Below.refl w.heap.size w)
 have H : (impl_straight.l0 k l1 0 l0 (l0.length : Int) 0) = some r := h
 clear h
 have H' := Aside0.mk H
 clear H
 go_enter Try.func67, Try.ntmps67
 go_wp2
 repeat (go_quiet (fail); try go_wp2)
 go_loopg [5, 11] k (fun kq v5 v11 w' => ∃ (x5_1 : Int) (x11_1 : Int), v5 = .int .i64 x5_1 ∧ v11 = .int .i64 x11_1 ∧ Aside0 (impl_straight.l0 kq l1 x5_1 l0 (l0.length : Int) x11_1 = some r) ∧ Aside0 (kq ≤ k) ∧ Aside0 (Below w.heap.size w w'))
 case atStart => exact ⟨(0), (0), lF, lF, H', ⟨Nat.le_refl _⟩, ⟨lB⟩⟩
 case round =>
  clear H'
  try clear c1
  try clear p2
  obtain ⟨x5_1, x11_1, rfl, rfl, HA, HK1, HB⟩ := hrel
  cases gk with
  | zero => exact absurd HA.out (by simp [impl_straight.l0])
  | succ k1 =>
   have H := HA.out
   clear HA
   simp only [impl_straight.l0] at H
   by_cases c3 : x11_1 < (l0.length : Int)
   ·rw [if_pos c3] at H
    have c3b0 : decide (x11_1 < (l0.length : Int)) = true := decide_eq_true c3
    clear c3
    by_cases c4 : 0 ≤ x11_1
    ·rw [if_pos c4] at H
     have c4b0 : decide (0 ≤ x11_1) = true := decide_eq_true c4
     clear c4
     by_cases c5 : x11_1 < (l0.length : Int)
     ·rw [if_pos c5] at H
      have c5b0 : decide (x11_1 < (l0.length : Int)) = true := decide_eq_true c5
      clear c5
      replace H := lO H
      obtain ⟨t157, A6, H⟩ := H
      by_cases c7 : (wrap64 (t157 + 1)) < (l1.length : Int)
      ·rw [if_pos c7] at H
       have c7b0 : decide ((wrap64 (t157 + 1)) < (l1.length : Int)) = true := decide_eq_true c7
       clear c7
       obtain ⟨ji8, hji8⟩ : ∃ j_ : Int, (wrap64 (t157 + 1)) = j_ := ⟨_, rfl⟩
       replace H : (if 0 ≤ (ji8) then (if (rd l1 (ji8)) = ((rd_T48 l0 x11_1).f1) then (impl_straight.l0 k1 l1 (wrap64 (x5_1 + ((rd_T48 l0 x11_1).f2))) l0 (l0.length : Int) (wrap64 (x11_1 + 1))) else (impl_straight.l0 k1 l1 x5_1 l0 (l0.length : Int) (wrap64 (x11_1 + 1)))) else (none)) = some r := by first | (rw [hji8] at H; exact H) | (simp only [hji8] at H ⊢; exact H)
       (try rw [hji8] at c7b0)
       (try rw [hji8] at A6)
       have hji8w : (IntKind.i64.wrap (t157 + 1)) = ji8 := (i64_w _).trans hji8
       by_cases c9 : 0 ≤ (ji8)
       ·rw [if_pos c9] at H
        have c9b0 : decide (0 ≤ (ji8)) = true := decide_eq_true c9
        clear c9
        by_cases c10 : (rd l1 (ji8)) = ((rd_T48 l0 x11_1).f1)
        ·rw [if_pos c10] at H
         have c10b0 : ((rd l1 (ji8)) == ((rd_T48 l0 x11_1).f1)) = true := beq_iff_eq.mpr c10
         have c10b1 : ((rd l1 (ji8)) != ((rd_T48 l0 x11_1).f1)) = false := bne_eq_false_iff_eq.mpr c10
         clear c10
         have H' := Aside0.mk H
         clear H
         have p155 : 0 ≤ (x11_1 : Int) := lD
         have q155 : x11_1 < (l0.length : Int) := lD
         obtain ⟨ad155, e155, hx155_0, hx155_1, hx155_2⟩ := at_T48 HR0.out x11_1 p155 q155
         cases e155
         replace hx155_0 := pw_cell_below HB.out hx155_0
         replace hx155_1 := pw_cell_below HB.out hx155_1
         replace hx155_2 := pw_cell_below HB.out hx155_2
         replace p155 := eq_true p155
         replace q155 := eq_true q155
         go_wp2_with (first | ((with_reducible refine gate_dst (N := 7) rfl ?_); refine bxe 7 #[.int .i64 0, .int .i64 0, .int .i64 0] 48 ?_; intro gb156 hg w11 hbox hb; have n0_ := Aside0.mk (below_step lB hb); have n1_ := Aside0.mk (hbox); have n2_ := lG w hg; have n3_ := lG w hg; clear HB; have HB := n0_; have BK156 := n1_; have GW156 := n2_; have GE156 := n3_; clear n0_ n1_ n2_ n3_; clear hb hbox hg; obtain ⟨hcz12_0, hfz12_0, hcz12_1, hfz12_1, hcz12_2, hfz12_2⟩ := bk3 BK156.out) | (go_at_call 79; (with_reducible refine (slices_Index_int_int.calls k1 _ _ l1 ((rd_T48 l0 x11_1).f0) t157 _ ?side1 ?side2 A6.out).mono ?_); (case side1 => exact Kd.C_below HR1.out lB); (case side2 => exact HC1.out); rintro e w' ⟨rfl, ⟨nd, rfl⟩⟩; (try first | exact ⟨rfl, _, World.drewN_drewN _ _ _⟩ | exact ⟨rfl, _, Eq.trans (World.drewN_drewN _ _ _) (congrArg (World.drewN _) (Nat.add_assoc _ _ _))⟩)))
         have p158 : 0 ≤ ((ji8) : Int) := lD; have q158 : (ji8) < (l1.length : Int) := lD; obtain ⟨ad158, e158, hx158_0⟩ := Kd.at_int HR1.out (ji8) p158 q158; cases e158; have hn158_0 : ad158.block ≠ gb156 := Nat.ne_of_lt (Nat.lt_of_lt_of_le (by have := World.block_lt_of_cell? _ _ hx158_0; first | rwa [add_block] at this | exact this) GW156.out); have hn158_1 : ad158.block ≠ gb156 := Nat.ne_of_lt (Nat.lt_of_lt_of_le (by have := World.block_lt_of_cell? _ _ hx158_0; first | rwa [add_block] at this | exact this) GW156.out); have hn158_2 : ad158.block ≠ gb156 := Nat.ne_of_lt (Nat.lt_of_lt_of_le (by have := World.block_lt_of_cell? _ _ hx158_0; first | rwa [add_block] at this | exact this) GW156.out); replace hx158_0 := pw_cell_below HB.out hx158_0; replace hx158_0 := (cell_far (p := ⟨gb156, 0, none⟩) (by first | (rw [add_block]; exact hn158_0) | (show (Addr.add _ _).block ≠ _; rw [add_block]; exact hn158_0) | exact hn158_0) (.int .i64 ((rd_T48 l0 x11_1).f0))).trans hx158_0; replace hx158_0 := (cell_far (p := ⟨gb156, 1, none⟩) (by first | (rw [add_block]; exact hn158_1) | (show (Addr.add _ _).block ≠ _; rw [add_block]; exact hn158_1) | exact hn158_1) (.int .i64 ((rd_T48 l0 x11_1).f1))).trans hx158_0; replace hx158_0 := (cell_far (p := ⟨gb156, 2, none⟩) (by first | (rw [add_block]; exact hn158_2) | (show (Addr.add _ _).block ≠ _; rw [add_block]; exact hn158_2) | exact hn158_2) (.int .i64 ((rd_T48 l0 x11_1).f2))).trans hx158_0; (try have hy158_0 := fun (n_ : Nat) => (show (((((w11.drewN n_).setCell ⟨gb156, 0, none⟩ (.int .i64 ((rd_T48 l0 x11_1).f0))).setCell ⟨gb156, 1, none⟩ (.int .i64 ((rd_T48 l0 x11_1).f1))).setCell ⟨gb156, 2, none⟩ (.int .i64 ((rd_T48 l0 x11_1).f2)))).cell? _ = some _ from hx158_0)); clear hn158_0; clear hn158_1; clear hn158_2; replace p158 := eq_true p158; replace q158 := eq_true q158
         repeat (go_quiet (first | (go_at_call 79; (with_reducible refine (slices_Index_int_int.calls k1 _ _ l1 ((rd_T48 l0 x11_1).f0) t157 _ ?side1 ?side2 A6.out).mono ?_); (case side1 => exact Kd.C_below HR1.out lB); (case side2 => exact HC1.out); rintro e w' ⟨rfl, ⟨nd, rfl⟩⟩; (try first | exact ⟨rfl, _, World.drewN_drewN _ _ _⟩ | exact ⟨rfl, _, Eq.trans (World.drewN_drewN _ _ _) (congrArg (World.drewN _) (Nat.add_assoc _ _ _))⟩))); try go_wp2_with (first | ((with_reducible refine gate_dst (N := 7) rfl ?_); refine bxe 7 #[.int .i64 0, .int .i64 0, .int .i64 0] 48 ?_; intro gb156 hg w11 hbox hb; have n0_ := Aside0.mk (below_step lB hb); have n1_ := Aside0.mk (hbox); have n2_ := lG w hg; have n3_ := lG w hg; clear HB; have HB := n0_; have BK156 := n1_; have GW156 := n2_; have GE156 := n3_; clear n0_ n1_ n2_ n3_; clear hb hbox hg; obtain ⟨hcz12_0, hfz12_0, hcz12_1, hfz12_1, hcz12_2, hfz12_2⟩ := bk3 BK156.out) | (go_at_call 79; (with_reducible refine (slices_Index_int_int.calls k1 _ _ l1 ((rd_T48 l0 x11_1).f0) t157 _ ?side1 ?side2 A6.out).mono ?_); (case side1 => exact Kd.C_below HR1.out lB); (case side2 => exact HC1.out); rintro e w' ⟨rfl, ⟨nd, rfl⟩⟩; (try first | exact ⟨rfl, _, World.drewN_drewN _ _ _⟩ | exact ⟨rfl, _, Eq.trans (World.drewN_drewN _ _ _) (congrArg (World.drewN _) (Nat.add_assoc _ _ _))⟩))))
         go_roundg k1
         case measure => have := HK1.out; omega
         case rel => exact ⟨(wrap64 (x5_1 + ((rd_T48 l0 x11_1).f2))), (wrap64 (x11_1 + 1)), lF, lF, H', ⟨by have := HK1.out; omega⟩, ⟨lB⟩⟩
        ·rw [if_neg c10] at H
         have c10b0 : ((rd l1 (ji8)) == ((rd_T48 l0 x11_1).f1)) = false := beq_eq_false_iff_ne.mpr c10
         have c10b1 : ((rd l1 (ji8)) != ((rd_T48 l0 x11_1).f1)) = true := bne_iff_ne.mpr c10
         have H' := Aside0.mk H
         clear H
         have p155 : 0 ≤ (x11_1 : Int) := lD
         have q155 : x11_1 < (l0.length : Int) := lD
         obtain ⟨ad155, e155, hx155_0, hx155_1, hx155_2⟩ := at_T48 HR0.out x11_1 p155 q155
         cases e155
         replace hx155_0 := pw_cell_below HB.out hx155_0
         replace hx155_1 := pw_cell_below HB.out hx155_1
         replace hx155_2 := pw_cell_below HB.out hx155_2
         replace p155 := eq_true p155
         replace q155 := eq_true q155
         go_wp2_with (first | ((with_reducible refine gate_dst (N := 7) rfl ?_); refine bxe 7 #[.int .i64 0, .int .i64 0, .int .i64 0] 48 ?_; intro gb156 hg w13 hbox hb; have n0_ := Aside0.mk (below_step lB hb); have n1_ := Aside0.mk (hbox); have n2_ := lG w hg; have n3_ := lG w hg; clear HB; have HB := n0_; have BK156 := n1_; have GW156 := n2_; have GE156 := n3_; clear n0_ n1_ n2_ n3_; clear hb hbox hg; obtain ⟨hcz14_0, hfz14_0, hcz14_1, hfz14_1, hcz14_2, hfz14_2⟩ := bk3 BK156.out) | (go_at_call 79; (with_reducible refine (slices_Index_int_int.calls k1 _ _ l1 ((rd_T48 l0 x11_1).f0) t157 _ ?side1 ?side2 A6.out).mono ?_); (case side1 => exact Kd.C_below HR1.out lB); (case side2 => exact HC1.out); rintro e w' ⟨rfl, ⟨nd, rfl⟩⟩; (try first | exact ⟨rfl, _, World.drewN_drewN _ _ _⟩ | exact ⟨rfl, _, Eq.trans (World.drewN_drewN _ _ _) (congrArg (World.drewN _) (Nat.add_assoc _ _ _))⟩)))
         have p158 : 0 ≤ ((ji8) : Int) := lD; have q158 : (ji8) < (l1.length : Int) := lD; obtain ⟨ad158, e158, hx158_0⟩ := Kd.at_int HR1.out (ji8) p158 q158; cases e158; have hn158_0 : ad158.block ≠ gb156 := Nat.ne_of_lt (Nat.lt_of_lt_of_le (by have := World.block_lt_of_cell? _ _ hx158_0; first | rwa [add_block] at this | exact this) GW156.out); have hn158_1 : ad158.block ≠ gb156 := Nat.ne_of_lt (Nat.lt_of_lt_of_le (by have := World.block_lt_of_cell? _ _ hx158_0; first | rwa [add_block] at this | exact this) GW156.out); have hn158_2 : ad158.block ≠ gb156 := Nat.ne_of_lt (Nat.lt_of_lt_of_le (by have := World.block_lt_of_cell? _ _ hx158_0; first | rwa [add_block] at this | exact this) GW156.out); replace hx158_0 := pw_cell_below HB.out hx158_0; replace hx158_0 := (cell_far (p := ⟨gb156, 0, none⟩) (by first | (rw [add_block]; exact hn158_0) | (show (Addr.add _ _).block ≠ _; rw [add_block]; exact hn158_0) | exact hn158_0) (.int .i64 ((rd_T48 l0 x11_1).f0))).trans hx158_0; replace hx158_0 := (cell_far (p := ⟨gb156, 1, none⟩) (by first | (rw [add_block]; exact hn158_1) | (show (Addr.add _ _).block ≠ _; rw [add_block]; exact hn158_1) | exact hn158_1) (.int .i64 ((rd_T48 l0 x11_1).f1))).trans hx158_0; replace hx158_0 := (cell_far (p := ⟨gb156, 2, none⟩) (by first | (rw [add_block]; exact hn158_2) | (show (Addr.add _ _).block ≠ _; rw [add_block]; exact hn158_2) | exact hn158_2) (.int .i64 ((rd_T48 l0 x11_1).f2))).trans hx158_0; (try have hy158_0 := fun (n_ : Nat) => (show (((((w13.drewN n_).setCell ⟨gb156, 0, none⟩ (.int .i64 ((rd_T48 l0 x11_1).f0))).setCell ⟨gb156, 1, none⟩ (.int .i64 ((rd_T48 l0 x11_1).f1))).setCell ⟨gb156, 2, none⟩ (.int .i64 ((rd_T48 l0 x11_1).f2)))).cell? _ = some _ from hx158_0)); clear hn158_0; clear hn158_1; clear hn158_2; replace p158 := eq_true p158; replace q158 := eq_true q158
         repeat (go_quiet (first | (go_at_call 79; (with_reducible refine (slices_Index_int_int.calls k1 _ _ l1 ((rd_T48 l0 x11_1).f0) t157 _ ?side1 ?side2 A6.out).mono ?_); (case side1 => exact Kd.C_below HR1.out lB); (case side2 => exact HC1.out); rintro e w' ⟨rfl, ⟨nd, rfl⟩⟩; (try first | exact ⟨rfl, _, World.drewN_drewN _ _ _⟩ | exact ⟨rfl, _, Eq.trans (World.drewN_drewN _ _ _) (congrArg (World.drewN _) (Nat.add_assoc _ _ _))⟩))); try go_wp2_with (first | ((with_reducible refine gate_dst (N := 7) rfl ?_); refine bxe 7 #[.int .i64 0, .int .i64 0, .int .i64 0] 48 ?_; intro gb156 hg w13 hbox hb; have n0_ := Aside0.mk (below_step lB hb); have n1_ := Aside0.mk (hbox); have n2_ := lG w hg; have n3_ := lG w hg; clear HB; have HB := n0_; have BK156 := n1_; have GW156 := n2_; have GE156 := n3_; clear n0_ n1_ n2_ n3_; clear hb hbox hg; obtain ⟨hcz14_0, hfz14_0, hcz14_1, hfz14_1, hcz14_2, hfz14_2⟩ := bk3 BK156.out) | (go_at_call 79; (with_reducible refine (slices_Index_int_int.calls k1 _ _ l1 ((rd_T48 l0 x11_1).f0) t157 _ ?side1 ?side2 A6.out).mono ?_); (case side1 => exact Kd.C_below HR1.out lB); (case side2 => exact HC1.out); rintro e w' ⟨rfl, ⟨nd, rfl⟩⟩; (try first | exact ⟨rfl, _, World.drewN_drewN _ _ _⟩ | exact ⟨rfl, _, Eq.trans (World.drewN_drewN _ _ _) (congrArg (World.drewN _) (Nat.add_assoc _ _ _))⟩))))
         go_roundg k1
         case measure => have := HK1.out; omega
         case rel => exact ⟨(x5_1), (wrap64 (x11_1 + 1)), lF, lF, H', ⟨by have := HK1.out; omega⟩, ⟨lB⟩⟩
       ·rw [if_neg c9] at H
        exact absurd H (by simp)
      ·rw [if_neg c7] at H
       have c7b0 : decide ((wrap64 (t157 + 1)) < (l1.length : Int)) = false := decide_eq_false c7
       clear c7
       have H' := Aside0.mk H
       clear H
       have p155 : 0 ≤ (x11_1 : Int) := lD
       have q155 : x11_1 < (l0.length : Int) := lD
       obtain ⟨ad155, e155, hx155_0, hx155_1, hx155_2⟩ := at_T48 HR0.out x11_1 p155 q155
       cases e155
       replace hx155_0 := pw_cell_below HB.out hx155_0
       replace hx155_1 := pw_cell_below HB.out hx155_1
       replace hx155_2 := pw_cell_below HB.out hx155_2
       replace p155 := eq_true p155
       replace q155 := eq_true q155
       go_wp2_with (first | ((with_reducible refine gate_dst (N := 7) rfl ?_); refine bxe 7 #[.int .i64 0, .int .i64 0, .int .i64 0] 48 ?_; intro gb156 hg w15 hbox hb; have n0_ := Aside0.mk (below_step lB hb); have n1_ := Aside0.mk (hbox); have n2_ := lG w hg; have n3_ := lG w hg; clear HB; have HB := n0_; have BK156 := n1_; have GW156 := n2_; have GE156 := n3_; clear n0_ n1_ n2_ n3_; clear hb hbox hg; obtain ⟨hcz16_0, hfz16_0, hcz16_1, hfz16_1, hcz16_2, hfz16_2⟩ := bk3 BK156.out) | (go_at_call 79; (with_reducible refine (slices_Index_int_int.calls k1 _ _ l1 ((rd_T48 l0 x11_1).f0) t157 _ ?side1 ?side2 A6.out).mono ?_); (case side1 => exact Kd.C_below HR1.out lB); (case side2 => exact HC1.out); rintro e w' ⟨rfl, ⟨nd, rfl⟩⟩; (try first | exact ⟨rfl, _, World.drewN_drewN _ _ _⟩ | exact ⟨rfl, _, Eq.trans (World.drewN_drewN _ _ _) (congrArg (World.drewN _) (Nat.add_assoc _ _ _))⟩)))
       repeat (go_quiet (first | (go_at_call 79; (with_reducible refine (slices_Index_int_int.calls k1 _ _ l1 ((rd_T48 l0 x11_1).f0) t157 _ ?side1 ?side2 A6.out).mono ?_); (case side1 => exact Kd.C_below HR1.out lB); (case side2 => exact HC1.out); rintro e w' ⟨rfl, ⟨nd, rfl⟩⟩; (try first | exact ⟨rfl, _, World.drewN_drewN _ _ _⟩ | exact ⟨rfl, _, Eq.trans (World.drewN_drewN _ _ _) (congrArg (World.drewN _) (Nat.add_assoc _ _ _))⟩))); try go_wp2_with (first | ((with_reducible refine gate_dst (N := 7) rfl ?_); refine bxe 7 #[.int .i64 0, .int .i64 0, .int .i64 0] 48 ?_; intro gb156 hg w15 hbox hb; have n0_ := Aside0.mk (below_step lB hb); have n1_ := Aside0.mk (hbox); have n2_ := lG w hg; have n3_ := lG w hg; clear HB; have HB := n0_; have BK156 := n1_; have GW156 := n2_; have GE156 := n3_; clear n0_ n1_ n2_ n3_; clear hb hbox hg; obtain ⟨hcz16_0, hfz16_0, hcz16_1, hfz16_1, hcz16_2, hfz16_2⟩ := bk3 BK156.out) | (go_at_call 79; (with_reducible refine (slices_Index_int_int.calls k1 _ _ l1 ((rd_T48 l0 x11_1).f0) t157 _ ?side1 ?side2 A6.out).mono ?_); (case side1 => exact Kd.C_below HR1.out lB); (case side2 => exact HC1.out); rintro e w' ⟨rfl, ⟨nd, rfl⟩⟩; (try first | exact ⟨rfl, _, World.drewN_drewN _ _ _⟩ | exact ⟨rfl, _, Eq.trans (World.drewN_drewN _ _ _) (congrArg (World.drewN _) (Nat.add_assoc _ _ _))⟩))))
       go_roundg k1
       case measure => have := HK1.out; omega
       case rel => exact ⟨(x5_1), (wrap64 (x11_1 + 1)), lF, lF, H', ⟨by have := HK1.out; omega⟩, ⟨lB⟩⟩
     ·rw [if_neg c5] at H
      exact absurd H (by simp)
    ·rw [if_neg c4] at H
     exact absurd H (by simp)
   ·rw [if_neg c3] at H
    have c3b0 : decide (x11_1 < (l0.length : Int)) = false := decide_eq_false c3
    clear c3
    obtain rfl := Option.some.inj H
    go_wp2
    repeat (go_quiet (fail); try go_wp2)
    go_ret
    exact ⟨lE, lB⟩

/-! ### impl_JumpsIn: function 29 -/
mutual
def impl_JumpsIn.j0 : Nat → List (S48) → List Int → Bool → Option (Int × Bool)
 | 0, _, _, _ => none
 | k + 1, x1, x2, x20 => if x20 = true then (some (0, false)) else ((impl_straight.f k x1 x2).bind fun t161 => (impl_JumpsIn.l0 k (wrap64 (-t161)) x1 (x1.length : Int) 0))
def impl_JumpsIn.l0 : Nat → Int → List (S48) → Int → Int → Option (Int × Bool)
 | 0, _, _, _, _ => none
 | k + 1, x8, x25, x26, x27 => if x27 < x26 then (if 0 ≤ x27 then (if x27 < (x25.length : Int) then (impl_JumpsIn.l0 k (wrap64 (x8 + ((rd_T48 x25 x27).f2))) x25 x26 (wrap64 (x27 + 1))) else (none)) else (none)) else (some (x8, true))
end
def impl_JumpsIn.f (k : Nat) (a0 : Int) (l1 : List (S48)) (l2 : List Int) : Option (Int × Bool) := (impl_areEdges.f a0 l1).bind fun t159 => (if t159 = true then ((impl_isLayout.f k a0 l2).bind fun t160 => (impl_JumpsIn.j0 k l1 l2 (!t160))) else (impl_JumpsIn.j0 k l1 l2 true))
theorem impl_JumpsIn.mono_l : ∀ k, (∀ y0 y1 y2, LeO (impl_JumpsIn.j0 k y0 y1 y2) (impl_JumpsIn.j0 (k + 1) y0 y1 y2)) ∧ (∀ y0 y1 y2 y3, LeO (impl_JumpsIn.l0 k y0 y1 y2 y3) (impl_JumpsIn.l0 (k + 1) y0 y1 y2 y3))
 | 0 => ⟨fun _ _ _ r h => by simp [impl_JumpsIn.j0] at h, fun _ _ _ _ r h => by simp [impl_JumpsIn.l0] at h⟩
 | k + 1 => by
  obtain ⟨ih0, ih1⟩ := impl_JumpsIn.mono_l k
  refine ⟨?_, ?_⟩
  ·intro y0 y1 y2
   unfold impl_JumpsIn.j0
   repeat' first
   | with_reducible apply ih0
   | with_reducible apply ih1
   | with_reducible apply impl_isLayout.mono
   | with_reducible apply impl_straight.mono
   | (with_reducible exact LeO.refl _)
   | (with_reducible exact LeO.none _)
   | (with_reducible refine LeO.ite ?_ ?_)
   | (with_reducible refine LeO.bind ?_ (fun _ => ?_))
   | apply ih0
   | apply ih1
   | apply impl_isLayout.mono
   | apply impl_straight.mono
   | exact LeO.none _
   | refine LeO.ite ?_ ?_
   | refine LeO.bind ?_ (fun _ => ?_)
  ·intro y0 y1 y2 y3
   unfold impl_JumpsIn.l0
   repeat' first
   | with_reducible apply ih0
   | with_reducible apply ih1
   | with_reducible apply impl_isLayout.mono
   | with_reducible apply impl_straight.mono
   | (with_reducible exact LeO.refl _)
   | (with_reducible exact LeO.none _)
   | (with_reducible refine LeO.ite ?_ ?_)
   | (with_reducible refine LeO.bind ?_ (fun _ => ?_))
   | apply ih0
   | apply ih1
   | apply impl_isLayout.mono
   | apply impl_straight.mono
   | exact LeO.none _
   | refine LeO.ite ?_ ?_
   | refine LeO.bind ?_ (fun _ => ?_)
theorem impl_JumpsIn.mono : ∀ a0 a1 a2 k, LeO (impl_JumpsIn.f k a0 a1 a2) (impl_JumpsIn.f (k + 1) a0 a1 a2) := by
 intro a0 a1 a2 k
 obtain ⟨ih0, ih1⟩ := impl_JumpsIn.mono_l k
 unfold impl_JumpsIn.f
 repeat' first
   | with_reducible apply ih0
   | with_reducible apply ih1
   | with_reducible apply impl_isLayout.mono
   | with_reducible apply impl_straight.mono
   | (with_reducible exact LeO.refl _)
   | (with_reducible exact LeO.none _)
   | (with_reducible refine LeO.ite ?_ ?_)
   | (with_reducible refine LeO.bind ?_ (fun _ => ?_))
   | apply ih0
   | apply ih1
   | apply impl_isLayout.mono
   | apply impl_straight.mono
   | exact LeO.none _
   | refine LeO.ite ?_ ?_
   | refine LeO.bind ?_ (fun _ => ?_)
set_option maxHeartbeats 8000000 in
set_option maxRecDepth 100000 in
theorem impl_JumpsIn.calls (k : Nat) (a0 : Int) (A1 : Option Addr) (c1 : Nat) (l1 : List (S48)) (A2 : Option Addr) (c2 : Nat) (l2 : List Int) (r1 : Int) (r2 : Bool) (w : World) (hr1 : Kd.C k48 w A1 l1.length l1) (hc1 : l1.length ≤ c1) (hr2 : Kd.C (Kd.int .i64) w A2 l2.length l2) (hc2 : l2.length ≤ c2) (h : impl_JumpsIn.f k a0 l1 l2 = some (r1, r2)) :
  Calls Try.prog 29 #[.int .i64 a0, .slice A1 l1.length c1, .slice A2 l2.length c2] w fun e w' => e = .returned (.tuple #[.int .i64 r1, .bool r2]) ∧ Below w.heap.size w w' := by
 have hu48 := Try.underlying48
 have HR1 := Aside0.mk hr1
 have HC1 := Aside0.mk hc1
 clear hr1 hc1
 have HR2 := Aside0.mk hr2
 have HC2 := Aside0.mk hc2
 clear hr2 hc2
 have HB := Aside0.mk (Below.refl w.heap.size w)
 have H : ((impl_areEdges.f a0 l1).bind fun t159 => (if t159 = true then ((impl_isLayout.f k a0 l2).bind fun t160 => (impl_JumpsIn.j0 k l1 l2 (!t160))) else (impl_JumpsIn.j0 k l1 l2 true))) = some (r1, r2) := h
 clear h
 have HC4 := Aside0.mk H
 clear H
 go_enter Try.func29, Try.ntmps29
 go_upto_region 1 with (fail)
 go_cut [20] (fun v20 wc => ∃ (kq : Nat) (x20_3 : Bool), v20 = .bool x20_3 ∧ Aside0 (impl_JumpsIn.j0 kq l1 l2 x20_3 = some (r1, r2)) ∧ Aside0 (kq ≤ k) ∧ Aside0 (Below w.heap.size w wc))
 case first =>
  have H := HC4.out
  clear HC4
  replace H := lO H
  obtain ⟨t159, A5, H⟩ := H
  by_cases c6 : t159 = true
  ·subst c6
   rw [if_pos rfl] at H
   replace H := lO H
   obtain ⟨t160, A7, H⟩ := H
   have H' := Aside0.mk H
   clear H
   go_wp2_with (first | ((with_reducible refine gate_callee (f := 59) rfl ?_); refine gl_ (some 13) (Try.func59) #[.int .i64 a0, .slice A1 l1.length c1] ?_; (with_reducible refine (impl_areEdges.calls a0 _ _ l1 true _ ?side1 ?side2 A5.out).mono ?_); (case side1 => exact lC (Kd.C_below HR1.out HB.out)); (case side2 => exact HC1.out); rintro e w8 ⟨rfl, hb⟩; refine ⟨_, rfl, ?_⟩; have n0_ := Aside0.mk (below_step lB hb); clear HB; have HB := n0_; clear n0_; (try clear hb); (try clear hb2); (try clear hk); (try clear hi)) | (go_at_call 66; (with_reducible refine (impl_isLayout.calls k a0 _ _ l2 t160 _ ?side1 ?side2 A7.out).mono ?_); (case side1 => exact lC (Kd.C_below HR2.out HB.out)); (case side2 => exact HC2.out); rintro e w' ⟨rfl, ⟨nd, rfl⟩⟩))
   go_meet
   case rel => exact ⟨_, (!t160), lF, H', ⟨lN⟩, ⟨lB⟩⟩
  ·replace c6 := Bool.eq_false_iff.mpr c6
   subst c6
   rw [if_neg (show ¬ (false = true) by decide)] at H
   have H' := Aside0.mk H
   clear H
   go_wp2_with (first | ((with_reducible refine gate_callee (f := 59) rfl ?_); refine gl_ (some 13) (Try.func59) #[.int .i64 a0, .slice A1 l1.length c1] ?_; (with_reducible refine (impl_areEdges.calls a0 _ _ l1 false _ ?side1 ?side2 A5.out).mono ?_); (case side1 => exact lC (Kd.C_below HR1.out HB.out)); (case side2 => exact HC1.out); rintro e w9 ⟨rfl, hb⟩; refine ⟨_, rfl, ?_⟩; have n0_ := Aside0.mk (below_step lB hb); clear HB; have HB := n0_; clear n0_; (try clear hb); (try clear hb2); (try clear hk); (try clear hi)))
   go_meet
   case rel => exact ⟨_, (true), lF, H', ⟨lN⟩, ⟨lB⟩⟩
 case rest =>
  clear HC4
  try clear c1
  try clear c2
  try clear p2
  try clear c5
  try clear c6
  obtain ⟨kq, x20_3, rfl, HA, HJ3, HB⟩ := hcut
  cases kq with
  | zero => exact absurd HA.out (by simp [impl_JumpsIn.j0])
  | succ kj3 =>
   have H := HA.out
   clear HA
   simp only [impl_JumpsIn.j0] at H
   by_cases c10 : x20_3 = true
   ·subst c10
    rw [if_pos rfl] at H
    simp only [Option.some.injEq, Prod.mk.injEq] at H
    obtain ⟨rfl, rfl⟩ := H
    go_wp2
    go_ret2
    exact ⟨lE, lB⟩
   ·replace c10 := Bool.eq_false_iff.mpr c10
    subst c10
    rw [if_neg (show ¬ (false = true) by decide)] at H
    replace H := lO H
    obtain ⟨t161, A11, H⟩ := H
    have H' := Aside0.mk H
    clear H
    go_wp2_with (first | ((with_reducible refine gate_callee (f := 67) rfl ?_); refine gl_ (some 23) (Try.func67) #[.slice A1 l1.length c1, .slice A2 l2.length c2] ?_; (with_reducible refine (impl_straight.calls kj3 _ _ l1 _ _ l2 t161 _ ?side1 ?side2 ?side3 ?side4 A11.out).mono ?_); (case side1 => exact lC (Kd.C_below HR1.out HB.out)); (case side2 => exact HC1.out); (case side3 => exact lC (Kd.C_below HR2.out HB.out)); (case side4 => exact HC2.out); rintro e w12 ⟨rfl, hb⟩; refine ⟨_, rfl, ?_⟩; have n0_ := Aside0.mk (below_step lB hb); clear HB; have HB := n0_; clear n0_; (try clear hb); (try clear hb2); (try clear hk); (try clear hi)))
    go_loopg [8, 27] kj3 (fun kq v8 v27 w' => ∃ (x8_2 : Int) (x27_2 : Int), v8 = .int .i64 x8_2 ∧ v27 = .int .i64 x27_2 ∧ Aside0 (impl_JumpsIn.l0 kq x8_2 l1 (l1.length : Int) x27_2 = some (r1, r2)) ∧ Aside0 (kq ≤ kj3) ∧ Aside0 (Below w.heap.size w w'))
    case atStart => exact ⟨(wrap64 (-t161)), (0), lF, lF, H', ⟨Nat.le_refl _⟩, ⟨lB⟩⟩
    case round =>
     clear H'
     try clear c1
     try clear c2
     try clear p2
     try clear c5
     try clear c6
     try clear p6
     try clear c10
     try clear p2
     obtain ⟨x8_2, x27_2, rfl, rfl, HA, HK2, HB⟩ := hrel
     cases gk with
     | zero => exact absurd HA.out (by simp [impl_JumpsIn.l0])
     | succ k2 =>
      have H := HA.out
      clear HA
      simp only [impl_JumpsIn.l0] at H
      by_cases c13 : x27_2 < (l1.length : Int)
      ·rw [if_pos c13] at H
       have c13b0 : decide (x27_2 < (l1.length : Int)) = true := decide_eq_true c13
       clear c13
       by_cases c14 : 0 ≤ x27_2
       ·rw [if_pos c14] at H
        have c14b0 : decide (0 ≤ x27_2) = true := decide_eq_true c14
        clear c14
        by_cases c15 : x27_2 < (l1.length : Int)
        ·rw [if_pos c15] at H
         have c15b0 : decide (x27_2 < (l1.length : Int)) = true := decide_eq_true c15
         clear c15
         have H' := Aside0.mk H
         clear H
         have p162 : 0 ≤ (x27_2 : Int) := lD
         have q162 : x27_2 < (l1.length : Int) := lD
         obtain ⟨ad162, e162, hx162_0, hx162_1, hx162_2⟩ := at_T48 HR1.out x27_2 p162 q162
         cases e162
         replace hx162_0 := pw_cell_below HB.out hx162_0
         replace hx162_1 := pw_cell_below HB.out hx162_1
         replace hx162_2 := pw_cell_below HB.out hx162_2
         replace p162 := eq_true p162
         replace q162 := eq_true q162
         go_wp2_with (first | ((with_reducible refine gate_dst (N := 10) rfl ?_); refine bxe 10 #[.int .i64 0, .int .i64 0, .int .i64 0] 48 ?_; intro gb163 hg w16 hbox hb; have n0_ := Aside0.mk (below_step lB hb); have n1_ := Aside0.mk (hbox); have n2_ := lG w hg; have n3_ := lG w hg; clear HB; have HB := n0_; have BK163 := n1_; have GW163 := n2_; have GE163 := n3_; clear n0_ n1_ n2_ n3_; clear hb hbox hg; obtain ⟨hcz17_0, hfz17_0, hcz17_1, hfz17_1, hcz17_2, hfz17_2⟩ := bk3 BK163.out))
         go_roundg k2
         case measure => have := HJ3.out; have := HK2.out; omega
         case rel => exact ⟨(wrap64 (x8_2 + ((rd_T48 l1 x27_2).f2))), (wrap64 (x27_2 + 1)), lF, lF, H', ⟨by have := HJ3.out; have := HK2.out; omega⟩, ⟨lB⟩⟩
        ·rw [if_neg c15] at H
         exact absurd H (by simp)
       ·rw [if_neg c14] at H
        exact absurd H (by simp)
      ·rw [if_neg c13] at H
       have c13b0 : decide (x27_2 < (l1.length : Int)) = false := decide_eq_false c13
       clear c13
       simp only [Option.some.injEq, Prod.mk.injEq] at H
       obtain ⟨rfl, rfl⟩ := H
       go_wp2
       go_ret2
       exact ⟨lE, lB⟩

/-! ### laws_FnExactJumpsIn: function 6 -/
def laws_FnExactJumpsIn.j0 : Nat → List (S77) → List Int → List (S48) → List Int → Bool → Option (Bool)
 | 0, _, _, _, _, _ => none
 | k + 1, x1, x2, x10, x11, x49 => if x49 = true then (some false) else ((laws_toEdgeS.f k x1).bind fun t181 => ((laws_eqEdgeS.f k x10 t181).bind fun t184 => (if t184 = true then ((laws_toIntS.f k x2).bind fun t185 => ((laws_eqIntS.f k x11 t185).bind fun t188 => (if t188 = true then (some true) else (some false)))) else (some false))))
def laws_FnExactJumpsIn.f (k : Nat) (a0 : Int) (l1 : List (S77)) (l2 : List Int) : Option (Bool) := if (l2.length : Int) > 1048576 then (some true) else ((laws_szEdgeS.f l1 1048576).bind fun t164 => (if t164 < 0 then (some true) else ((laws_toEdgeS.f k l1).bind fun t165 => ((laws_toIntS.f k l2).bind fun t168 => ((spec_JumpsIn.f k a0 t165 t168).bind fun bt171 => ((laws_toEdgeS.f k l1).bind fun t173 => ((laws_toIntS.f k l2).bind fun t176 => ((impl_JumpsIn.f k a0 t173 t176).bind fun bt179 => (if bt179.1 = bt171.1 then (laws_FnExactJumpsIn.j0 k l1 l2 t173 t176 (bt179.2 != bt171.2)) else (laws_FnExactJumpsIn.j0 k l1 l2 t173 t176 true))))))))))
theorem laws_FnExactJumpsIn.mono_l : ∀ k, (∀ y0 y1 y2 y3 y4, LeO (laws_FnExactJumpsIn.j0 k y0 y1 y2 y3 y4) (laws_FnExactJumpsIn.j0 (k + 1) y0 y1 y2 y3 y4))
 | 0 => fun _ _ _ _ _ r h => by simp [laws_FnExactJumpsIn.j0] at h
 | k + 1 => by
  have ih0 := laws_FnExactJumpsIn.mono_l k
  ·intro y0 y1 y2 y3 y4
   unfold laws_FnExactJumpsIn.j0
   repeat' first
   | with_reducible apply ih0
   | with_reducible apply impl_JumpsIn.mono
   | with_reducible apply laws_eqEdgeS.mono
   | with_reducible apply laws_eqIntS.mono
   | with_reducible apply laws_toEdgeS.mono
   | with_reducible apply laws_toIntS.mono
   | with_reducible apply spec_JumpsIn.mono
   | (with_reducible exact LeO.refl _)
   | (with_reducible exact LeO.none _)
   | (with_reducible refine LeO.ite ?_ ?_)
   | (with_reducible refine LeO.bind ?_ (fun _ => ?_))
   | apply ih0
   | apply impl_JumpsIn.mono
   | apply laws_eqEdgeS.mono
   | apply laws_eqIntS.mono
   | apply laws_toEdgeS.mono
   | apply laws_toIntS.mono
   | apply spec_JumpsIn.mono
   | exact LeO.none _
   | refine LeO.ite ?_ ?_
   | refine LeO.bind ?_ (fun _ => ?_)
theorem laws_FnExactJumpsIn.mono : ∀ a0 a1 a2 k, LeO (laws_FnExactJumpsIn.f k a0 a1 a2) (laws_FnExactJumpsIn.f (k + 1) a0 a1 a2) := by
 intro a0 a1 a2 k
 have ih0 := laws_FnExactJumpsIn.mono_l k
 unfold laws_FnExactJumpsIn.f
 repeat' first
   | with_reducible apply ih0
   | with_reducible apply impl_JumpsIn.mono
   | with_reducible apply laws_eqEdgeS.mono
   | with_reducible apply laws_eqIntS.mono
   | with_reducible apply laws_toEdgeS.mono
   | with_reducible apply laws_toIntS.mono
   | with_reducible apply spec_JumpsIn.mono
   | (with_reducible exact LeO.refl _)
   | (with_reducible exact LeO.none _)
   | (with_reducible refine LeO.ite ?_ ?_)
   | (with_reducible refine LeO.bind ?_ (fun _ => ?_))
   | apply ih0
   | apply impl_JumpsIn.mono
   | apply laws_eqEdgeS.mono
   | apply laws_eqIntS.mono
   | apply laws_toEdgeS.mono
   | apply laws_toIntS.mono
   | apply spec_JumpsIn.mono
   | exact LeO.none _
   | refine LeO.ite ?_ ?_
   | refine LeO.bind ?_ (fun _ => ?_)
set_option maxHeartbeats 8000000 in
set_option maxRecDepth 100000 in
theorem laws_FnExactJumpsIn.calls (k : Nat) (a0 : Int) (A1 : Option Addr) (c1 : Nat) (l1 : List (S77)) (A2 : Option Addr) (c2 : Nat) (l2 : List Int) (r : Bool) (w : World) (hr1 : Kd.C k77 w A1 l1.length l1) (hc1 : l1.length ≤ c1) (hr2 : Kd.C (Kd.int .i64) w A2 l2.length l2) (hc2 : l2.length ≤ c2) (h : laws_FnExactJumpsIn.f k a0 l1 l2 = some r) :
  Calls Try.prog 6 #[.int .i64 a0, .slice A1 l1.length c1, .slice A2 l2.length c2] w fun e w' => e = .returned (.bool r) ∧ Below w.heap.size w w' := by
 have HR1 := Aside0.mk hr1
 have HC1 := Aside0.mk hc1
 clear hr1 hc1
 have HR2 := Aside0.mk hr2
 have HC2 := Aside0.mk hc2
 clear hr2 hc2
 have HB := Aside0.mk (Below.refl w.heap.size w)
 have H : (if (l2.length : Int) > 1048576 then (some true) else ((laws_szEdgeS.f l1 1048576).bind fun t164 => (if t164 < 0 then (some true) else ((laws_toEdgeS.f k l1).bind fun t165 => ((laws_toIntS.f k l2).bind fun t168 => ((spec_JumpsIn.f k a0 t165 t168).bind fun bt171 => ((laws_toEdgeS.f k l1).bind fun t173 => ((laws_toIntS.f k l2).bind fun t176 => ((impl_JumpsIn.f k a0 t173 t176).bind fun bt179 => (if bt179.1 = bt171.1 then (laws_FnExactJumpsIn.j0 k l1 l2 t173 t176 (bt179.2 != bt171.2)) else (laws_FnExactJumpsIn.j0 k l1 l2 t173 t176 true))))))))))) = some r := h
 clear h
 by_cases c4 : (l2.length : Int) > 1048576
 ·rw [if_pos c4] at H
  have c4b0 : decide (1048576 < (l2.length : Int)) = true := decide_eq_true c4
  have c4b1 : decide (1048576 < l2.length) = true := decide_eq_true (by omega)
  clear c4
  obtain rfl := Option.some.inj H
  go_enter Try.func6, Try.ntmps6
  first | (go_wp2; go_ret; exact ⟨lE, lB⟩) | (exfalso; simp only [decide_eq_false_iff_not, decide_eq_true_eq] at *; omega)
 ·rw [if_neg c4] at H
  have c4b0 : decide (1048576 < (l2.length : Int)) = false := decide_eq_false c4
  have c4b1 : decide (1048576 < l2.length) = false := decide_eq_false (by omega)
  clear c4
  replace H := lO H
  obtain ⟨t164, A5, H⟩ := H
  by_cases c6 : t164 < 0
  ·rw [if_pos c6] at H
   have c6b0 : decide (t164 < 0) = true := decide_eq_true c6
   clear c6
   obtain rfl := Option.some.inj H
   go_enter Try.func6, Try.ntmps6
   go_wp2_with (first | ((with_reducible refine gate_callee (f := 11) rfl ?_); refine gl_ (some 19) (Try.func11) #[.slice A1 l1.length c1, .int .i64 1048576] ?_; (with_reducible refine (laws_szEdgeS.calls _ _ l1 1048576 t164 _ ?side1 ?side2 A5.out).mono ?_); (case side1 => repeat (first | exact HR1.out | (with_reducible refine Kd.C_alloc ?_ _) | (with_reducible refine Kd.C_drewN ?_ _) | (with_reducible refine Kd.C_drew ?_))); (case side2 => exact HC1.out); rintro e w' ⟨rfl, ⟨nd, rfl⟩⟩; refine ⟨_, rfl, ?_⟩))
   go_ret
   exact ⟨lE, lB⟩
  ·rw [if_neg c6] at H
   have c6b0 : decide (t164 < 0) = false := decide_eq_false c6
   clear c6
   replace H := lO H
   obtain ⟨t165, A7, H⟩ := H
   replace H := lO H
   obtain ⟨t168, A8, H⟩ := H
   replace H := Option.bind_eq_some_iff.mp H
   obtain ⟨⟨t171, t172⟩, A90, H⟩ := H
   replace H : ((laws_toEdgeS.f k l1).bind fun t173 => ((laws_toIntS.f k l2).bind fun t176 => ((impl_JumpsIn.f k a0 t173 t176).bind fun bt179 => (if bt179.1 = t171 then (laws_FnExactJumpsIn.j0 k l1 l2 t173 t176 (bt179.2 != t172)) else (laws_FnExactJumpsIn.j0 k l1 l2 t173 t176 true))))) = some r := H
   have A9 := Aside0.mk A90
   clear A90
   replace H := lO H
   obtain ⟨t173, A10, H⟩ := H
   replace H := lO H
   obtain ⟨t176, A11, H⟩ := H
   replace H := Option.bind_eq_some_iff.mp H
   obtain ⟨⟨t179, t180⟩, A120, H⟩ := H
   replace H : (if t179 = t171 then (laws_FnExactJumpsIn.j0 k l1 l2 t173 t176 (t180 != t172)) else (laws_FnExactJumpsIn.j0 k l1 l2 t173 t176 true)) = some r := H
   have A12 := Aside0.mk A120
   clear A120
   have HC13 := Aside0.mk H
   clear H
   go_enter Try.func6, Try.ntmps6
   go_upto_region 11 with (first | ((with_reducible refine gate_callee (f := 11) rfl ?_); refine gl_ (some 19) (Try.func11) #[.slice A1 l1.length c1, .int .i64 1048576] ?_; (with_reducible refine (laws_szEdgeS.calls _ _ l1 1048576 t164 _ ?side1 ?side2 A5.out).mono ?_); (case side1 => repeat (first | exact HR1.out | (with_reducible refine Kd.C_alloc ?_ _) | (with_reducible refine Kd.C_drewN ?_ _) | (with_reducible refine Kd.C_drew ?_))); (case side2 => exact HC1.out); rintro e w' ⟨rfl, ⟨nd, rfl⟩⟩; refine ⟨_, rfl, ?_⟩) | ((with_reducible refine gate_callee (f := 13) rfl ?_); refine gl_ (some 25) (Try.func13) #[.slice A1 l1.length c1] ?_; (with_reducible refine (laws_toEdgeS.calls k _ _ l1 t165 _ ?side1 ?side2 A7.out).mono ?_); (case side1 => repeat (first | exact HR1.out | (with_reducible refine Kd.C_alloc ?_ _) | (with_reducible refine Kd.C_drewN ?_ _) | (with_reducible refine Kd.C_drew ?_))); (case side2 => exact HC1.out); rintro e w14 ⟨v166, rfl, ho0, hb⟩; refine ⟨_, rfl, ?_⟩; have n0_ := Aside0.mk (Kd.R_lower ho0 (below_size lB)); have n1_ := Aside0.mk (below_step lB hb); clear HB; have HO167 := n0_; have HB := n1_; clear n0_ n1_; (try clear hb); (try clear hb2); (try clear hk); (try clear hi); (try clear ho0)) | ((with_reducible refine gate_callee (f := 26) rfl ?_); refine gl_ (some 27) (Try.func26) #[.slice A2 l2.length c2] ?_; (with_reducible refine (laws_toIntS.calls k _ _ l2 t168 _ ?side1 ?side2 A8.out).mono ?_); (case side1 => exact lC (Kd.C_below HR2.out HB.out)); (case side2 => exact HC2.out); rintro e w15 ⟨v169, rfl, ho0, hb⟩; refine ⟨_, rfl, ?_⟩; have n0_ := Aside0.mk (Kd.R_below (lR HO167.out) hb); have n1_ := Aside0.mk (Kd.R_lower ho0 (below_size lB)); have n2_ := Aside0.mk (below_step lB hb); clear HO167; clear HB; have HO167 := n0_; have HO170 := n1_; have HB := n2_; clear n0_ n1_ n2_; (try clear hb); (try clear hb2); (try clear hk); (try clear hi); (try clear ho0); obtain ⟨Ao16, co16, eo16⟩ := Kd.R_slice HO167.out; subst eo16; obtain ⟨Ao17, co17, eo17⟩ := Kd.R_slice HO170.out; subst eo17) | ((with_reducible refine gate_callee (f := 28) rfl ?_); refine gl_ (some 28) (Try.func28) #[.int .i64 a0, .slice Ao16 t165.length co16, .slice Ao17 t168.length co17] ?_; (with_reducible refine (spec_JumpsIn.calls k a0 _ _ t165 _ _ t168 t171 t172 _ ?side1 ?side2 ?side3 ?side4 A9.out).mono ?_); (case side1 => repeat (first | exact (Kd.R_reads' HO167.out).2.2 | (with_reducible refine Kd.C_alloc ?_ _) | (with_reducible refine Kd.C_drewN ?_ _) | (with_reducible refine Kd.C_drew ?_))); (case side2 => exact (Kd.R_reads' HO167.out).2.1); (case side3 => repeat (first | exact (Kd.R_reads' HO170.out).2.2 | (with_reducible refine Kd.C_alloc ?_ _) | (with_reducible refine Kd.C_drewN ?_ _) | (with_reducible refine Kd.C_drew ?_))); (case side4 => exact (Kd.R_reads' HO170.out).2.1); rintro e w18 ⟨rfl, hb⟩; refine ⟨_, rfl, ?_⟩; have n0_ := Aside0.mk (Kd.R_below (lR HO167.out) hb); have n1_ := Aside0.mk (Kd.R_below (lR HO170.out) hb); have n2_ := Aside0.mk (below_step lB hb); clear HO167; clear HO170; clear HB; have HO167 := n0_; have HO170 := n1_; have HB := n2_; clear n0_ n1_ n2_; (try clear hb); (try clear hb2); (try clear hk); (try clear hi)) | ((with_reducible refine gate_callee (f := 13) rfl ?_); refine gl_ (some 32) (Try.func13) #[.slice A1 l1.length c1] ?_; (with_reducible refine (laws_toEdgeS.calls k _ _ l1 t173 _ ?side1 ?side2 A10.out).mono ?_); (case side1 => exact lC (Kd.C_below HR1.out HB.out)); (case side2 => exact HC1.out); rintro e w19 ⟨v174, rfl, ho0, hb⟩; refine ⟨_, rfl, ?_⟩; have n0_ := Aside0.mk (Kd.R_elder' (lR HO167.out) (Kd.R_base ho0) hb); have n1_ := Aside0.mk (Kd.R_below (lR HO170.out) hb); have n2_ := Aside0.mk (Kd.R_lower (Kd.R_new' ho0 (Kd.R_lt (lR HO167.out))) (below_size lB)); have n3_ := Aside0.mk (below_step lB hb); clear HO167; clear HO170; clear HB; have HO167 := n0_; have HO170 := n1_; have HO175 := n2_; have HB := n3_; clear n0_ n1_ n2_ n3_; (try clear hb); (try clear hb2); (try clear hk); (try clear hi); (try clear ho0)) | ((with_reducible refine gate_callee (f := 26) rfl ?_); refine gl_ (some 34) (Try.func26) #[.slice A2 l2.length c2] ?_; (with_reducible refine (laws_toIntS.calls k _ _ l2 t176 _ ?side1 ?side2 A11.out).mono ?_); (case side1 => exact lC (Kd.C_below HR2.out HB.out)); (case side2 => exact HC2.out); rintro e w20 ⟨v177, rfl, ho0, hb⟩; refine ⟨_, rfl, ?_⟩; have n0_ := Aside0.mk (Kd.R_below (lR HO167.out) hb); have n1_ := Aside0.mk (Kd.R_elder' (lR HO170.out) (Kd.R_base ho0) hb); have n2_ := Aside0.mk (Kd.R_below (lR HO175.out) hb); have n3_ := Aside0.mk (Kd.R_lower (Kd.R_new' ho0 (Kd.R_lt (lR HO170.out))) (below_size lB)); have n4_ := Aside0.mk (below_step lB hb); clear HO167; clear HO170; clear HO175; clear HB; have HO167 := n0_; have HO170 := n1_; have HO175 := n2_; have HO178 := n3_; have HB := n4_; clear n0_ n1_ n2_ n3_ n4_; (try clear hb); (try clear hb2); (try clear hk); (try clear hi); (try clear ho0); obtain ⟨Ao21, co21, eo21⟩ := Kd.R_slice HO175.out; subst eo21; obtain ⟨Ao22, co22, eo22⟩ := Kd.R_slice HO178.out; subst eo22) | ((with_reducible refine gate_callee (f := 29) rfl ?_); refine gl_ (some 39) (Try.func29) #[.int .i64 a0, .slice Ao21 t173.length co21, .slice Ao22 t176.length co22] ?_; (with_reducible refine (impl_JumpsIn.calls k a0 _ _ t173 _ _ t176 t179 t180 _ ?side1 ?side2 ?side3 ?side4 A12.out).mono ?_); (case side1 => repeat (first | exact (Kd.R_reads' HO175.out).2.2 | (with_reducible refine Kd.C_alloc ?_ _) | (with_reducible refine Kd.C_drewN ?_ _) | (with_reducible refine Kd.C_drew ?_))); (case side2 => exact (Kd.R_reads' HO175.out).2.1); (case side3 => repeat (first | exact (Kd.R_reads' HO178.out).2.2 | (with_reducible refine Kd.C_alloc ?_ _) | (with_reducible refine Kd.C_drewN ?_ _) | (with_reducible refine Kd.C_drew ?_))); (case side4 => exact (Kd.R_reads' HO178.out).2.1); rintro e w23 ⟨rfl, hb⟩; refine ⟨_, rfl, ?_⟩; have n0_ := Aside0.mk (Kd.R_below (lR HO167.out) hb); have n1_ := Aside0.mk (Kd.R_below (lR HO170.out) hb); have n2_ := Aside0.mk (Kd.R_below (lR HO175.out) hb); have n3_ := Aside0.mk (Kd.R_below (lR HO178.out) hb); have n4_ := Aside0.mk (below_step lB hb); clear HO167; clear HO170; clear HO175; clear HO178; clear HB; have HO167 := n0_; have HO170 := n1_; have HO175 := n2_; have HO178 := n3_; have HB := n4_; clear n0_ n1_ n2_ n3_ n4_; (try clear hb); (try clear hb2); (try clear hk); (try clear hi)))
   (try simp only [Act.put, List.setIfInBounds_toArray, List.set_cons_zero, List.set_cons_succ])
   go_cut [49] (fun v49 wc => ∃ (kq : Nat) (x49_12 : Bool), v49 = .bool x49_12 ∧ Aside0 (laws_FnExactJumpsIn.j0 kq l1 l2 t173 t176 x49_12 = some r) ∧ Aside0 (kq ≤ k) ∧ Aside0 (Kd.R k48 48 wc w.heap.size (fun _ => True) (.slice Ao21 t173.length co21) t173) ∧ Aside0 (Kd.R (Kd.int .i64) 3 wc w.heap.size (fun _ => True) (.slice Ao22 t176.length co22) t176) ∧ Aside0 (Below w.heap.size w wc))
   case first =>
    have H := HC13.out
    clear HC13
    by_cases c24 : t179 = t171
    ·rw [if_pos c24] at H
     have c24b0 : (t179 == t171) = true := beq_iff_eq.mpr c24
     have c24b1 : (t179 != t171) = false := bne_eq_false_iff_eq.mpr c24
     clear c24
     (first | rw [c24b0] | (simp only [i64_w, i32_w]; rw [c24b0]) | skip)
     have H' := Aside0.mk H
     clear H
     go_wp2
     go_meet
     case rel => exact ⟨_, ((t180 != t172)), lF, H', ⟨lN⟩, ⟨by (with_reducible repeat (first | apply Kd.R_alloc | apply Kd.R_drewN | apply Kd.R_drew)); exact Kd.R_mono HO175.out (fun _ hk => trivial)⟩, ⟨by (with_reducible repeat (first | apply Kd.R_alloc | apply Kd.R_drewN | apply Kd.R_drew)); exact Kd.R_mono HO178.out (fun _ hk => trivial)⟩, ⟨lB⟩⟩
    ·rw [if_neg c24] at H
     have c24b0 : (t179 == t171) = false := beq_eq_false_iff_ne.mpr c24
     have c24b1 : (t179 != t171) = true := bne_iff_ne.mpr c24
     (first | rw [c24b0] | (simp only [i64_w, i32_w]; rw [c24b0]) | skip)
     have H' := Aside0.mk H
     clear H
     go_wp2
     go_meet
     case rel => exact ⟨_, (true), lF, H', ⟨lN⟩, ⟨by (with_reducible repeat (first | apply Kd.R_alloc | apply Kd.R_drewN | apply Kd.R_drew)); exact Kd.R_mono HO175.out (fun _ hk => trivial)⟩, ⟨by (with_reducible repeat (first | apply Kd.R_alloc | apply Kd.R_drewN | apply Kd.R_drew)); exact Kd.R_mono HO178.out (fun _ hk => trivial)⟩, ⟨lB⟩⟩
   case rest =>
    clear HC13
    try clear c1
    try clear c2
    try clear p2
    try clear c4
    try clear c4b0
    try clear c4b1
    try clear c6
    try clear c6b0
    try clear c11
    try clear c13
    try clear c24
    try clear c24b0
    try clear c24b1
    obtain ⟨kq, x49_12, rfl, HA, HJ12, HO_10, HO_11, HB⟩ := hcut
    cases kq with
    | zero => exact absurd HA.out (by simp [laws_FnExactJumpsIn.j0])
    | succ kj12 =>
     have H := HA.out
     clear HA
     simp only [laws_FnExactJumpsIn.j0] at H
     by_cases c25 : x49_12 = true
     ·subst c25
      rw [if_pos rfl] at H
      obtain rfl := Option.some.inj H
      first | (go_wp2; go_ret; exact ⟨lE, lB⟩) | (exfalso; simp only [decide_eq_false_iff_not, decide_eq_true_eq] at *; omega)
     ·replace c25 := Bool.eq_false_iff.mpr c25
      subst c25
      rw [if_neg (show ¬ (false = true) by decide)] at H
      replace H := lO H
      obtain ⟨t181, A26, H⟩ := H
      replace H := lO H
      obtain ⟨t184, A27, H⟩ := H
      by_cases c28 : t184 = true
      ·subst c28
       rw [if_pos rfl] at H
       replace H := lO H
       obtain ⟨t185, A29, H⟩ := H
       replace H := lO H
       obtain ⟨t188, A30, H⟩ := H
       by_cases c31 : t188 = true
       ·subst c31
        rw [if_pos rfl] at H
        obtain rfl := Option.some.inj H
        go_wp2_with (first | ((with_reducible refine gate_callee (f := 13) rfl ?_); refine gl_ (some 52) (Try.func13) #[.slice A1 l1.length c1] ?_; (with_reducible refine (laws_toEdgeS.calls kj12 _ _ l1 t181 _ ?side1 ?side2 A26.out).mono ?_); (case side1 => exact lC (Kd.C_below HR1.out HB.out)); (case side2 => exact HC1.out); rintro e w32 ⟨v182, rfl, ho0, hb⟩; refine ⟨_, rfl, ?_⟩; have n0_ := Aside0.mk (Kd.R_elder' (lR HO_10.out) (Kd.R_base ho0) hb); have n1_ := Aside0.mk (Kd.R_below (lR HO_11.out) hb); have n2_ := Aside0.mk (Kd.R_lower (Kd.R_new' ho0 (Kd.R_lt (lR HO_10.out))) (below_size lB)); have n3_ := Aside0.mk (below_step lB hb); clear HO_10; clear HO_11; clear HB; have HO_10 := n0_; have HO_11 := n1_; have HO183 := n2_; have HB := n3_; clear n0_ n1_ n2_ n3_; (try clear hb); (try clear hb2); (try clear hk); (try clear hi); (try clear ho0); obtain ⟨Ao33, co33, eo33⟩ := Kd.R_slice HO183.out; subst eo33) | ((with_reducible refine gate_callee (f := 16) rfl ?_); refine gl_ (some 53) (Try.func16) #[.slice Ao21 t173.length co21, .slice Ao33 t181.length co33] ?_; (with_reducible refine (laws_eqEdgeS.calls kj12 _ _ t173 _ _ t181 true _ ?side1 ?side2 ?side3 ?side4 A27.out).mono ?_); (case side1 => repeat (first | exact (Kd.R_reads' HO_10.out).2.2 | (with_reducible refine Kd.C_alloc ?_ _) | (with_reducible refine Kd.C_drewN ?_ _) | (with_reducible refine Kd.C_drew ?_))); (case side2 => exact (Kd.R_reads' HO_10.out).2.1); (case side3 => repeat (first | exact (Kd.R_reads' HO183.out).2.2 | (with_reducible refine Kd.C_alloc ?_ _) | (with_reducible refine Kd.C_drewN ?_ _) | (with_reducible refine Kd.C_drew ?_))); (case side4 => exact (Kd.R_reads' HO183.out).2.1); rintro e w34 ⟨rfl, hb⟩; refine ⟨_, rfl, ?_⟩; have n0_ := Aside0.mk (Kd.R_below (lR HO_10.out) hb); have n1_ := Aside0.mk (Kd.R_below (lR HO_11.out) hb); have n2_ := Aside0.mk (Kd.R_below (lR HO183.out) hb); have n3_ := Aside0.mk (below_step lB hb); clear HO_10; clear HO_11; clear HO183; clear HB; have HO_10 := n0_; have HO_11 := n1_; have HO183 := n2_; have HB := n3_; clear n0_ n1_ n2_ n3_; (try clear hb); (try clear hb2); (try clear hk); (try clear hi)) | ((with_reducible refine gate_callee (f := 26) rfl ?_); refine gl_ (some 57) (Try.func26) #[.slice A2 l2.length c2] ?_; (with_reducible refine (laws_toIntS.calls kj12 _ _ l2 t185 _ ?side1 ?side2 A29.out).mono ?_); (case side1 => exact lC (Kd.C_below HR2.out HB.out)); (case side2 => exact HC2.out); rintro e w35 ⟨v186, rfl, ho0, hb⟩; refine ⟨_, rfl, ?_⟩; have n0_ := Aside0.mk (Kd.R_below (lR HO_10.out) hb); have n1_ := Aside0.mk (Kd.R_elder' (lR HO_11.out) (Kd.R_base ho0) hb); have n2_ := Aside0.mk (Kd.R_below (lR HO183.out) hb); have n3_ := Aside0.mk (Kd.R_lower (Kd.R_new' ho0 (Kd.R_lt (lR HO_11.out))) (below_size lB)); have n4_ := Aside0.mk (below_step lB hb); clear HO_10; clear HO_11; clear HO183; clear HB; have HO_10 := n0_; have HO_11 := n1_; have HO183 := n2_; have HO187 := n3_; have HB := n4_; clear n0_ n1_ n2_ n3_ n4_; (try clear hb); (try clear hb2); (try clear hk); (try clear hi); (try clear ho0); obtain ⟨Ao36, co36, eo36⟩ := Kd.R_slice HO187.out; subst eo36) | ((with_reducible refine gate_callee (f := 22) rfl ?_); refine gl_ (some 58) (Try.func22) #[.slice Ao22 t176.length co22, .slice Ao36 t185.length co36] ?_; (with_reducible refine (laws_eqIntS.calls kj12 _ _ t176 _ _ t185 true _ ?side1 ?side2 ?side3 ?side4 A30.out).mono ?_); (case side1 => repeat (first | exact (Kd.R_reads' HO_11.out).2.2 | (with_reducible refine Kd.C_alloc ?_ _) | (with_reducible refine Kd.C_drewN ?_ _) | (with_reducible refine Kd.C_drew ?_))); (case side2 => exact (Kd.R_reads' HO_11.out).2.1); (case side3 => repeat (first | exact (Kd.R_reads' HO187.out).2.2 | (with_reducible refine Kd.C_alloc ?_ _) | (with_reducible refine Kd.C_drewN ?_ _) | (with_reducible refine Kd.C_drew ?_))); (case side4 => exact (Kd.R_reads' HO187.out).2.1); rintro e w' ⟨rfl, ⟨nd, rfl⟩⟩; refine ⟨_, rfl, ?_⟩))
        go_ret
        exact ⟨lE, lB⟩
       ·replace c31 := Bool.eq_false_iff.mpr c31
        subst c31
        rw [if_neg (show ¬ (false = true) by decide)] at H
        obtain rfl := Option.some.inj H
        go_wp2_with (first | ((with_reducible refine gate_callee (f := 13) rfl ?_); refine gl_ (some 52) (Try.func13) #[.slice A1 l1.length c1] ?_; (with_reducible refine (laws_toEdgeS.calls kj12 _ _ l1 t181 _ ?side1 ?side2 A26.out).mono ?_); (case side1 => exact lC (Kd.C_below HR1.out HB.out)); (case side2 => exact HC1.out); rintro e w37 ⟨v182, rfl, ho0, hb⟩; refine ⟨_, rfl, ?_⟩; have n0_ := Aside0.mk (Kd.R_elder' (lR HO_10.out) (Kd.R_base ho0) hb); have n1_ := Aside0.mk (Kd.R_below (lR HO_11.out) hb); have n2_ := Aside0.mk (Kd.R_lower (Kd.R_new' ho0 (Kd.R_lt (lR HO_10.out))) (below_size lB)); have n3_ := Aside0.mk (below_step lB hb); clear HO_10; clear HO_11; clear HB; have HO_10 := n0_; have HO_11 := n1_; have HO183 := n2_; have HB := n3_; clear n0_ n1_ n2_ n3_; (try clear hb); (try clear hb2); (try clear hk); (try clear hi); (try clear ho0); obtain ⟨Ao38, co38, eo38⟩ := Kd.R_slice HO183.out; subst eo38) | ((with_reducible refine gate_callee (f := 16) rfl ?_); refine gl_ (some 53) (Try.func16) #[.slice Ao21 t173.length co21, .slice Ao38 t181.length co38] ?_; (with_reducible refine (laws_eqEdgeS.calls kj12 _ _ t173 _ _ t181 true _ ?side1 ?side2 ?side3 ?side4 A27.out).mono ?_); (case side1 => repeat (first | exact (Kd.R_reads' HO_10.out).2.2 | (with_reducible refine Kd.C_alloc ?_ _) | (with_reducible refine Kd.C_drewN ?_ _) | (with_reducible refine Kd.C_drew ?_))); (case side2 => exact (Kd.R_reads' HO_10.out).2.1); (case side3 => repeat (first | exact (Kd.R_reads' HO183.out).2.2 | (with_reducible refine Kd.C_alloc ?_ _) | (with_reducible refine Kd.C_drewN ?_ _) | (with_reducible refine Kd.C_drew ?_))); (case side4 => exact (Kd.R_reads' HO183.out).2.1); rintro e w39 ⟨rfl, hb⟩; refine ⟨_, rfl, ?_⟩; have n0_ := Aside0.mk (Kd.R_below (lR HO_10.out) hb); have n1_ := Aside0.mk (Kd.R_below (lR HO_11.out) hb); have n2_ := Aside0.mk (Kd.R_below (lR HO183.out) hb); have n3_ := Aside0.mk (below_step lB hb); clear HO_10; clear HO_11; clear HO183; clear HB; have HO_10 := n0_; have HO_11 := n1_; have HO183 := n2_; have HB := n3_; clear n0_ n1_ n2_ n3_; (try clear hb); (try clear hb2); (try clear hk); (try clear hi)) | ((with_reducible refine gate_callee (f := 26) rfl ?_); refine gl_ (some 57) (Try.func26) #[.slice A2 l2.length c2] ?_; (with_reducible refine (laws_toIntS.calls kj12 _ _ l2 t185 _ ?side1 ?side2 A29.out).mono ?_); (case side1 => exact lC (Kd.C_below HR2.out HB.out)); (case side2 => exact HC2.out); rintro e w40 ⟨v186, rfl, ho0, hb⟩; refine ⟨_, rfl, ?_⟩; have n0_ := Aside0.mk (Kd.R_below (lR HO_10.out) hb); have n1_ := Aside0.mk (Kd.R_elder' (lR HO_11.out) (Kd.R_base ho0) hb); have n2_ := Aside0.mk (Kd.R_below (lR HO183.out) hb); have n3_ := Aside0.mk (Kd.R_lower (Kd.R_new' ho0 (Kd.R_lt (lR HO_11.out))) (below_size lB)); have n4_ := Aside0.mk (below_step lB hb); clear HO_10; clear HO_11; clear HO183; clear HB; have HO_10 := n0_; have HO_11 := n1_; have HO183 := n2_; have HO187 := n3_; have HB := n4_; clear n0_ n1_ n2_ n3_ n4_; (try clear hb); (try clear hb2); (try clear hk); (try clear hi); (try clear ho0); obtain ⟨Ao41, co41, eo41⟩ := Kd.R_slice HO187.out; subst eo41) | ((with_reducible refine gate_callee (f := 22) rfl ?_); refine gl_ (some 58) (Try.func22) #[.slice Ao22 t176.length co22, .slice Ao41 t185.length co41] ?_; (with_reducible refine (laws_eqIntS.calls kj12 _ _ t176 _ _ t185 false _ ?side1 ?side2 ?side3 ?side4 A30.out).mono ?_); (case side1 => repeat (first | exact (Kd.R_reads' HO_11.out).2.2 | (with_reducible refine Kd.C_alloc ?_ _) | (with_reducible refine Kd.C_drewN ?_ _) | (with_reducible refine Kd.C_drew ?_))); (case side2 => exact (Kd.R_reads' HO_11.out).2.1); (case side3 => repeat (first | exact (Kd.R_reads' HO187.out).2.2 | (with_reducible refine Kd.C_alloc ?_ _) | (with_reducible refine Kd.C_drewN ?_ _) | (with_reducible refine Kd.C_drew ?_))); (case side4 => exact (Kd.R_reads' HO187.out).2.1); rintro e w' ⟨rfl, ⟨nd, rfl⟩⟩; refine ⟨_, rfl, ?_⟩))
        go_ret
        exact ⟨lE, lB⟩
      ·replace c28 := Bool.eq_false_iff.mpr c28
       subst c28
       rw [if_neg (show ¬ (false = true) by decide)] at H
       obtain rfl := Option.some.inj H
       go_wp2_with (first | ((with_reducible refine gate_callee (f := 13) rfl ?_); refine gl_ (some 52) (Try.func13) #[.slice A1 l1.length c1] ?_; (with_reducible refine (laws_toEdgeS.calls kj12 _ _ l1 t181 _ ?side1 ?side2 A26.out).mono ?_); (case side1 => exact lC (Kd.C_below HR1.out HB.out)); (case side2 => exact HC1.out); rintro e w42 ⟨v182, rfl, ho0, hb⟩; refine ⟨_, rfl, ?_⟩; have n0_ := Aside0.mk (Kd.R_elder' (lR HO_10.out) (Kd.R_base ho0) hb); have n1_ := Aside0.mk (Kd.R_below (lR HO_11.out) hb); have n2_ := Aside0.mk (Kd.R_lower (Kd.R_new' ho0 (Kd.R_lt (lR HO_10.out))) (below_size lB)); have n3_ := Aside0.mk (below_step lB hb); clear HO_10; clear HO_11; clear HB; have HO_10 := n0_; have HO_11 := n1_; have HO183 := n2_; have HB := n3_; clear n0_ n1_ n2_ n3_; (try clear hb); (try clear hb2); (try clear hk); (try clear hi); (try clear ho0); obtain ⟨Ao43, co43, eo43⟩ := Kd.R_slice HO183.out; subst eo43) | ((with_reducible refine gate_callee (f := 16) rfl ?_); refine gl_ (some 53) (Try.func16) #[.slice Ao21 t173.length co21, .slice Ao43 t181.length co43] ?_; (with_reducible refine (laws_eqEdgeS.calls kj12 _ _ t173 _ _ t181 false _ ?side1 ?side2 ?side3 ?side4 A27.out).mono ?_); (case side1 => repeat (first | exact (Kd.R_reads' HO_10.out).2.2 | (with_reducible refine Kd.C_alloc ?_ _) | (with_reducible refine Kd.C_drewN ?_ _) | (with_reducible refine Kd.C_drew ?_))); (case side2 => exact (Kd.R_reads' HO_10.out).2.1); (case side3 => repeat (first | exact (Kd.R_reads' HO183.out).2.2 | (with_reducible refine Kd.C_alloc ?_ _) | (with_reducible refine Kd.C_drewN ?_ _) | (with_reducible refine Kd.C_drew ?_))); (case side4 => exact (Kd.R_reads' HO183.out).2.1); rintro e w44 ⟨rfl, hb⟩; refine ⟨_, rfl, ?_⟩; have n0_ := Aside0.mk (Kd.R_below (lR HO_10.out) hb); have n1_ := Aside0.mk (Kd.R_below (lR HO_11.out) hb); have n2_ := Aside0.mk (Kd.R_below (lR HO183.out) hb); have n3_ := Aside0.mk (below_step lB hb); clear HO_10; clear HO_11; clear HO183; clear HB; have HO_10 := n0_; have HO_11 := n1_; have HO183 := n2_; have HB := n3_; clear n0_ n1_ n2_ n3_; (try clear hb); (try clear hb2); (try clear hk); (try clear hi)))
       go_ret
       exact ⟨lE, lB⟩

end Go.Proofs.Ytpnhlccdhflogaa.Q
