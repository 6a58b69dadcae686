-- Written by the program wip/tools/pr.py of this claim's session, over the kit's print.py.
import Derived.Test.YtpnhlccdhflogaaQx0
import Derived.Test.YtpnhlccdhflogaaQx2
import Derived.Test.YtpnhlccdhflogaaQx3
namespace Go.Proofs.Ytpnhlccdhflogaa.Q
open Go.RowKit Go.Proofs.YtpnhlccdhflogaaW.PrintWords Go.Proofs.YtpnhlccdhflogaaW.PrintLast Go.Proofs.YtpnhlccdhflogaaW.PrintMore
attribute [local go_sem] max2_int min2_int max_two min_two max_three min_three max_four min_four   -- for this text's walks alone
set_option linter.unusedVariables false
set_option linter.unusedSimpArgs false

/-! ### spec_l1Has: function 62 -/
def spec_l1Has.l0 : Nat → Int → List Int → Int → Int → Option (Bool)
 | 0, _, _, _, _ => none
 | k + 1, x1, x7, x8, x9 => if x9 < x8 then (if 0 ≤ x9 then (if x9 < (x7.length : Int) then (if (rd x7 x9) = x1 then (some true) else (spec_l1Has.l0 k x1 x7 x8 (wrap64 (x9 + 1)))) else (none)) else (none)) else (some false)
def spec_l1Has.f (k : Nat) (l0 : List Int) (a1 : Int) : Option (Bool) := spec_l1Has.l0 k a1 l0 (l0.length : Int) 0
theorem spec_l1Has.mono_l : ∀ k, (∀ y0 y1 y2 y3, LeO (spec_l1Has.l0 k y0 y1 y2 y3) (spec_l1Has.l0 (k + 1) y0 y1 y2 y3))
 | 0 => fun _ _ _ _ r h => by simp [spec_l1Has.l0] at h
 | k + 1 => by
  have ih0 := spec_l1Has.mono_l k
  ·intro y0 y1 y2 y3
   unfold spec_l1Has.l0
   repeat' first
   | with_reducible apply ih0
   | (with_reducible exact LeO.refl _)
   | (with_reducible exact LeO.none _)
   | (with_reducible refine LeO.ite ?_ ?_)
   | (with_reducible refine LeO.bind ?_ (fun _ => ?_))
   | apply ih0
   | exact LeO.none _
   | refine LeO.ite ?_ ?_
   | refine LeO.bind ?_ (fun _ => ?_)
theorem spec_l1Has.mono : ∀ a0 a1 k, LeO (spec_l1Has.f k a0 a1) (spec_l1Has.f (k + 1) a0 a1) := by
 intro a0 a1 k
 have ih0 := spec_l1Has.mono_l k
 unfold spec_l1Has.f
 repeat' first
   | with_reducible apply ih0
   | (with_reducible exact LeO.refl _)
   | (with_reducible exact LeO.none _)
   | (with_reducible refine LeO.ite ?_ ?_)
   | (with_reducible refine LeO.bind ?_ (fun _ => ?_))
   | apply ih0
   | exact LeO.none _
   | refine LeO.ite ?_ ?_
   | refine LeO.bind ?_ (fun _ => ?_)
set_option maxHeartbeats 8000000 in
set_option maxRecDepth 100000 in
theorem spec_l1Has.calls (k : Nat) (A0 : Option Addr) (c0 : Nat) (l0 : List Int) (a1 : Int) (r : Bool) (w : World) (hr0 : Kd.C (Kd.int .i64) w A0 l0.length l0) (hc0 : l0.length ≤ c0) (h : spec_l1Has.f k l0 a1 = some r) :
  Calls Try.prog 62 #[.slice A0 l0.length c0, .int .i64 a1] w fun e w' => e = .returned (.bool r) ∧ Drawn0 w w' := by
 have HR0 := Aside0.mk hr0
 have HC0 := Aside0.mk hc0
 clear hr0 hc0
 have H : (spec_l1Has.l0 k a1 l0 (l0.length : Int) 0) = some r := h
 clear h
 have H' := Aside0.mk H
 clear H
 go_enter Try.func62, Try.ntmps62
 go_wp2
 go_loopg [9] k (fun kq v9 w' => ∃ (x9_1 : Int), v9 = .int .i64 x9_1 ∧ Aside0 (spec_l1Has.l0 kq a1 l0 (l0.length : Int) x9_1 = some r) ∧ Aside0 (kq ≤ k) ∧ Drawn0 w w')
 case atStart => exact ⟨(0), lF, H', ⟨Nat.le_refl _⟩, by repeat (first | exact Drawn0.refl _ | apply Drawn0.step)⟩
 case round =>
  clear H'
  try clear p2
  obtain ⟨x9_1, rfl, HA, HK1, ⟨m1, rfl⟩⟩ := hrel
  cases gk with
  | zero => exact absurd HA.out (by simp [spec_l1Has.l0])
  | succ k1 =>
   have H := HA.out
   clear HA
   simp only [spec_l1Has.l0] at H
   by_cases c3 : x9_1 < (l0.length : Int)
   ·rw [if_pos c3] at H
    have c3b0 : decide (x9_1 < (l0.length : Int)) = true := decide_eq_true c3
    clear c3
    by_cases c4 : 0 ≤ x9_1
    ·rw [if_pos c4] at H
     have c4b0 : decide (0 ≤ x9_1) = true := decide_eq_true c4
     clear c4
     by_cases c5 : x9_1 < (l0.length : Int)
     ·rw [if_pos c5] at H
      have c5b0 : decide (x9_1 < (l0.length : Int)) = true := decide_eq_true c5
      clear c5
      by_cases c6 : (rd l0 x9_1) = a1
      ·rw [if_pos c6] at H
       have c6b0 : ((rd l0 x9_1) == a1) = true := beq_iff_eq.mpr c6
       have c6b1 : ((rd l0 x9_1) != a1) = false := bne_eq_false_iff_eq.mpr c6
       clear c6
       obtain rfl := Option.some.inj H
       have p202 : 0 ≤ (x9_1 : Int) := lD
       have q202 : x9_1 < (l0.length : Int) := lD
       obtain ⟨ad202, e202, hx202_0⟩ := Kd.at_int HR0.out x9_1 p202 q202
       cases e202
       replace p202 := eq_true p202
       replace q202 := eq_true q202
       first | (go_wp2; go_ret; exact ⟨by first | rfl | (simp; done) | (simp [*]; done), by repeat (first | exact Drawn0.refl _ | apply Drawn0.step)⟩) | (exfalso; simp only [decide_eq_false_iff_not, decide_eq_true_eq] at *; omega)
      ·rw [if_neg c6] at H
       have c6b0 : ((rd l0 x9_1) == a1) = false := beq_eq_false_iff_ne.mpr c6
       have c6b1 : ((rd l0 x9_1) != a1) = true := bne_iff_ne.mpr c6
       have H' := Aside0.mk H
       clear H
       have p202 : 0 ≤ (x9_1 : Int) := lD
       have q202 : x9_1 < (l0.length : Int) := lD
       obtain ⟨ad202, e202, hx202_0⟩ := Kd.at_int HR0.out x9_1 p202 q202
       cases e202
       replace p202 := eq_true p202
       replace q202 := eq_true q202
       go_wp2
       go_roundg k1
       case measure => have := HK1.out; omega
       case rel => exact ⟨(wrap64 (x9_1 + 1)), lF, H', ⟨by have := HK1.out; omega⟩, by repeat (first | exact Drawn0.refl _ | apply Drawn0.step)⟩
     ·rw [if_neg c5] at H
      exact absurd H (by simp)
    ·rw [if_neg c4] at H
     exact absurd H (by simp)
   ·rw [if_neg c3] at H
    have c3b0 : decide (x9_1 < (l0.length : Int)) = false := decide_eq_false c3
    clear c3
    obtain rfl := Option.some.inj H
    first | (go_wp2; go_ret; exact ⟨by first | rfl | (simp; done) | (simp [*]; done), by repeat (first | exact Drawn0.refl _ | apply Drawn0.step)⟩) | (exfalso; simp only [decide_eq_false_iff_not, decide_eq_true_eq] at *; omega)

/-! ### spec_LayOut: function 20 -/
mutual
def spec_LayOut.l0 : Nat → List (S48) → List Int → List (List Int) → Option (List Int × Bool)
 | 0, _, _, _ => none
 | k + 1, x1, x7, x8 => if (x8.length : Int) > 0 then (spec_LayOut.l1 k x1 x7 x8 (-1) (-1) x8 (x8.length : Int) 0) else (some (x7, true))
def spec_LayOut.l1 : Nat → List (S48) → List Int → List (List Int) → Int → Int → List (List Int) → Int → Int → Option (List Int × Bool)
 | 0, _, _, _, _, _, _, _, _ => none
 | k + 1, x1, x7, x8, x9, x10, x33, x34, x35 => if x35 < x34 then (if 0 ≤ x35 then (if x35 < (x33.length : Int) then (spec_LayOut.l2 k x1 x7 x8 x9 x10 x35 (rd_L5 x33 x35) 0 x33 x34 x35 x1 (x1.length : Int) 0) else (none)) else (none)) else (if 0 ≤ x9 then (if x9 < (x8.length : Int) then (if x7.length + (rd_L5 x8 x9).length < 17592186044416 then ((some (([] : List (List Int)) : List (List Int))).bind fun y223 => (if x9 ≤ (x8.length : Int) then ((some (x8.take (x9 : Int).toNat : List (List Int))).bind fun y226 => (if y223.length + y226.length < 5864062014805 then ((some (y223 ++ y226 : List (List Int))).bind fun y231 => (if 0 ≤ (wrap64 (x9 + 1)) then (if (wrap64 (x9 + 1)) ≤ (x8.length : Int) then ((some (x8.drop ((wrap64 (x9 + 1)) : Int).toNat : List (List Int))).bind fun y234 => (if y231.length + y234.length < 5864062014805 then (spec_LayOut.l0 k x1 (x7 ++ (rd_L5 x8 x9)) (y231 ++ y234)) else (none))) else (none)) else (none))) else (none))) else (none))) else (none)) else (none)) else (none))
def spec_LayOut.l2 : Nat → List (S48) → List Int → List (List Int) → Int → Int → Int → List Int → Int → List (List Int) → Int → Int → List (S48) → Int → Int → Option (List Int × Bool)
 | 0, _, _, _, _, _, _, _, _, _, _, _, _, _, _ => none
 | k + 1, x1, x7, x8, x9, x10, x11, x12, x13, x33, x34, x35, x40, x41, x42 => if x42 < x41 then (if 0 ≤ x42 then (if x42 < (x40.length : Int) then ((spec_l1Has.f k x7 ((rd_T48 x40 x42).f0)).bind fun t245 => (if t245 = true then ((spec_l1Has.f k x12 ((rd_T48 x40 x42).f1)).bind fun t246 => (if t246 = true then (spec_LayOut.l2 k x1 x7 x8 x9 x10 x11 x12 (wrap64 (x13 + ((rd_T48 x40 x42).f2))) x33 x34 x35 x40 x41 (wrap64 (x42 + 1))) else (spec_LayOut.l2 k x1 x7 x8 x9 x10 x11 x12 x13 x33 x34 x35 x40 x41 (wrap64 (x42 + 1))))) else (spec_LayOut.l2 k x1 x7 x8 x9 x10 x11 x12 x13 x33 x34 x35 x40 x41 (wrap64 (x42 + 1))))) else (none)) else (none)) else (if x13 > x10 then (spec_LayOut.l1 k x1 x7 x8 x11 x13 x33 x34 (wrap64 (x35 + 1))) else (spec_LayOut.l1 k x1 x7 x8 x9 x10 x33 x34 (wrap64 (x35 + 1))))
end
def spec_LayOut.f (k : Nat) (a0 : Int) (l1 : List (S48)) : Option (List Int × Bool) := (spec_GoodEdges.f k a0 l1).bind fun t203 => (if t203 = true then ((spec_l11Chains.f k a0 l1).bind fun t204 => ((some (([] : List Int) : List Int)).bind fun y207 => (if 0 < (t204.length : Int) then (if y207.length + (rd_L5 t204 0).length < 17592186044416 then (if 1 ≤ (t204.length : Int) then (spec_LayOut.l0 k l1 (y207 ++ (rd_L5 t204 0)) (t204.drop 1)) else (none)) else (none)) else (none)))) else (some (([] : List Int), false)))
theorem spec_LayOut.mono_l : ∀ k, (∀ y0 y1 y2, LeO (spec_LayOut.l0 k y0 y1 y2) (spec_LayOut.l0 (k + 1) y0 y1 y2)) ∧ (∀ y0 y1 y2 y3 y4 y5 y6 y7, LeO (spec_LayOut.l1 k y0 y1 y2 y3 y4 y5 y6 y7) (spec_LayOut.l1 (k + 1) y0 y1 y2 y3 y4 y5 y6 y7)) ∧ (∀ y0 y1 y2 y3 y4 y5 y6 y7 y8 y9 y10 y11 y12 y13, LeO (spec_LayOut.l2 k y0 y1 y2 y3 y4 y5 y6 y7 y8 y9 y10 y11 y12 y13) (spec_LayOut.l2 (k + 1) y0 y1 y2 y3 y4 y5 y6 y7 y8 y9 y10 y11 y12 y13))
 | 0 => ⟨fun _ _ _ r h => by simp [spec_LayOut.l0] at h, fun _ _ _ _ _ _ _ _ r h => by simp [spec_LayOut.l1] at h, fun _ _ _ _ _ _ _ _ _ _ _ _ _ _ r h => by simp [spec_LayOut.l2] at h⟩
 | k + 1 => by
  obtain ⟨ih0, ih1, ih2⟩ := spec_LayOut.mono_l k
  refine ⟨?_, ?_, ?_⟩
  ·intro y0 y1 y2
   unfold spec_LayOut.l0
   repeat' first
   | with_reducible apply ih0
   | with_reducible apply ih1
   | with_reducible apply ih2
   | with_reducible apply spec_GoodEdges.mono
   | with_reducible apply spec_l11Chains.mono
   | with_reducible apply spec_l1Has.mono
   | (with_reducible exact LeO.refl _)
   | (with_reducible exact LeO.none _)
   | (with_reducible refine LeO.ite ?_ ?_)
   | (with_reducible refine LeO.bind ?_ (fun _ => ?_))
   | apply ih0
   | apply ih1
   | apply ih2
   | apply spec_GoodEdges.mono
   | apply spec_l11Chains.mono
   | apply spec_l1Has.mono
   | exact LeO.none _
   | refine LeO.ite ?_ ?_
   | refine LeO.bind ?_ (fun _ => ?_)
  ·intro y0 y1 y2 y3 y4 y5 y6 y7
   unfold spec_LayOut.l1
   repeat' first
   | with_reducible apply ih0
   | with_reducible apply ih1
   | with_reducible apply ih2
   | with_reducible apply spec_GoodEdges.mono
   | with_reducible apply spec_l11Chains.mono
   | with_reducible apply spec_l1Has.mono
   | (with_reducible exact LeO.refl _)
   | (with_reducible exact LeO.none _)
   | (with_reducible refine LeO.ite ?_ ?_)
   | (with_reducible refine LeO.bind ?_ (fun _ => ?_))
   | apply ih0
   | apply ih1
   | apply ih2
   | apply spec_GoodEdges.mono
   | apply spec_l11Chains.mono
   | apply spec_l1Has.mono
   | exact LeO.none _
   | refine LeO.ite ?_ ?_
   | refine LeO.bind ?_ (fun _ => ?_)
  ·intro y0 y1 y2 y3 y4 y5 y6 y7 y8 y9 y10 y11 y12 y13
   unfold spec_LayOut.l2
   repeat' first
   | with_reducible apply ih0
   | with_reducible apply ih1
   | with_reducible apply ih2
   | with_reducible apply spec_GoodEdges.mono
   | with_reducible apply spec_l11Chains.mono
   | with_reducible apply spec_l1Has.mono
   | (with_reducible exact LeO.refl _)
   | (with_reducible exact LeO.none _)
   | (with_reducible refine LeO.ite ?_ ?_)
   | (with_reducible refine LeO.bind ?_ (fun _ => ?_))
   | apply ih0
   | apply ih1
   | apply ih2
   | apply spec_GoodEdges.mono
   | apply spec_l11Chains.mono
   | apply spec_l1Has.mono
   | exact LeO.none _
   | refine LeO.ite ?_ ?_
   | refine LeO.bind ?_ (fun _ => ?_)
theorem spec_LayOut.mono : ∀ a0 a1 k, LeO (spec_LayOut.f k a0 a1) (spec_LayOut.f (k + 1) a0 a1) := by
 intro a0 a1 k
 obtain ⟨ih0, ih1, ih2⟩ := spec_LayOut.mono_l k
 unfold spec_LayOut.f
 repeat' first
   | with_reducible apply ih0
   | with_reducible apply ih1
   | with_reducible apply ih2
   | with_reducible apply spec_GoodEdges.mono
   | with_reducible apply spec_l11Chains.mono
   | with_reducible apply spec_l1Has.mono
   | (with_reducible exact LeO.refl _)
   | (with_reducible exact LeO.none _)
   | (with_reducible refine LeO.ite ?_ ?_)
   | (with_reducible refine LeO.bind ?_ (fun _ => ?_))
   | apply ih0
   | apply ih1
   | apply ih2
   | apply spec_GoodEdges.mono
   | apply spec_l11Chains.mono
   | apply spec_l1Has.mono
   | exact LeO.none _
   | refine LeO.ite ?_ ?_
   | refine LeO.bind ?_ (fun _ => ?_)
def spec_LayOut.T24 : Bool × List (List Nat × List Nat) := (true, [([], []), ([], []), ([], []), ([1, 2], [1, 2]), ([0, 3], [0, 3]), ([], []), ([], []), ([6], [6]), ([5, 7], [5, 7]), ([4, 8, 4], [4, 8]), ([9, 9, 0, 1, 2, 3, 4, 5, 6, 7, 8, 9], [1, 5, 9])])
def spec_LayOut.B24 : List Nat := [0, 0, 0, 6, 15, 0, 0, 64, 224, 511, 1023]
theorem spec_LayOut.tab24 : rtab .any (opsOf Try.f20 24) = spec_LayOut.T24 := by kernel_rfl
theorem spec_LayOut.bits24 : waitsOk spec_LayOut.T24.2 spec_LayOut.B24 = true := by kernel_rfl
set_option maxHeartbeats 8000000 in
set_option maxRecDepth 100000 in
theorem spec_LayOut.calls (k : Nat) (a0 : Int) (A1 : Option Addr) (c1 : Nat) (l1 : List (S48)) (r1 : List Int) (r2 : Bool) (w : World) (hr1 : Kd.C k48 w A1 l1.length l1) (hc1 : l1.length ≤ c1) (h : spec_LayOut.f k a0 l1 = some (r1, r2)) :
  Calls Try.prog 20 #[.int .i64 a0, .slice A1 l1.length c1] w fun e w' => ∃ v0_ : Value, e = .returned (.tuple #[v0_, .bool r2]) ∧ Kd.R (Kd.int .i64) 3 w' w.heap.size (fun _ => True) v0_ r1 ∧ Below w.heap.size w w' := by
 have hu48 := Try.underlying48
 have HR1 := Aside0.mk hr1
 have HC1 := Aside0.mk hc1
 clear hr1 hc1
 have HB := Aside0.mk (Below.refl w.heap.size w)
 have H : ((spec_GoodEdges.f k a0 l1).bind fun t203 => (if t203 = true then ((spec_l11Chains.f k a0 l1).bind fun t204 => ((some (([] : List Int) : List Int)).bind fun y207 => (if 0 < (t204.length : Int) then (if y207.length + (rd_L5 t204 0).length < 17592186044416 then (if 1 ≤ (t204.length : Int) then (spec_LayOut.l0 k l1 (y207 ++ (rd_L5 t204 0)) (t204.drop 1)) else (none)) else (none)) else (none)))) else (some (([] : List Int), false)))) = some (r1, r2) := h
 clear h
 replace H := lO H
 obtain ⟨t203, A3, H⟩ := H
 by_cases c4 : t203 = true
 ·subst c4
  rw [if_pos rfl] at H
  replace H := lO H
  obtain ⟨t204, A5, H⟩ := H
  obtain ⟨y207, hy207⟩ : ∃ y_ : List Int, y_ = (([] : List Int)) := ⟨_, rfl⟩
  replace H : (if 0 < (t204.length : Int) then (if y207.length + (rd_L5 t204 0).length < 17592186044416 then (if 1 ≤ (t204.length : Int) then (spec_LayOut.l0 k l1 (y207 ++ (rd_L5 t204 0)) (t204.drop 1)) else (none)) else (none)) else (none)) = some (r1, r2) := by first | (rw [hy207]; with_reducible exact H) | (have H2_ := (Option.bind_some _ _).symm.trans H; rw [hy207]; with_reducible exact H2_) | (have H2_ := (Option.bind_some _ _).symm.trans H; with_reducible exact H2_) | with_reducible exact H | (rw [hy207]; exact H) | exact H
  have Ny207 := Aside0.mk hy207
  clear hy207
  by_cases c6 : 0 < (t204.length : Int)
  ·rw [if_pos c6] at H
   have c6b0 : decide (0 < (t204.length : Int)) = true := decide_eq_true c6
   have c6b1 : decide (0 < t204.length) = true := decide_eq_true (by omega)
   clear c6
   by_cases c7 : y207.length + (rd_L5 t204 0).length < 17592186044416
   ·rw [if_pos c7] at H
    have LMc7 := Aside0.mk c7
    clear c7
    obtain ⟨y211, hy211⟩ : ∃ y_ : List Int, y_ = (y207 ++ (rd_L5 t204 0)) := ⟨_, rfl⟩
    replace H : (if 1 ≤ (t204.length : Int) then (spec_LayOut.l0 k l1 y211 (t204.drop 1)) else (none)) = some (r1, r2) := by first | (rw [hy211]; with_reducible exact H) | (have H2_ := (Option.bind_some _ _).symm.trans H; rw [hy211]; with_reducible exact H2_) | (have H2_ := (Option.bind_some _ _).symm.trans H; with_reducible exact H2_) | with_reducible exact H | (rw [hy211]; exact H) | exact H
    have Ny211 := Aside0.mk hy211
    clear hy211
    by_cases c8 : 1 ≤ (t204.length : Int)
    ·rw [if_pos c8] at H
     have c8b0 := eq_true c8
     have c8b1 : decide (1 ≤ (t204.length : Int)) = true := decide_eq_true c8
     clear c8
     obtain ⟨y214, hy214⟩ : ∃ y_ : List (List Int), y_ = (t204.drop 1) := ⟨_, rfl⟩
     replace H : (spec_LayOut.l0 k l1 y211 y214) = some (r1, r2) := by first | (rw [hy214]; with_reducible exact H) | (have H2_ := (Option.bind_some _ _).symm.trans H; rw [hy214]; with_reducible exact H2_) | (have H2_ := (Option.bind_some _ _).symm.trans H; with_reducible exact H2_) | with_reducible exact H | (rw [hy214]; exact H) | exact H
     have Ny214 := Aside0.mk hy214
     clear hy214
     have H' := Aside0.mk H
     clear H
     go_enter Try.func20, Try.ntmps20
     go_wp2_with (first | ((with_reducible refine gate_callee (f := 56) rfl ?_); refine gl_ (some 18) (Try.func56) #[.int .i64 a0, .slice A1 l1.length c1] ?_; (with_reducible refine (spec_GoodEdges.calls k a0 _ _ l1 true _ ?side1 ?side2 A3.out).mono ?_); (case side1 => repeat (first | exact HR1.out | (with_reducible refine Kd.C_alloc ?_ _) | (with_reducible refine Kd.C_drewN ?_ _) | (with_reducible refine Kd.C_drew ?_))); (case side2 => exact HC1.out); rintro e w9 ⟨rfl, hb⟩; refine ⟨_, rfl, ?_⟩; have n0_ := Aside0.mk (below_step lB hb); clear HB; have HB := n0_; clear n0_; (try clear hb); (try clear hb2); (try clear hk); (try clear hi)) | ((with_reducible refine gate_callee (f := 57) rfl ?_); refine gl_ (some 22) (Try.func57) #[.int .i64 a0, .slice A1 l1.length c1] ?_; (with_reducible refine (spec_l11Chains.calls k a0 _ _ l1 t204 _ ?side1 ?side2 A5.out).mono ?_); (case side1 => exact lC (Kd.C_below HR1.out HB.out)); (case side2 => exact HC1.out); rintro e w10 ⟨v205, rfl, ho0, hb⟩; refine ⟨_, rfl, ?_⟩; have n0_ := Aside0.mk (Kd.N_lower (Kd.N_mono (ok' := fun k_ => True) ho0 (fun k_ hk_ => trivial)) (below_size lB)); have n1_ := Aside0.mk (below_step lB hb); clear HB; have HO206 := n0_; have HB := n1_; clear n0_ n1_; (try clear hb); (try clear hb2); (try clear hk); (try clear hi); (try clear ho0)) | ((with_reducible refine gate_dst (N := 23) rfl ?_); refine Kd.R_lit (Kd.int .i64) _ 3 ?hg (N := 23) ?hd (xs := ([] : List Int)) (inner := []) (ok := fun _ => True) (okp := fun _ => True) ?hr ?hp (fun _ hk => hk) trivial (Below.refl _ _) (Nat.le_refl _) (by simp) ?_; (case hd => rfl); (case hg => rfl); (case hr => first | (go_simp; done) | (go_simp; rfl)); (case hp => exact (Reps.none _ _)); intro v208 w11 ho12 hb hg_ hnew_; clear hg_ hnew_; (first | rw [← Ny207.out] at ho12 | (simp only [Int.reduceToNat] at ho12; rw [← Ny207.out] at ho12)); have n0_ := Aside0.mk (Kd.N_elder' (by (with_reducible repeat (first | apply Kd.N_alloc | apply Kd.N_drewN | apply Kd.N_drew)); exact HO206.out) (Kd.R_base ho12) hb); have n1_ := Aside0.mk (Kd.R_lower ho12 (below_size lB)); have n2_ := Aside0.mk (below_step lB hb); clear HO206; clear HB; have HO206 := n0_; have HO209 := n1_; have HB := n2_; clear n0_ n1_ n2_; clear hb ho12; obtain ⟨Ao13, co13, eo13⟩ := Kd.N_slice HO206.out; subst eo13; have p210 : 0 ≤ (0 : Int) := (by omega); have q210 : 0 < (t204.length : Int) := lD; obtain ⟨ad210, A210_0, c210_0, e210, hx210_0, hl210_0, hi210_0⟩ := at_L5 (Kd.N_reads' HO206.out).2.2 0 p210 q210; cases e210; obtain ⟨ce210, hce210, hMe210, hcc210⟩ := Kd.N_get HO206.out [] 0 p210 (by first | exact q210 | exact lD | (have e_ := (Kd.N_reads' HO206.out).1; omega)); obtain ⟨ua210_0, uc210_0, rfl, ul210_0, ge210_0⟩ := Kd.FK_slice_open hMe210; have hv210_0 := hcc210 0 _ rfl; rw [Nat.add_zero, show ((Kd.slice 3 (Kd.int .i64))).sz = 1 from rfl, Nat.mul_one] at hv210_0; replace hv210_0 := Option.some.inj (hv210_0.symm.trans hx210_0); injection hv210_0 with hva_ hvn_ hvc_; rw [hva_] at ge210_0; rw [hvc_] at ul210_0; have HL210_0 := Aside0.mk (show Kd.V (Kd.int .i64) 3 _ w.heap.size _ _ (rd_L5 t204 0) from Kd.V_mk ul210_0 ge210_0); clear hva_ hvn_ hvc_ ge210_0 ul210_0; clear hcc210 hce210; have qi210 : (0 < t204.length) = True := eq_true (by omega); (try rw [show ((0 : Int)).toNat = 0 from rfl] at hx210_0); (try rw [Addr.add_zero'] at hx210_0); have HR210_0 := Aside0.mk hi210_0; have HC210_0 := Aside0.mk hl210_0; clear hi210_0 hl210_0; replace p210 := eq_true p210; replace q210 := eq_true q210) | ((with_reducible refine gate_builtin (b := .append) (xs := #[.tmp 23, .tmp 26]) rfl ?_); at_builtin; refine Kd.R_append_rows (Kd.int .i64) (w0 := w) w.heap.size rfl (.tmp 23) (.tmp 26) 34 3 (.int .i64 0) 8 rfl Try.underlying34 info3 rfl (by decide) (by omega) v208 y207 (rd_L5 t204 0) _ _ _ (fun _ => True) (fun _ => False) rfl rfl ?aO ?aR (fun _ _ h => h) (fun _ h => h.elim) ?aF ?aB ?aS ?aL ?_; (case aR => repeat (first | exact (by repeat (first | (with_reducible exact HR210_0.out) | (with_reducible refine Kd.C_alloc ?_ _) | (with_reducible refine Kd.C_drewN ?_ _) | (with_reducible refine Kd.C_drew ?_) | exact HR210_0.out | exact (Kd.V_reads' HL210_0.out).2.2)) | (with_reducible refine Kd.C_alloc ?_ _) | (with_reducible refine Kd.C_drewN ?_ _) | (with_reducible refine Kd.C_drew ?_))); (case aB => exact lB); (case aF => exact (fun _ _ => trivial)); (case aO => exact (lR HO209.out)); (case aS => exact (below_size lB)); (case aL => have := LMc7.out; omega); intro v212 w14 ho hb hg hat; rw [← Ny211.out] at ho; have n0_ := Aside0.mk (Kd.N_afterv (ok := (fun _ => True)) (by (with_reducible repeat (first | apply Kd.N_alloc | apply Kd.N_drewN | apply Kd.N_drew)); exact HO206.out) hg hat); have n1_ := Aside0.mk (Kd.V_afterv (ok := (fun k_ => some k_ ≠ (.slice (some ad210) t204.length co13 : Value).ownBlock)) (by (with_reducible repeat (first | apply Kd.V_alloc | apply Kd.V_drewN | apply Kd.V_drew)); exact Kd.V_mono HL210_0.out (fun _ hk => ⟨hk.2, hk.1.2⟩)) hg hat); have n2_ := Aside0.mk (hb); have n3_ := Aside0.mk (ho); clear HO206; clear HL210_0; clear HB; clear HO209; have HO206 := n0_; have HL210_0 := n1_; have HB := n2_; have HO213 := n3_; clear n0_ n1_ n2_ n3_; clear ho hb hg hat; have q15 : (1 : Int) ≤ ((t204.length : Int) : Int) := lD; obtain ⟨i015, hi015, _, hsz15, _⟩ := info_parts info34; have hroom15 : t204.length ≤ co13 := (Kd.N_reads' HO206.out).2.1; have hC15 : Kd.F (Kd.slice 3 (Kd.int .i64)) _ _ (some ad210) t204.length t204 := (Kd.V_at (base := w.heap.size) (Kd.N_V HO206.out)).2.2; have hcut15 := cut_from (P := Try.prog) 24 34 .i64 Try.underlying24 hi015 1 hsz15 (some ad210) t204.length co13 1 (by omega) q15; have hr15 := Kd.F_cut (m := (1 : Int).toNat) (c := co13) hC15 (by omega) hroom15; obtain ⟨A15, hA15⟩ : ∃ A1, A1 = (if co13 = (1 : Int).toNat then (some ad210) else ((some ad210) : Option Addr).map (·.add ((1 : Int).toNat * 1))) := ⟨_, rfl⟩; obtain ⟨c15, hc15⟩ : ∃ c1, c1 = co13 - (1 : Int).toNat := ⟨_, rfl⟩; have hy15 : y214.length = t204.length - (1 : Int).toNat := (by rw [Ny214.out, List.length_drop] <;> omega); rw [show (t204).drop (1 : Int).toNat = y214 from Ny214.out.symm] at hr15; replace hr15 : Kd.F (Kd.slice 3 (Kd.int .i64)) _ _ A15 y214.length y214 := (by rw [hA15]; exact hr15); rw [← hy15, ← hA15, ← hc15] at hcut15; have HO218 := Aside0.mk (show Kd.V (Kd.slice 3 (Kd.int .i64)) 34 _ w.heap.size _ (.slice A15 y214.length c15) y214 from Kd.V_mk (by rw [hy15, hc15]; exact Nat.sub_le_sub_right hroom15 _) hr15); have HC218 := Aside0.mk (show y214.length ≤ c15 from by rw [hy15, hc15]; exact Nat.sub_le_sub_right hroom15 _); clear hr15 hC15 hroom15 hi015 hsz15 hc15; have KY15 := Aside0.mk hy15; have KA15 := Aside0.mk hA15; clear hy15 hA15; replace q15 := eq_true q15))
     go_loopg [7, 8] k (fun kq v7 v8 w' => ∃ (x7_1 : List Int) (x8_1 : List (List Int)), Aside0 (spec_LayOut.l0 kq l1 x7_1 x8_1 = some (r1, r2)) ∧ Aside0 (kq ≤ k) ∧ Aside0 (Kd.R (Kd.int .i64) 3 w' w.heap.size (fun _ => True) v7 x7_1) ∧ Aside0 (Kd.V (Kd.slice 3 (Kd.int .i64)) 34 w' w.heap.size (fun k_ => some k_ ≠ (v7 : Value).ownBlock) v8 x8_1) ∧ Aside0 (Below w.heap.size w w'))
     case atStart => exact ⟨(y211), (y214), H', ⟨Nat.le_refl _⟩, ⟨lR HO213.out⟩, ⟨by (with_reducible repeat (first | apply Kd.V_alloc | apply Kd.V_drewN | apply Kd.V_drew)); exact Kd.V_mono HO218.out (fun _ hk => hk.2)⟩, ⟨lB⟩⟩
     case round =>
      clear H'
      try clear c1
      try clear q1
      try clear c2
      try clear p2
      try clear q2
      try clear hx2
      try clear qi2
      try clear c4
      try clear c5
      try clear c6
      try clear c6b0
      try clear c6b1
      try clear c7
      try clear c8
      try clear c8b0
      try clear c8b1
      try clear c15
      try clear q15
      try clear hx210_0
      try clear p210
      try clear q15
      try clear q210
      obtain ⟨x7_1, x8_1, HA, HK1, HO_7, HO_8, HB⟩ := hrel
      cases gk with
      | zero => exact absurd HA.out (by simp [spec_LayOut.l0])
      | succ k1 =>
       have H := HA.out
       clear HA
       simp only [spec_LayOut.l0] at H
       by_cases c16 : (x8_1.length : Int) > 0
       ·rw [if_pos c16] at H
        have c16b0 : decide (0 < (x8_1.length : Int)) = true := decide_eq_true c16
        have c16b1 : decide (0 < x8_1.length) = true := decide_eq_true (by omega)
        clear c16
        have H' := Aside0.mk H
        clear H
        obtain ⟨Ao17, co17, eo17⟩ := Kd.V_slice HO_8.out
        subst eo17
        go_wp2
        go_loopg [9, 10, 35] k1 (fun kq v9 v10 v35 w' => ∃ (x9_2 : Int) (x10_2 : Int) (x35_2 : Int), v9 = .int .i64 x9_2 ∧ v10 = .int .i64 x10_2 ∧ v35 = .int .i64 x35_2 ∧ Aside0 (spec_LayOut.l1 kq l1 x7_1 x8_1 x9_2 x10_2 x8_1 (x8_1.length : Int) x35_2 = some (r1, r2)) ∧ Aside0 (kq ≤ k1) ∧ Aside0 (Kd.R (Kd.int .i64) 3 w' w.heap.size (fun _ => True) u7 x7_1) ∧ Aside0 (Kd.V (Kd.slice 3 (Kd.int .i64)) 34 w' w.heap.size (fun k_ => some k_ ≠ (u7 : Value).ownBlock) (.slice Ao17 x8_1.length co17) x8_1) ∧ Aside0 (Kd.V (Kd.slice 3 (Kd.int .i64)) 34 w' w.heap.size (fun k_ => some k_ ≠ (u7 : Value).ownBlock) (.slice Ao17 x8_1.length co17) x8_1) ∧ Aside0 (Below w.heap.size w w'))
        case atStart => exact ⟨((-1)), ((-1)), (0), lF, lF, lF, H', ⟨Nat.le_refl _⟩, ⟨lR HO_7.out⟩, ⟨by (with_reducible repeat (first | apply Kd.V_alloc | apply Kd.V_drewN | apply Kd.V_drew)); exact HO_8.out⟩, ⟨by (with_reducible repeat (first | apply Kd.V_alloc | apply Kd.V_drewN | apply Kd.V_drew)); exact HO_8.out⟩, ⟨lB⟩⟩
        case round =>
         clear H'
         try clear c1
         try clear q1
         try clear c2
         try clear p2
         try clear q2
         try clear hx2
         try clear qi2
         try clear c4
         try clear c5
         try clear c6
         try clear c6b0
         try clear c6b1
         try clear c7
         try clear c8
         try clear c8b0
         try clear c8b1
         try clear c15
         try clear q15
         try clear c16
         try clear c16b0
         try clear c16b1
         try clear hx210_0
         try clear p2
         try clear p210
         try clear q1
         try clear q15
         try clear q2
         try clear q210
         obtain ⟨x9_2, x10_2, x35_2, rfl, rfl, rfl, HA, HK2, HO_7, HO_8, HO_33, HB⟩ := hrel
         cases gk with
         | zero => exact absurd HA.out (by simp [spec_LayOut.l1])
         | succ k2 =>
          have H := HA.out
          clear HA
          simp only [spec_LayOut.l1] at H
          by_cases c18 : x35_2 < (x8_1.length : Int)
          ·rw [if_pos c18] at H
           have c18b0 : decide (x35_2 < (x8_1.length : Int)) = true := decide_eq_true c18
           clear c18
           by_cases c19 : 0 ≤ x35_2
           ·rw [if_pos c19] at H
            have c19b0 : decide (0 ≤ x35_2) = true := decide_eq_true c19
            clear c19
            by_cases c20 : x35_2 < (x8_1.length : Int)
            ·rw [if_pos c20] at H
             have c20b0 : decide (x35_2 < (x8_1.length : Int)) = true := decide_eq_true c20
             clear c20
             have H' := Aside0.mk H
             clear H
             have p242 : 0 ≤ (x35_2 : Int) := lD
             have q242 : x35_2 < (x8_1.length : Int) := lD
             obtain ⟨ad242, A242_0, c242_0, e242, hx242_0, hl242_0, hi242_0⟩ := at_L5 (Kd.V_reads' HO_33.out).2.2 x35_2 p242 q242
             cases e242
             obtain ⟨ce242, hce242, hMe242, hcc242⟩ := Kd.V_get HO_33.out [] x35_2 p242 (by first | exact q242 | exact lD | (have e_ := (Kd.V_reads' HO_33.out).1; omega))
             obtain ⟨ua242_0, uc242_0, rfl, ul242_0, ge242_0⟩ := Kd.FK_slice_open hMe242
             have hv242_0 := hcc242 0 _ rfl
             rw [Nat.add_zero, show ((Kd.slice 3 (Kd.int .i64))).sz = 1 from rfl, Nat.mul_one] at hv242_0
             replace hv242_0 := Option.some.inj (hv242_0.symm.trans hx242_0)
             injection hv242_0 with hva_ hvn_ hvc_
             rw [hva_] at ge242_0
             rw [hvc_] at ul242_0
             have HL242_0 := Aside0.mk (show Kd.V (Kd.int .i64) 3 _ w.heap.size _ _ (rd_L5 x8_1 x35_2) from Kd.V_mk ul242_0 ge242_0)
             clear hva_ hvn_ hvc_ ge242_0 ul242_0
             clear hcc242 hce242
             have HR242_0 := Aside0.mk hi242_0
             have HC242_0 := Aside0.mk hl242_0
             clear hi242_0 hl242_0
             replace p242 := eq_true p242
             replace q242 := eq_true q242
             go_wp2
             go_loopg [13, 42] k2 (fun kq v13 v42 w' => ∃ (x13_3 : Int) (x42_3 : Int), v13 = .int .i64 x13_3 ∧ v42 = .int .i64 x42_3 ∧ Aside0 (spec_LayOut.l2 kq l1 x7_1 x8_1 x9_2 x10_2 x35_2 (rd_L5 x8_1 x35_2) x13_3 x8_1 (x8_1.length : Int) x35_2 l1 (l1.length : Int) x42_3 = some (r1, r2)) ∧ Aside0 (kq ≤ k2) ∧ Aside0 (Kd.R (Kd.int .i64) 3 w' w.heap.size (fun _ => True) u7 x7_1) ∧ Aside0 (Kd.V (Kd.slice 3 (Kd.int .i64)) 34 w' w.heap.size (fun k_ => some k_ ≠ (u7 : Value).ownBlock) (.slice (some ad242) x8_1.length co17) x8_1) ∧ Aside0 (Kd.V (Kd.slice 3 (Kd.int .i64)) 34 w' w.heap.size (fun k_ => some k_ ≠ (u7 : Value).ownBlock) (.slice (some ad242) x8_1.length co17) x8_1) ∧ Aside0 (Kd.C (Kd.int .i64) w' A242_0 (rd_L5 x8_1 x35_2).length (rd_L5 x8_1 x35_2)) ∧ Aside0 (Below w.heap.size w w'))
             case atStart => exact ⟨(0), (0), lF, lF, H', ⟨Nat.le_refl _⟩, ⟨lR HO_7.out⟩, ⟨by (with_reducible repeat (first | apply Kd.V_alloc | apply Kd.V_drewN | apply Kd.V_drew)); exact HO_8.out⟩, ⟨by (with_reducible repeat (first | apply Kd.V_alloc | apply Kd.V_drewN | apply Kd.V_drew)); exact HO_33.out⟩, ⟨by repeat (first | (with_reducible exact HR242_0.out) | (with_reducible refine Kd.C_alloc ?_ _) | (with_reducible refine Kd.C_drewN ?_ _) | (with_reducible refine Kd.C_drew ?_) | exact HR242_0.out)⟩, ⟨lB⟩⟩
             case round =>
              clear H'
              try clear c1
              try clear q1
              try clear c2
              try clear p2
              try clear q2
              try clear hx2
              try clear qi2
              try clear c4
              try clear c5
              try clear c6
              try clear c6b0
              try clear c6b1
              try clear c7
              try clear c8
              try clear c8b0
              try clear c8b1
              try clear c15
              try clear q15
              try clear c16
              try clear c16b0
              try clear c16b1
              try clear c18
              try clear c18b0
              try clear c19
              try clear c19b0
              try clear c20
              try clear c20b0
              try clear hx210_0
              try clear hx242_0
              try clear p2
              try clear p210
              try clear p242
              try clear q1
              try clear q15
              try clear q2
              try clear q210
              try clear q242
              obtain ⟨x13_3, x42_3, rfl, rfl, HA, HK3, HO_7, HO_8, HO_33, HR242_0, HB⟩ := hrel
              cases gk with
              | zero => exact absurd HA.out (by simp [spec_LayOut.l2])
              | succ k3 =>
               have H := HA.out
               clear HA
               simp only [spec_LayOut.l2] at H
               by_cases c21 : x42_3 < (l1.length : Int)
               ·rw [if_pos c21] at H
                have c21b0 : decide (x42_3 < (l1.length : Int)) = true := decide_eq_true c21
                clear c21
                by_cases c22 : 0 ≤ x42_3
                ·rw [if_pos c22] at H
                 have c22b0 : decide (0 ≤ x42_3) = true := decide_eq_true c22
                 clear c22
                 by_cases c23 : x42_3 < (l1.length : Int)
                 ·rw [if_pos c23] at H
                  have c23b0 : decide (x42_3 < (l1.length : Int)) = true := decide_eq_true c23
                  clear c23
                  replace H := lO H
                  obtain ⟨t245, A24, H⟩ := H
                  by_cases c25 : t245 = true
                  ·subst c25
                   rw [if_pos rfl] at H
                   replace H := lO H
                   obtain ⟨t246, A26, H⟩ := H
                   by_cases c27 : t246 = true
                   ·subst c27
                    rw [if_pos rfl] at H
                    have H' := Aside0.mk H
                    clear H
                    have p243 : 0 ≤ (x42_3 : Int) := lD
                    have q243 : x42_3 < (l1.length : Int) := lD
                    obtain ⟨ad243, e243, hx243_0, hx243_1, hx243_2⟩ := at_T48 HR1.out x42_3 p243 q243
                    cases e243
                    replace hx243_0 := pw_cell_below HB.out hx243_0
                    replace hx243_1 := pw_cell_below HB.out hx243_1
                    replace hx243_2 := pw_cell_below HB.out hx243_2
                    replace p243 := eq_true p243
                    replace q243 := eq_true q243
                    go_wp2_with (first | ((with_reducible refine gate_dst (N := 15) rfl ?_); refine bxe 15 #[.int .i64 0, .int .i64 0, .int .i64 0] 48 ?_; intro gb244 hg w28 hbox hb; have n0_ := Aside0.mk (Kd.R_below (lR HO_7.out) hb); have n1_ := Aside0.mk (Kd.V_below (Kd.V_elderB (by (with_reducible repeat (first | apply Kd.V_alloc | apply Kd.V_drewN | apply Kd.V_drew)); exact HO_8.out) gb244 (Nat.le_of_eq hg.symm)) hb); have n2_ := Aside0.mk (Kd.V_below (Kd.V_elderB (by (with_reducible repeat (first | apply Kd.V_alloc | apply Kd.V_drewN | apply Kd.V_drew)); exact HO_33.out) gb244 (Nat.le_of_eq hg.symm)) hb); have n3_ := Aside0.mk (Kd.C_below (by repeat (first | (with_reducible exact HR242_0.out) | (with_reducible refine Kd.C_alloc ?_ _) | (with_reducible refine Kd.C_drewN ?_ _) | (with_reducible refine Kd.C_drew ?_) | exact HR242_0.out)) hb); have n4_ := Aside0.mk (below_step lB hb); have n5_ := Aside0.mk (hbox); have n6_ := lG w hg; have n7_ := lG w hg; have n8_ := Aside0.mk ((show ∀ u0_ u1_ u2_ : Value, Kd.C (Kd.int .i64) (((w28.setCell ⟨gb244, 0, none⟩ u0_).setCell ⟨gb244, 1, none⟩ u1_).setCell ⟨gb244, 2, none⟩ u2_) A242_0 (rd_L5 x8_1 x35_2).length (rd_L5 x8_1 x35_2) from fun _ _ _ => Kd.C_below (by repeat (first | (with_reducible exact HR242_0.out) | (with_reducible refine Kd.C_alloc ?_ _) | (with_reducible refine Kd.C_drewN ?_ _) | (with_reducible refine Kd.C_drew ?_) | exact HR242_0.out)) (below_set (below_set (below_set hb (Nat.le_of_eq hg.symm)) (Nat.le_of_eq hg.symm)) (Nat.le_of_eq hg.symm)))); clear HO_7; clear HO_8; clear HO_33; clear HR242_0; clear HB; have HO_7 := n0_; have HO_8 := n1_; have HO_33 := n2_; have HR242_0 := n3_; have HB := n4_; have BK244 := n5_; have GW244 := n6_; have GE244 := n7_; have HS244_HR242_0 := n8_; clear n0_ n1_ n2_ n3_ n4_ n5_ n6_ n7_ n8_; clear hb hbox hg; obtain ⟨hcz29_0, hfz29_0, hcz29_1, hfz29_1, hcz29_2, hfz29_2⟩ := bk3 BK244.out; obtain ⟨Ao30, co30, eo30⟩ := Kd.R_slice HO_7.out; subst eo30) | ((with_reducible refine gate_callee (f := 62) rfl ?_); refine gl_ (some 49) (Try.func62) #[.slice Ao30 x7_1.length co30, .int .i64 ((rd_T48 l1 x42_3).f0)] ?_; (with_reducible refine (spec_l1Has.calls k3 _ _ x7_1 ((rd_T48 l1 x42_3).f0) true _ ?side1 ?side2 A24.out).mono ?_); (case side1 => refine (Kd.R_reads' (e := 3) (base := w.heap.size) (ok := fun k_ => True) (n := x7_1.length) (c := co30) ?_).2.2; exact (by (with_reducible repeat (first | apply Kd.R_alloc | apply Kd.R_drewN | apply Kd.R_drew)); exact (Kd.R_mono (Kd.R_far (p := ⟨gb244, 2, none⟩) (Kd.R_far (p := ⟨gb244, 1, none⟩) (Kd.R_far (p := ⟨gb244, 0, none⟩) (Kd.R_types HO_7.out BK244.out (by decide)) (fun _ hk => hk.2) (.int .i64 ((rd_T48 l1 x42_3).f0))) (fun _ hk => hk.2) (.int .i64 ((rd_T48 l1 x42_3).f1))) (fun _ hk => hk.2) (.int .i64 ((rd_T48 l1 x42_3).f2))) (fun _ h_ => h_.1)))); (case side2 => exact (Kd.R_reads' HO_7.out).2.1); rintro e w' ⟨rfl, ⟨nd, rfl⟩⟩; refine ⟨_, rfl, ?_⟩) | (go_at_call 62; (with_reducible refine (spec_l1Has.calls k3 _ _ (rd_L5 x8_1 x35_2) ((rd_T48 l1 x42_3).f1) true _ ?side1 ?side2 A26.out).mono ?_); (case side1 => first | ((repeat (first | (with_reducible refine Kd.C_drewN ?_ _) | (with_reducible refine Kd.C_drew ?_) | exact HS244_HR242_0.out _ _ _)); done) | exact Kd.C_below HR242_0.out lB); (case side2 => exact HC242_0.out); rintro e w' ⟨rfl, ⟨nd, rfl⟩⟩))
                    go_roundg k3
                    case measure => have := HK1.out; have := HK2.out; have := HK3.out; omega
                    case rel => exact ⟨(wrap64 (x13_3 + ((rd_T48 l1 x42_3).f2))), (wrap64 (x42_3 + 1)), lF, lF, H', ⟨by have := HK1.out; have := HK2.out; have := HK3.out; omega⟩, ⟨by (with_reducible repeat (first | apply Kd.R_alloc | apply Kd.R_drewN | apply Kd.R_drew)); exact Kd.R_mono (Kd.R_far (p := ⟨gb244, 2, none⟩) (Kd.R_far (p := ⟨gb244, 1, none⟩) (Kd.R_far (p := ⟨gb244, 0, none⟩) (Kd.R_types HO_7.out BK244.out (by decide)) (fun _ hk => hk.2) (.int .i64 ((rd_T48 l1 x42_3).f0))) (fun _ hk => hk.2) (.int .i64 ((rd_T48 l1 x42_3).f1))) (fun _ hk => hk.2) (.int .i64 ((rd_T48 l1 x42_3).f2))) (fun _ hk => trivial)⟩, ⟨by (with_reducible repeat (first | apply Kd.V_alloc | apply Kd.V_drewN | apply Kd.V_drew)); exact Kd.V_mono (Kd.V_far (p := ⟨gb244, 2, none⟩) (Kd.V_far (p := ⟨gb244, 1, none⟩) (Kd.V_far (p := ⟨gb244, 0, none⟩) (Kd.V_mono HO_8.out (fun k_ hk => (⟨hk, hk.2⟩ : _ ∧ k_ ≠ gb244))) (fun _ hk => hk.2) (.int .i64 ((rd_T48 l1 x42_3).f0))) (fun _ hk => hk.2) (.int .i64 ((rd_T48 l1 x42_3).f1))) (fun _ hk => hk.2) (.int .i64 ((rd_T48 l1 x42_3).f2))) (fun _ hk => hk.1.1)⟩, ⟨by (with_reducible repeat (first | apply Kd.V_alloc | apply Kd.V_drewN | apply Kd.V_drew)); exact Kd.V_mono (Kd.V_far (p := ⟨gb244, 2, none⟩) (Kd.V_far (p := ⟨gb244, 1, none⟩) (Kd.V_far (p := ⟨gb244, 0, none⟩) (Kd.V_mono HO_33.out (fun k_ hk => (⟨hk, hk.2⟩ : _ ∧ k_ ≠ gb244))) (fun _ hk => hk.2) (.int .i64 ((rd_T48 l1 x42_3).f0))) (fun _ hk => hk.2) (.int .i64 ((rd_T48 l1 x42_3).f1))) (fun _ hk => hk.2) (.int .i64 ((rd_T48 l1 x42_3).f2))) (fun _ hk => hk.1.1)⟩, ⟨by repeat (first | (with_reducible refine Kd.C_drewN ?_ _) | (with_reducible refine Kd.C_drew ?_) | exact HS244_HR242_0.out _ _ _)⟩, ⟨lB⟩⟩
                   ·replace c27 := Bool.eq_false_iff.mpr c27
                    subst c27
                    rw [if_neg (show ¬ (false = true) by decide)] at H
                    have H' := Aside0.mk H
                    clear H
                    have p243 : 0 ≤ (x42_3 : Int) := lD
                    have q243 : x42_3 < (l1.length : Int) := lD
                    obtain ⟨ad243, e243, hx243_0, hx243_1, hx243_2⟩ := at_T48 HR1.out x42_3 p243 q243
                    cases e243
                    replace hx243_0 := pw_cell_below HB.out hx243_0
                    replace hx243_1 := pw_cell_below HB.out hx243_1
                    replace hx243_2 := pw_cell_below HB.out hx243_2
                    replace p243 := eq_true p243
                    replace q243 := eq_true q243
                    go_wp2_with (first | ((with_reducible refine gate_dst (N := 15) rfl ?_); refine bxe 15 #[.int .i64 0, .int .i64 0, .int .i64 0] 48 ?_; intro gb244 hg w31 hbox hb; have n0_ := Aside0.mk (Kd.R_below (lR HO_7.out) hb); have n1_ := Aside0.mk (Kd.V_below (Kd.V_elderB (by (with_reducible repeat (first | apply Kd.V_alloc | apply Kd.V_drewN | apply Kd.V_drew)); exact HO_8.out) gb244 (Nat.le_of_eq hg.symm)) hb); have n2_ := Aside0.mk (Kd.V_below (Kd.V_elderB (by (with_reducible repeat (first | apply Kd.V_alloc | apply Kd.V_drewN | apply Kd.V_drew)); exact HO_33.out) gb244 (Nat.le_of_eq hg.symm)) hb); have n3_ := Aside0.mk (Kd.C_below (by repeat (first | (with_reducible exact HR242_0.out) | (with_reducible refine Kd.C_alloc ?_ _) | (with_reducible refine Kd.C_drewN ?_ _) | (with_reducible refine Kd.C_drew ?_) | exact HR242_0.out)) hb); have n4_ := Aside0.mk (below_step lB hb); have n5_ := Aside0.mk (hbox); have n6_ := lG w hg; have n7_ := lG w hg; have n8_ := Aside0.mk ((show ∀ u0_ u1_ u2_ : Value, Kd.C (Kd.int .i64) (((w31.setCell ⟨gb244, 0, none⟩ u0_).setCell ⟨gb244, 1, none⟩ u1_).setCell ⟨gb244, 2, none⟩ u2_) A242_0 (rd_L5 x8_1 x35_2).length (rd_L5 x8_1 x35_2) from fun _ _ _ => Kd.C_below (by repeat (first | (with_reducible exact HR242_0.out) | (with_reducible refine Kd.C_alloc ?_ _) | (with_reducible refine Kd.C_drewN ?_ _) | (with_reducible refine Kd.C_drew ?_) | exact HR242_0.out)) (below_set (below_set (below_set hb (Nat.le_of_eq hg.symm)) (Nat.le_of_eq hg.symm)) (Nat.le_of_eq hg.symm)))); clear HO_7; clear HO_8; clear HO_33; clear HR242_0; clear HB; have HO_7 := n0_; have HO_8 := n1_; have HO_33 := n2_; have HR242_0 := n3_; have HB := n4_; have BK244 := n5_; have GW244 := n6_; have GE244 := n7_; have HS244_HR242_0 := n8_; clear n0_ n1_ n2_ n3_ n4_ n5_ n6_ n7_ n8_; clear hb hbox hg; obtain ⟨hcz32_0, hfz32_0, hcz32_1, hfz32_1, hcz32_2, hfz32_2⟩ := bk3 BK244.out; obtain ⟨Ao33, co33, eo33⟩ := Kd.R_slice HO_7.out; subst eo33) | ((with_reducible refine gate_callee (f := 62) rfl ?_); refine gl_ (some 49) (Try.func62) #[.slice Ao33 x7_1.length co33, .int .i64 ((rd_T48 l1 x42_3).f0)] ?_; (with_reducible refine (spec_l1Has.calls k3 _ _ x7_1 ((rd_T48 l1 x42_3).f0) true _ ?side1 ?side2 A24.out).mono ?_); (case side1 => refine (Kd.R_reads' (e := 3) (base := w.heap.size) (ok := fun k_ => True) (n := x7_1.length) (c := co33) ?_).2.2; exact (by (with_reducible repeat (first | apply Kd.R_alloc | apply Kd.R_drewN | apply Kd.R_drew)); exact (Kd.R_mono (Kd.R_far (p := ⟨gb244, 2, none⟩) (Kd.R_far (p := ⟨gb244, 1, none⟩) (Kd.R_far (p := ⟨gb244, 0, none⟩) (Kd.R_types HO_7.out BK244.out (by decide)) (fun _ hk => hk.2) (.int .i64 ((rd_T48 l1 x42_3).f0))) (fun _ hk => hk.2) (.int .i64 ((rd_T48 l1 x42_3).f1))) (fun _ hk => hk.2) (.int .i64 ((rd_T48 l1 x42_3).f2))) (fun _ h_ => h_.1)))); (case side2 => exact (Kd.R_reads' HO_7.out).2.1); rintro e w' ⟨rfl, ⟨nd, rfl⟩⟩; refine ⟨_, rfl, ?_⟩) | (go_at_call 62; (with_reducible refine (spec_l1Has.calls k3 _ _ (rd_L5 x8_1 x35_2) ((rd_T48 l1 x42_3).f1) false _ ?side1 ?side2 A26.out).mono ?_); (case side1 => first | ((repeat (first | (with_reducible refine Kd.C_drewN ?_ _) | (with_reducible refine Kd.C_drew ?_) | exact HS244_HR242_0.out _ _ _)); done) | exact Kd.C_below HR242_0.out lB); (case side2 => exact HC242_0.out); rintro e w' ⟨rfl, ⟨nd, rfl⟩⟩))
                    go_roundg k3
                    case measure => have := HK1.out; have := HK2.out; have := HK3.out; omega
                    case rel => exact ⟨(x13_3), (wrap64 (x42_3 + 1)), lF, lF, H', ⟨by have := HK1.out; have := HK2.out; have := HK3.out; omega⟩, ⟨by (with_reducible repeat (first | apply Kd.R_alloc | apply Kd.R_drewN | apply Kd.R_drew)); exact Kd.R_mono (Kd.R_far (p := ⟨gb244, 2, none⟩) (Kd.R_far (p := ⟨gb244, 1, none⟩) (Kd.R_far (p := ⟨gb244, 0, none⟩) (Kd.R_types HO_7.out BK244.out (by decide)) (fun _ hk => hk.2) (.int .i64 ((rd_T48 l1 x42_3).f0))) (fun _ hk => hk.2) (.int .i64 ((rd_T48 l1 x42_3).f1))) (fun _ hk => hk.2) (.int .i64 ((rd_T48 l1 x42_3).f2))) (fun _ hk => trivial)⟩, ⟨by (with_reducible repeat (first | apply Kd.V_alloc | apply Kd.V_drewN | apply Kd.V_drew)); exact Kd.V_mono (Kd.V_far (p := ⟨gb244, 2, none⟩) (Kd.V_far (p := ⟨gb244, 1, none⟩) (Kd.V_far (p := ⟨gb244, 0, none⟩) (Kd.V_mono HO_8.out (fun k_ hk => (⟨hk, hk.2⟩ : _ ∧ k_ ≠ gb244))) (fun _ hk => hk.2) (.int .i64 ((rd_T48 l1 x42_3).f0))) (fun _ hk => hk.2) (.int .i64 ((rd_T48 l1 x42_3).f1))) (fun _ hk => hk.2) (.int .i64 ((rd_T48 l1 x42_3).f2))) (fun _ hk => hk.1.1)⟩, ⟨by (with_reducible repeat (first | apply Kd.V_alloc | apply Kd.V_drewN | apply Kd.V_drew)); exact Kd.V_mono (Kd.V_far (p := ⟨gb244, 2, none⟩) (Kd.V_far (p := ⟨gb244, 1, none⟩) (Kd.V_far (p := ⟨gb244, 0, none⟩) (Kd.V_mono HO_33.out (fun k_ hk => (⟨hk, hk.2⟩ : _ ∧ k_ ≠ gb244))) (fun _ hk => hk.2) (.int .i64 ((rd_T48 l1 x42_3).f0))) (fun _ hk => hk.2) (.int .i64 ((rd_T48 l1 x42_3).f1))) (fun _ hk => hk.2) (.int .i64 ((rd_T48 l1 x42_3).f2))) (fun _ hk => hk.1.1)⟩, ⟨by repeat (first | (with_reducible refine Kd.C_drewN ?_ _) | (with_reducible refine Kd.C_drew ?_) | exact HS244_HR242_0.out _ _ _)⟩, ⟨lB⟩⟩
                  ·replace c25 := Bool.eq_false_iff.mpr c25
                   subst c25
                   rw [if_neg (show ¬ (false = true) by decide)] at H
                   have H' := Aside0.mk H
                   clear H
                   have p243 : 0 ≤ (x42_3 : Int) := lD
                   have q243 : x42_3 < (l1.length : Int) := lD
                   obtain ⟨ad243, e243, hx243_0, hx243_1, hx243_2⟩ := at_T48 HR1.out x42_3 p243 q243
                   cases e243
                   replace hx243_0 := pw_cell_below HB.out hx243_0
                   replace hx243_1 := pw_cell_below HB.out hx243_1
                   replace hx243_2 := pw_cell_below HB.out hx243_2
                   replace p243 := eq_true p243
                   replace q243 := eq_true q243
                   go_wp2_with (first | ((with_reducible refine gate_dst (N := 15) rfl ?_); refine bxe 15 #[.int .i64 0, .int .i64 0, .int .i64 0] 48 ?_; intro gb244 hg w34 hbox hb; have n0_ := Aside0.mk (Kd.R_below (lR HO_7.out) hb); have n1_ := Aside0.mk (Kd.V_below (Kd.V_elderB (by (with_reducible repeat (first | apply Kd.V_alloc | apply Kd.V_drewN | apply Kd.V_drew)); exact HO_8.out) gb244 (Nat.le_of_eq hg.symm)) hb); have n2_ := Aside0.mk (Kd.V_below (Kd.V_elderB (by (with_reducible repeat (first | apply Kd.V_alloc | apply Kd.V_drewN | apply Kd.V_drew)); exact HO_33.out) gb244 (Nat.le_of_eq hg.symm)) hb); have n3_ := Aside0.mk (Kd.C_below (by repeat (first | (with_reducible exact HR242_0.out) | (with_reducible refine Kd.C_alloc ?_ _) | (with_reducible refine Kd.C_drewN ?_ _) | (with_reducible refine Kd.C_drew ?_) | exact HR242_0.out)) hb); have n4_ := Aside0.mk (below_step lB hb); have n5_ := Aside0.mk (hbox); have n6_ := lG w hg; have n7_ := lG w hg; have n8_ := Aside0.mk ((show ∀ u0_ u1_ u2_ : Value, Kd.C (Kd.int .i64) (((w34.setCell ⟨gb244, 0, none⟩ u0_).setCell ⟨gb244, 1, none⟩ u1_).setCell ⟨gb244, 2, none⟩ u2_) A242_0 (rd_L5 x8_1 x35_2).length (rd_L5 x8_1 x35_2) from fun _ _ _ => Kd.C_below (by repeat (first | (with_reducible exact HR242_0.out) | (with_reducible refine Kd.C_alloc ?_ _) | (with_reducible refine Kd.C_drewN ?_ _) | (with_reducible refine Kd.C_drew ?_) | exact HR242_0.out)) (below_set (below_set (below_set hb (Nat.le_of_eq hg.symm)) (Nat.le_of_eq hg.symm)) (Nat.le_of_eq hg.symm)))); clear HO_7; clear HO_8; clear HO_33; clear HR242_0; clear HB; have HO_7 := n0_; have HO_8 := n1_; have HO_33 := n2_; have HR242_0 := n3_; have HB := n4_; have BK244 := n5_; have GW244 := n6_; have GE244 := n7_; have HS244_HR242_0 := n8_; clear n0_ n1_ n2_ n3_ n4_ n5_ n6_ n7_ n8_; clear hb hbox hg; obtain ⟨hcz35_0, hfz35_0, hcz35_1, hfz35_1, hcz35_2, hfz35_2⟩ := bk3 BK244.out; obtain ⟨Ao36, co36, eo36⟩ := Kd.R_slice HO_7.out; subst eo36) | ((with_reducible refine gate_callee (f := 62) rfl ?_); refine gl_ (some 49) (Try.func62) #[.slice Ao36 x7_1.length co36, .int .i64 ((rd_T48 l1 x42_3).f0)] ?_; (with_reducible refine (spec_l1Has.calls k3 _ _ x7_1 ((rd_T48 l1 x42_3).f0) false _ ?side1 ?side2 A24.out).mono ?_); (case side1 => refine (Kd.R_reads' (e := 3) (base := w.heap.size) (ok := fun k_ => True) (n := x7_1.length) (c := co36) ?_).2.2; exact (by (with_reducible repeat (first | apply Kd.R_alloc | apply Kd.R_drewN | apply Kd.R_drew)); exact (Kd.R_mono (Kd.R_far (p := ⟨gb244, 2, none⟩) (Kd.R_far (p := ⟨gb244, 1, none⟩) (Kd.R_far (p := ⟨gb244, 0, none⟩) (Kd.R_types HO_7.out BK244.out (by decide)) (fun _ hk => hk.2) (.int .i64 ((rd_T48 l1 x42_3).f0))) (fun _ hk => hk.2) (.int .i64 ((rd_T48 l1 x42_3).f1))) (fun _ hk => hk.2) (.int .i64 ((rd_T48 l1 x42_3).f2))) (fun _ h_ => h_.1)))); (case side2 => exact (Kd.R_reads' HO_7.out).2.1); rintro e w' ⟨rfl, ⟨nd, rfl⟩⟩; refine ⟨_, rfl, ?_⟩))
                   go_roundg k3
                   case measure => have := HK1.out; have := HK2.out; have := HK3.out; omega
                   case rel => exact ⟨(x13_3), (wrap64 (x42_3 + 1)), lF, lF, H', ⟨by have := HK1.out; have := HK2.out; have := HK3.out; omega⟩, ⟨by (with_reducible repeat (first | apply Kd.R_alloc | apply Kd.R_drewN | apply Kd.R_drew)); exact Kd.R_mono (Kd.R_far (p := ⟨gb244, 2, none⟩) (Kd.R_far (p := ⟨gb244, 1, none⟩) (Kd.R_far (p := ⟨gb244, 0, none⟩) (Kd.R_types HO_7.out BK244.out (by decide)) (fun _ hk => hk.2) (.int .i64 ((rd_T48 l1 x42_3).f0))) (fun _ hk => hk.2) (.int .i64 ((rd_T48 l1 x42_3).f1))) (fun _ hk => hk.2) (.int .i64 ((rd_T48 l1 x42_3).f2))) (fun _ hk => trivial)⟩, ⟨by (with_reducible repeat (first | apply Kd.V_alloc | apply Kd.V_drewN | apply Kd.V_drew)); exact Kd.V_mono (Kd.V_far (p := ⟨gb244, 2, none⟩) (Kd.V_far (p := ⟨gb244, 1, none⟩) (Kd.V_far (p := ⟨gb244, 0, none⟩) (Kd.V_mono HO_8.out (fun k_ hk => (⟨hk, hk.2⟩ : _ ∧ k_ ≠ gb244))) (fun _ hk => hk.2) (.int .i64 ((rd_T48 l1 x42_3).f0))) (fun _ hk => hk.2) (.int .i64 ((rd_T48 l1 x42_3).f1))) (fun _ hk => hk.2) (.int .i64 ((rd_T48 l1 x42_3).f2))) (fun _ hk => hk.1.1)⟩, ⟨by (with_reducible repeat (first | apply Kd.V_alloc | apply Kd.V_drewN | apply Kd.V_drew)); exact Kd.V_mono (Kd.V_far (p := ⟨gb244, 2, none⟩) (Kd.V_far (p := ⟨gb244, 1, none⟩) (Kd.V_far (p := ⟨gb244, 0, none⟩) (Kd.V_mono HO_33.out (fun k_ hk => (⟨hk, hk.2⟩ : _ ∧ k_ ≠ gb244))) (fun _ hk => hk.2) (.int .i64 ((rd_T48 l1 x42_3).f0))) (fun _ hk => hk.2) (.int .i64 ((rd_T48 l1 x42_3).f1))) (fun _ hk => hk.2) (.int .i64 ((rd_T48 l1 x42_3).f2))) (fun _ hk => hk.1.1)⟩, ⟨by repeat (first | (with_reducible refine Kd.C_drewN ?_ _) | (with_reducible refine Kd.C_drew ?_) | exact HS244_HR242_0.out _ _ _)⟩, ⟨lB⟩⟩
                 ·rw [if_neg c23] at H
                  exact absurd H (by simp)
                ·rw [if_neg c22] at H
                 exact absurd H (by simp)
               ·rw [if_neg c21] at H
                have c21b0 : decide (x42_3 < (l1.length : Int)) = false := decide_eq_false c21
                clear c21
                by_cases c37 : x13_3 > x10_2
                ·rw [if_pos c37] at H
                 have c37b0 : decide (x10_2 < x13_3) = true := decide_eq_true c37
                 clear c37
                 have H' := Aside0.mk H
                 clear H
                 go_wp2
                 go_roundg k3
                 case measure => have := HK1.out; have := HK2.out; have := HK3.out; omega
                 case rel => exact ⟨(x35_2), (x13_3), (wrap64 (x35_2 + 1)), lF, lF, lF, H', ⟨by have := HK1.out; have := HK2.out; have := HK3.out; omega⟩, ⟨lR HO_7.out⟩, ⟨by (with_reducible repeat (first | apply Kd.V_alloc | apply Kd.V_drewN | apply Kd.V_drew)); exact HO_8.out⟩, ⟨by (with_reducible repeat (first | apply Kd.V_alloc | apply Kd.V_drewN | apply Kd.V_drew)); exact HO_33.out⟩, ⟨lB⟩⟩
                ·rw [if_neg c37] at H
                 have c37b0 : decide (x10_2 < x13_3) = false := decide_eq_false c37
                 clear c37
                 have H' := Aside0.mk H
                 clear H
                 go_wp2
                 go_roundg k3
                 case measure => have := HK1.out; have := HK2.out; have := HK3.out; omega
                 case rel => exact ⟨(x9_2), (x10_2), (wrap64 (x35_2 + 1)), lF, lF, lF, H', ⟨by have := HK1.out; have := HK2.out; have := HK3.out; omega⟩, ⟨lR HO_7.out⟩, ⟨by (with_reducible repeat (first | apply Kd.V_alloc | apply Kd.V_drewN | apply Kd.V_drew)); exact HO_8.out⟩, ⟨by (with_reducible repeat (first | apply Kd.V_alloc | apply Kd.V_drewN | apply Kd.V_drew)); exact HO_33.out⟩, ⟨lB⟩⟩
            ·rw [if_neg c20] at H
             exact absurd H (by simp)
           ·rw [if_neg c19] at H
            exact absurd H (by simp)
          ·rw [if_neg c18] at H
           have c18b0 : decide (x35_2 < (x8_1.length : Int)) = false := decide_eq_false c18
           clear c18
           by_cases c38 : 0 ≤ x9_2
           ·rw [if_pos c38] at H
            have c38b0 : decide (0 ≤ x9_2) = true := decide_eq_true c38
            clear c38
            by_cases c39 : x9_2 < (x8_1.length : Int)
            ·rw [if_pos c39] at H
             have c39b0 : decide (x9_2 < (x8_1.length : Int)) = true := decide_eq_true c39
             clear c39
             by_cases c40 : x7_1.length + (rd_L5 x8_1 x9_2).length < 17592186044416
             ·rw [if_pos c40] at H
              have LMc40 := Aside0.mk c40
              clear c40
              obtain ⟨y220, hy220⟩ : ∃ y_ : List Int, y_ = (x7_1 ++ (rd_L5 x8_1 x9_2)) := ⟨_, rfl⟩
              replace H : ((some (([] : List (List Int)) : List (List Int))).bind fun y223 => (if x9_2 ≤ (x8_1.length : Int) then ((some (x8_1.take (x9_2 : Int).toNat : List (List Int))).bind fun y226 => (if y223.length + y226.length < 5864062014805 then ((some (y223 ++ y226 : List (List Int))).bind fun y231 => (if 0 ≤ (wrap64 (x9_2 + 1)) then (if (wrap64 (x9_2 + 1)) ≤ (x8_1.length : Int) then ((some (x8_1.drop ((wrap64 (x9_2 + 1)) : Int).toNat : List (List Int))).bind fun y234 => (if y231.length + y234.length < 5864062014805 then (spec_LayOut.l0 k2 l1 y220 (y231 ++ y234)) else (none))) else (none)) else (none))) else (none))) else (none))) = some (r1, r2) := by first | (rw [hy220]; with_reducible exact H) | (have H2_ := (Option.bind_some _ _).symm.trans H; rw [hy220]; with_reducible exact H2_) | (have H2_ := (Option.bind_some _ _).symm.trans H; with_reducible exact H2_) | with_reducible exact H | (rw [hy220]; exact H) | exact H
              have Ny220 := Aside0.mk hy220
              clear hy220
              obtain ⟨y223, hy223⟩ : ∃ y_ : List (List Int), y_ = (([] : List (List Int))) := ⟨_, rfl⟩
              replace H : (if x9_2 ≤ (x8_1.length : Int) then ((some (x8_1.take (x9_2 : Int).toNat : List (List Int))).bind fun y226 => (if y223.length + y226.length < 5864062014805 then ((some (y223 ++ y226 : List (List Int))).bind fun y231 => (if 0 ≤ (wrap64 (x9_2 + 1)) then (if (wrap64 (x9_2 + 1)) ≤ (x8_1.length : Int) then ((some (x8_1.drop ((wrap64 (x9_2 + 1)) : Int).toNat : List (List Int))).bind fun y234 => (if y231.length + y234.length < 5864062014805 then (spec_LayOut.l0 k2 l1 y220 (y231 ++ y234)) else (none))) else (none)) else (none))) else (none))) else (none)) = some (r1, r2) := by first | (rw [hy223]; with_reducible exact H) | (have H2_ := (Option.bind_some _ _).symm.trans H; rw [hy223]; with_reducible exact H2_) | (have H2_ := (Option.bind_some _ _).symm.trans H; with_reducible exact H2_) | with_reducible exact H | (rw [hy223]; exact H) | exact H
              have Ny223 := Aside0.mk hy223
              clear hy223
              have c41b0 := eq_true (lD : 0 ≤ x9_2)
              by_cases c42 : x9_2 ≤ (x8_1.length : Int)
              ·rw [if_pos c42] at H
               have c42b0 := eq_true c42
               have c42b1 : decide (x9_2 ≤ (x8_1.length : Int)) = true := decide_eq_true c42
               clear c42
               obtain ⟨y226, hy226⟩ : ∃ y_ : List (List Int), y_ = (x8_1.take (x9_2 : Int).toNat) := ⟨_, rfl⟩
               replace H : (if y223.length + y226.length < 5864062014805 then ((some (y223 ++ y226 : List (List Int))).bind fun y231 => (if 0 ≤ (wrap64 (x9_2 + 1)) then (if (wrap64 (x9_2 + 1)) ≤ (x8_1.length : Int) then ((some (x8_1.drop ((wrap64 (x9_2 + 1)) : Int).toNat : List (List Int))).bind fun y234 => (if y231.length + y234.length < 5864062014805 then (spec_LayOut.l0 k2 l1 y220 (y231 ++ y234)) else (none))) else (none)) else (none))) else (none)) = some (r1, r2) := by first | (rw [hy226]; with_reducible exact H) | (have H2_ := (Option.bind_some _ _).symm.trans H; rw [hy226]; with_reducible exact H2_) | (have H2_ := (Option.bind_some _ _).symm.trans H; with_reducible exact H2_) | with_reducible exact H | (rw [hy226]; exact H) | exact H
               have Ny226 := Aside0.mk hy226
               clear hy226
               by_cases c43 : y223.length + y226.length < 5864062014805
               ·rw [if_pos c43] at H
                have LMc43 := Aside0.mk c43
                clear c43
                obtain ⟨y231, hy231⟩ : ∃ y_ : List (List Int), y_ = (y223 ++ y226) := ⟨_, rfl⟩
                replace H : (if 0 ≤ (wrap64 (x9_2 + 1)) then (if (wrap64 (x9_2 + 1)) ≤ (x8_1.length : Int) then ((some (x8_1.drop ((wrap64 (x9_2 + 1)) : Int).toNat : List (List Int))).bind fun y234 => (if y231.length + y234.length < 5864062014805 then (spec_LayOut.l0 k2 l1 y220 (y231 ++ y234)) else (none))) else (none)) else (none)) = some (r1, r2) := by first | (rw [hy231]; with_reducible exact H) | (have H2_ := (Option.bind_some _ _).symm.trans H; rw [hy231]; with_reducible exact H2_) | (have H2_ := (Option.bind_some _ _).symm.trans H; with_reducible exact H2_) | with_reducible exact H | (rw [hy231]; exact H) | exact H
                have Ny231 := Aside0.mk hy231
                clear hy231
                obtain ⟨ji44, hji44⟩ : ∃ j_ : Int, (wrap64 (x9_2 + 1)) = j_ := ⟨_, rfl⟩
                replace H : (if 0 ≤ (ji44) then (if (ji44) ≤ (x8_1.length : Int) then ((some (x8_1.drop ((ji44) : Int).toNat : List (List Int))).bind fun y234 => (if y231.length + y234.length < 5864062014805 then (spec_LayOut.l0 k2 l1 y220 (y231 ++ y234)) else (none))) else (none)) else (none)) = some (r1, r2) := by first | (rw [hji44] at H; exact H) | (simp only [hji44] at H ⊢; exact H)
                have hji44w : (IntKind.i64.wrap (x9_2 + 1)) = ji44 := (i64_w _).trans hji44
                by_cases c45 : 0 ≤ (ji44)
                ·rw [if_pos c45] at H
                 have c45b0 := eq_true c45
                 have c45b1 : decide (0 ≤ (ji44)) = true := decide_eq_true c45
                 clear c45
                 by_cases c46 : (ji44) ≤ (x8_1.length : Int)
                 ·rw [if_pos c46] at H
                  have c46b0 := eq_true c46
                  have c46b1 : decide ((ji44) ≤ (x8_1.length : Int)) = true := decide_eq_true c46
                  clear c46
                  obtain ⟨y234, hy234⟩ : ∃ y_ : List (List Int), y_ = (x8_1.drop ((ji44) : Int).toNat) := ⟨_, rfl⟩
                  replace H : (if y231.length + y234.length < 5864062014805 then (spec_LayOut.l0 k2 l1 y220 (y231 ++ y234)) else (none)) = some (r1, r2) := by first | (rw [hy234]; with_reducible exact H) | (have H2_ := (Option.bind_some _ _).symm.trans H; rw [hy234]; with_reducible exact H2_) | (have H2_ := (Option.bind_some _ _).symm.trans H; with_reducible exact H2_) | with_reducible exact H | (rw [hy234]; exact H) | exact H
                  have Ny234 := Aside0.mk hy234
                  clear hy234
                  by_cases c47 : y231.length + y234.length < 5864062014805
                  ·rw [if_pos c47] at H
                   have LMc47 := Aside0.mk c47
                   clear c47
                   obtain ⟨y239, hy239⟩ : ∃ y_ : List (List Int), y_ = (y231 ++ y234) := ⟨_, rfl⟩
                   replace H : (spec_LayOut.l0 k2 l1 y220 y239) = some (r1, r2) := by first | (rw [hy239]; with_reducible exact H) | (have H2_ := (Option.bind_some _ _).symm.trans H; rw [hy239]; with_reducible exact H2_) | (have H2_ := (Option.bind_some _ _).symm.trans H; with_reducible exact H2_) | with_reducible exact H | (rw [hy239]; exact H) | exact H
                   have Ny239 := Aside0.mk hy239
                   clear hy239
                   have H' := Aside0.mk H
                   clear H
                   have p219 : 0 ≤ (x9_2 : Int) := lD
                   have q219 : x9_2 < (x8_1.length : Int) := lD
                   obtain ⟨ad219, A219_0, c219_0, e219, hx219_0, hl219_0, hi219_0⟩ := at_L5 (Kd.V_reads' HO_8.out).2.2 x9_2 p219 q219
                   cases e219
                   obtain ⟨ce219, hce219, hMe219, hcc219⟩ := Kd.V_get HO_8.out [] x9_2 p219 (by first | exact q219 | exact lD | (have e_ := (Kd.V_reads' HO_8.out).1; omega))
                   obtain ⟨ua219_0, uc219_0, rfl, ul219_0, ge219_0⟩ := Kd.FK_slice_open hMe219
                   have hv219_0 := hcc219 0 _ rfl
                   rw [Nat.add_zero, show ((Kd.slice 3 (Kd.int .i64))).sz = 1 from rfl, Nat.mul_one] at hv219_0
                   replace hv219_0 := Option.some.inj (hv219_0.symm.trans hx219_0)
                   injection hv219_0 with hva_ hvn_ hvc_
                   rw [hva_] at ge219_0
                   rw [hvc_] at ul219_0
                   have HL219_0 := Aside0.mk (show Kd.V (Kd.int .i64) 3 _ w.heap.size _ _ (rd_L5 x8_1 x9_2) from Kd.V_mk ul219_0 ge219_0)
                   clear hva_ hvn_ hvc_ ge219_0 ul219_0
                   clear hcc219 hce219
                   have HR219_0 := Aside0.mk hi219_0
                   have HC219_0 := Aside0.mk hl219_0
                   clear hi219_0 hl219_0
                   replace p219 := eq_true p219
                   replace q219 := eq_true q219
                   try go_wp2_with (first | ((with_reducible refine gate_builtin (b := .append) (xs := #[.tmp 67, .tmp 71]) rfl ?_); at_builtin; refine Kd.R_append_rows (Kd.int .i64) (w0 := w) w.heap.size rfl (.tmp 67) (.tmp 71) 34 3 (.int .i64 0) 8 rfl Try.underlying34 info3 rfl (by decide) (by omega) u7 x7_1 (rd_L5 x8_1 x9_2) _ _ _ (fun _ => True) (fun _ => False) rfl rfl ?aO ?aR (fun _ _ h => h) (fun _ h => h.elim) ?aF ?aB ?aS ?aL ?_; (case aR => repeat (first | exact (by repeat (first | (with_reducible exact HR219_0.out) | (with_reducible refine Kd.C_alloc ?_ _) | (with_reducible refine Kd.C_drewN ?_ _) | (with_reducible refine Kd.C_drew ?_) | exact HR219_0.out | exact (Kd.V_reads' HL219_0.out).2.2)) | (with_reducible refine Kd.C_alloc ?_ _) | (with_reducible refine Kd.C_drewN ?_ _) | (with_reducible refine Kd.C_drew ?_))); (case aB => exact lB); (case aF => exact (fun _ _ => trivial)); (case aO => exact (lR HO_7.out)); (case aS => exact (below_size lB)); (case aL => have := LMc40.out; omega); intro v221 w48 ho hb hg hat; rw [← Ny220.out] at ho; have n0_ := Aside0.mk (Kd.V_afterv (ok := (fun _ => True)) (by (with_reducible repeat (first | apply Kd.V_alloc | apply Kd.V_drewN | apply Kd.V_drew)); exact Kd.V_mono HO_8.out (fun _ hk => ⟨trivial, hk⟩)) hg hat); have n1_ := Aside0.mk (Kd.V_afterv (ok := (fun _ => True)) (by (with_reducible repeat (first | apply Kd.V_alloc | apply Kd.V_drewN | apply Kd.V_drew)); exact Kd.V_mono HO_33.out (fun _ hk => ⟨trivial, hk⟩)) hg hat); have n2_ := Aside0.mk (Kd.V_afterv (ok := (fun _ => True)) (by (with_reducible repeat (first | apply Kd.V_alloc | apply Kd.V_drewN | apply Kd.V_drew)); exact Kd.V_mono HL219_0.out (fun _ hk => ⟨trivial, hk⟩)) hg hat); have n3_ := Aside0.mk (hb); have n4_ := Aside0.mk (ho); clear HO_8; clear HO_33; clear HL219_0; clear HB; clear HO_7; have HO_8 := n0_; have HO_33 := n1_; have HL219_0 := n2_; have HB := n3_; have HO222 := n4_; clear n0_ n1_ n2_ n3_ n4_; clear ho hb hg hat))
                   have n0_ := Aside0.mk (Kd.V_drew HO_8.out)
                   have n1_ := Aside0.mk (Kd.V_drew HO_33.out)
                   have n2_ := Aside0.mk (Kd.V_drew HL219_0.out)
                   have n3_ := Aside0.mk (Kd.R_drew HO222.out)
                   have n4_ := Aside0.mk (below_drew1 HB.out)
                   clear HO_8
                   clear HO_33
                   clear HL219_0
                   clear HO222
                   clear HB
                   have HO_8 := n0_
                   have HO_33 := n1_
                   have HL219_0 := n2_
                   have HO222 := n3_
                   have HB := n4_
                   clear n0_ n1_ n2_ n3_ n4_
                   have q50 : (x9_2 : Int) ≤ ((x8_1.length : Int) : Int) := lD
                   obtain ⟨i050, hi050, _, hsz50, _⟩ := info_parts info34
                   have hroom50 : x8_1.length ≤ co17 := (Kd.V_reads' HO_8.out).2.1
                   have hC50 : Kd.F (Kd.slice 3 (Kd.int .i64)) _ _ (some ad219) x8_1.length x8_1 := (Kd.V_at (base := w.heap.size) HO_8.out).2.2
                   have hcut50 := cut_to (P := Try.prog) 24 34 .i64 Try.underlying24 hi050 (some ad219) x8_1.length co17 x9_2 (lD) q50 hroom50
                   have hr50 := Kd.F_take (m := (x9_2 : Int).toNat) hC50 (by omega)
                   have hy50 : y226.length = (x9_2 : Int).toNat := (by rw [Ny226.out, List.length_take]; omega)
                   rw [← Ny226.out] at hr50
                   rw [← hy50] at hcut50
                   have HO230 := Aside0.mk (show Kd.V (Kd.slice 3 (Kd.int .i64)) 34 _ w.heap.size _ (.slice (some ad219) y226.length co17) y226 from Kd.V_mk (by omega) hr50)
                   have HC230 := Aside0.mk (show y226.length ≤ co17 from by omega)
                   clear hr50 hC50 hroom50 hi050 hsz50
                   have KY50 := Aside0.mk hy50
                   clear hy50
                   replace q50 := eq_true q50
                   have q51 : ((ji44) : Int) ≤ ((x8_1.length : Int) : Int) := lD
                   obtain ⟨i051, hi051, _, hsz51, _⟩ := info_parts info34
                   have hroom51 : x8_1.length ≤ co17 := (Kd.V_reads' HO_8.out).2.1
                   have hC51 : Kd.F (Kd.slice 3 (Kd.int .i64)) _ _ (some ad219) x8_1.length x8_1 := (Kd.V_at (base := w.heap.size) HO_8.out).2.2
                   have q051 : (0 : Int) ≤ ((ji44) : Int) := lD
                   have hcut51 := cut_from (P := Try.prog) 24 34 .i64 Try.underlying24 hi051 1 hsz51 (some ad219) x8_1.length co17 (ji44) q051 q51
                   have hr51 := Kd.F_cut (m := ((ji44) : Int).toNat) (c := co17) hC51 (by omega) hroom51
                   obtain ⟨A51, hA51⟩ : ∃ A1, A1 = (if co17 = ((ji44) : Int).toNat then (some ad219) else ((some ad219) : Option Addr).map (·.add (((ji44) : Int).toNat * 1))) := ⟨_, rfl⟩
                   obtain ⟨c51, hc51⟩ : ∃ c1, c1 = co17 - ((ji44) : Int).toNat := ⟨_, rfl⟩
                   have hy51 : y234.length = x8_1.length - ((ji44) : Int).toNat := (by rw [Ny234.out, List.length_drop] <;> omega)
                   rw [show (x8_1).drop ((ji44) : Int).toNat = y234 from Ny234.out.symm] at hr51
                   replace hr51 : Kd.F (Kd.slice 3 (Kd.int .i64)) _ _ A51 y234.length y234 := (by rw [hA51]; exact hr51)
                   rw [← hy51, ← hA51, ← hc51] at hcut51
                   have HO238 := Aside0.mk (show Kd.V (Kd.slice 3 (Kd.int .i64)) 34 _ w.heap.size _ (.slice A51 y234.length c51) y234 from Kd.V_mk (by rw [hy51, hc51]; exact Nat.sub_le_sub_right hroom51 _) hr51)
                   have HC238 := Aside0.mk (show y234.length ≤ c51 from by rw [hy51, hc51]; exact Nat.sub_le_sub_right hroom51 _)
                   clear hr51 hC51 hroom51 hi051 hsz51 hc51
                   have KY51 := Aside0.mk hy51
                   have KA51 := Aside0.mk hA51
                   clear hy51 hA51
                   replace q51 := eq_true q51
                   refine start_ (n := 11) (S := fun w' => True) (ds := []) (bs 11 0) kR rfl kR trivial (fun hHeld => ?_); refine with_tabW spec_LayOut.tab24 spec_LayOut.bits24 (fun HT_ HW_ => ?_)
                   generalize w48.drew = w49 at HO_8 HO_33 HL219_0 HO222 HB HO230 HO238 hHeld ⊢
                   refine pur_ 1 74 (bs 11 2) (any_of HT_.out kR) ?_
                   refine pur_ 2 75 (bs 11 6) (any_of HT_.out kR) ?_
                   refine pur_ 3 76 (bs 11 14) (any_of HT_.out kR) ?_
                   refine pur_ 5 78 (bs 11 46) (any_of HT_.out kR) ?_
                   refine pur_ 6 79 (bs 11 110) (any_of HT_.out kR) ?_
                   refine pur_ 7 80 (bs 11 238) (any_of HT_.out kR) ?_
                   refine pur_ 8 81 (bs 11 494) (any_of HT_.out kR) ?_
                   refine one_ (i := 0) (N := some 73) (bs 11 495) rfl rfl (one_of HT_.out (by kernel_rfl)) (by decide) (fun K hK => ?_)
                   refine Kd.N_lit_step (Kd.slice 3 (Kd.int .i64)) _ 34 ?hg (N' := 73) ?hd (xs := ([] : List (List Int))) (inner := []) (ok := (fun k_ => some k_ ≠ (v221 : Value).ownBlock)) (okp := (fun k_ => some k_ ≠ (v221 : Value).ownBlock)) ?hr ?hp (fun _ hk => hk) ((show ∀ k_, w49.heap.size ≤ k_ → (fun k_ => some k_ ≠ (v221 : Value).ownBlock) k_ from fun k_ hk => Kd.fresh' (Kd.R_lt (lR HO222.out)) k_ hk) _ (Nat.le_refl _)) (Below.refl _ _) (Nat.le_refl _) (by simp) ?_; (case hd => rfl); (case hg => rfl); (case hr => first | (go_simp; done) | (go_simp; rfl)); (case hp => exact (Reps.none _ _))
                   intro v224 w52 ho53 hb hg_ hnew_
                   clear hg_ hnew_
                   (first | rw [← Ny223.out] at ho53 | (simp only [Int.reduceToNat] at ho53; rw [← Ny223.out] at ho53))
                   have n0_ := Aside0.mk (Kd.V_elder' (by (with_reducible repeat (first | apply Kd.V_alloc | apply Kd.V_drewN | apply Kd.V_drew)); exact HO_8.out) (Kd.N_base ho53) hb)
                   have n1_ := Aside0.mk (Kd.V_elder' (by (with_reducible repeat (first | apply Kd.V_alloc | apply Kd.V_drewN | apply Kd.V_drew)); exact HO_33.out) (Kd.N_base ho53) hb)
                   have n2_ := Aside0.mk (Kd.V_elder' (by (with_reducible repeat (first | apply Kd.V_alloc | apply Kd.V_drewN | apply Kd.V_drew)); exact HL219_0.out) (Kd.N_base ho53) hb)
                   have n3_ := Aside0.mk (Kd.R_below (lR HO222.out) hb)
                   have n4_ := Aside0.mk (Kd.V_elder' (by (with_reducible repeat (first | apply Kd.V_alloc | apply Kd.V_drewN | apply Kd.V_drew)); exact HO230.out) (Kd.N_base ho53) hb)
                   have n5_ := Aside0.mk (Kd.V_elder' (by (with_reducible repeat (first | apply Kd.V_alloc | apply Kd.V_drewN | apply Kd.V_drew)); exact HO238.out) (Kd.N_base ho53) hb)
                   have n6_ := Aside0.mk (Kd.N_lower ho53 (below_size lB))
                   have n7_ := Aside0.mk (below_step lB hb)
                   clear HO_8
                   clear HO_33
                   clear HL219_0
                   clear HO222
                   clear HO230
                   clear HO238
                   clear HB
                   have HO_8 := n0_
                   have HO_33 := n1_
                   have HL219_0 := n2_
                   have HO222 := n3_
                   have HO230 := n4_
                   have HO238 := n5_
                   have HO225 := n6_
                   have HB := n7_
                   clear n0_ n1_ n2_ n3_ n4_ n5_ n6_ n7_
                   clear hb ho53
                   refine hK.out _ _ trivial (fun hHeld => ?_)
                   clear hK K
                   refine norm_ (a' := ?_) ?_ ?_
                   rotate_left
                   ·show Act.put _ (some 73) _ = _
                    simp only [Act.put, List.setIfInBounds_toArray, List.set_cons_zero, List.set_cons_succ, i64_w, i32_w]
                    rfl
                   refine one_ (i := 4) (N := some 77) (bs 11 511) rfl rfl (one_of HT_.out (by kernel_rfl)) (by decide) (fun K hK => ?_)
                   refine Kd.N_append_rows_step (Kd.slice 3 (Kd.int .i64)) (w0 := w) w.heap.size (by rfl) (.tmp 73) (.tmp 76) 24 34 (.slice none 0 0) 24 rfl Try.underlying24 info34 rfl (by decide) (by omega) v224 y223 y226 _ _ _ (fun k_ => some k_ ≠ (v221 : Value).ownBlock) (fun k_ => ((fun k_ => some k_ ≠ (v221 : Value).ownBlock)) k_ ∧ some k_ ≠ (v224 : Value).ownBlock) rfl rfl ?aO ?aR (fun _ hk => hk) ?aF ?aB ?aS ?aL ?_
                   (case aR => exact (by skip; exact Kd.V_F (Kd.V_mono (ok' := (fun k_ => ((fun k_ => some k_ ≠ (v221 : Value).ownBlock)) k_ ∧ some k_ ≠ (v224 : Value).ownBlock)) (HO230.out) (fun k_ hk => ⟨hk.1.2, hk.2⟩))))
                   (case aB => exact lB)
                   (case aF => exact (fun k_ hk => Kd.fresh' (Kd.R_lt (lR HO222.out)) k_ hk))
                   (case aO => exact (by (with_reducible repeat (first | apply Kd.N_alloc | apply Kd.N_drewN | apply Kd.N_drew)); exact HO225.out))
                   (case aS => exact (below_size lB))
                   (case aL => have := LMc43.out; omega)
                   intro v232 w54 ho hb hg hat
                   rw [← Ny231.out] at ho
                   have n0_ := Aside0.mk (Kd.V_afterv (ok := (fun k_ => some k_ ≠ (v221 : Value).ownBlock)) (by (with_reducible repeat (first | apply Kd.V_alloc | apply Kd.V_drewN | apply Kd.V_drew)); exact Kd.V_mono HO_8.out (fun _ hk => ⟨hk.1.2, hk.2⟩)) hg hat)
                   have n1_ := Aside0.mk (Kd.V_afterv (ok := (fun k_ => some k_ ≠ (v221 : Value).ownBlock)) (by (with_reducible repeat (first | apply Kd.V_alloc | apply Kd.V_drewN | apply Kd.V_drew)); exact Kd.V_mono HO_33.out (fun _ hk => ⟨hk.1.2, hk.2⟩)) hg hat)
                   have n2_ := Aside0.mk (Kd.V_afterv (ok := (fun k_ => some k_ ≠ (v221 : Value).ownBlock)) (by (with_reducible repeat (first | apply Kd.V_alloc | apply Kd.V_drewN | apply Kd.V_drew)); exact Kd.V_mono HL219_0.out (fun _ hk => ⟨hk.1.2, hk.2⟩)) hg hat)
                   have n3_ := Aside0.mk (Kd.R_over' (lR HO222.out) (Kd.N_typed (by (with_reducible repeat (first | apply Kd.N_alloc | apply Kd.N_drewN | apply Kd.N_drew)); exact HO225.out)) (by decide) hg)
                   have n4_ := Aside0.mk (Kd.V_afterv (ok := (fun k_ => some k_ ≠ (v221 : Value).ownBlock)) (by (with_reducible repeat (first | apply Kd.V_alloc | apply Kd.V_drewN | apply Kd.V_drew)); exact Kd.V_mono HO230.out (fun _ hk => ⟨hk.1.2, hk.2⟩)) hg hat)
                   have n5_ := Aside0.mk (Kd.V_afterv (ok := (fun k_ => some k_ ≠ (v221 : Value).ownBlock)) (by (with_reducible repeat (first | apply Kd.V_alloc | apply Kd.V_drewN | apply Kd.V_drew)); exact Kd.V_mono HO238.out (fun _ hk => ⟨hk.1.2, hk.2⟩)) hg hat)
                   have n6_ := Aside0.mk (hb)
                   have n7_ := Aside0.mk (ho)
                   clear HO_8
                   clear HO_33
                   clear HL219_0
                   clear HO222
                   clear HO230
                   clear HO238
                   clear HB
                   clear HO225
                   have HO_8 := n0_
                   have HO_33 := n1_
                   have HL219_0 := n2_
                   have HO222 := n3_
                   have HO230 := n4_
                   have HO238 := n5_
                   have HB := n6_
                   have HO233 := n7_
                   clear n0_ n1_ n2_ n3_ n4_ n5_ n6_ n7_
                   clear ho hb hg hat
                   refine hK.out _ _ trivial (fun hHeld => ?_)
                   clear hK K
                   refine norm_ (a' := ?_) ?_ ?_
                   rotate_left
                   ·show Act.put _ (some 77) _ = _
                    simp only [Act.put, List.setIfInBounds_toArray, List.set_cons_zero, List.set_cons_succ, i64_w, i32_w]
                    rfl
                   refine one_ (i := 9) (N := some 82) (bs 11 1023) rfl rfl (one_of HT_.out (by kernel_rfl)) (by decide) (fun K hK => ?_)
                   refine Kd.N_append_rows_step (Kd.slice 3 (Kd.int .i64)) (w0 := w) w.heap.size (by rfl) (.tmp 77) (.tmp 81) 24 34 (.slice none 0 0) 24 rfl Try.underlying24 info34 rfl (by decide) (by omega) v232 y231 y234 _ _ _ (fun k_ => some k_ ≠ (v221 : Value).ownBlock) (fun k_ => ((fun k_ => some k_ ≠ (v221 : Value).ownBlock)) k_ ∧ some k_ ≠ (v232 : Value).ownBlock) rfl rfl ?aO ?aR (fun _ hk => hk) ?aF ?aB ?aS ?aL ?_
                   (case aR => exact (by skip; exact Kd.V_F (Kd.V_mono (ok' := (fun k_ => ((fun k_ => some k_ ≠ (v221 : Value).ownBlock)) k_ ∧ some k_ ≠ (v232 : Value).ownBlock)) (HO238.out) (fun k_ hk => ⟨hk.1, hk.2⟩))))
                   (case aB => exact lB)
                   (case aF => exact (fun k_ hk => Kd.fresh' (Kd.R_lt (lR HO222.out)) k_ hk))
                   (case aO => exact (by (with_reducible repeat (first | apply Kd.N_alloc | apply Kd.N_drewN | apply Kd.N_drew)); exact HO233.out))
                   (case aS => exact (below_size lB))
                   (case aL => have := LMc47.out; omega)
                   intro v240 w55 ho hb hg hat
                   rw [← Ny239.out] at ho
                   have n0_ := Aside0.mk (Kd.V_afterv (ok := (fun k_ => some k_ ≠ (v221 : Value).ownBlock)) (by (with_reducible repeat (first | apply Kd.V_alloc | apply Kd.V_drewN | apply Kd.V_drew)); exact HO_8.out) hg hat)
                   have n1_ := Aside0.mk (Kd.V_afterv (ok := (fun k_ => some k_ ≠ (v221 : Value).ownBlock)) (by (with_reducible repeat (first | apply Kd.V_alloc | apply Kd.V_drewN | apply Kd.V_drew)); exact HO_33.out) hg hat)
                   have n2_ := Aside0.mk (Kd.V_afterv (ok := (fun k_ => some k_ ≠ (v221 : Value).ownBlock)) (by (with_reducible repeat (first | apply Kd.V_alloc | apply Kd.V_drewN | apply Kd.V_drew)); exact HL219_0.out) hg hat)
                   have n3_ := Aside0.mk (Kd.R_over' (lR HO222.out) (Kd.N_typed (by (with_reducible repeat (first | apply Kd.N_alloc | apply Kd.N_drewN | apply Kd.N_drew)); exact HO233.out)) (by decide) hg)
                   have n4_ := Aside0.mk (Kd.V_afterv (ok := (fun k_ => some k_ ≠ (v221 : Value).ownBlock)) (by (with_reducible repeat (first | apply Kd.V_alloc | apply Kd.V_drewN | apply Kd.V_drew)); exact HO230.out) hg hat)
                   have n5_ := Aside0.mk (Kd.V_afterv (ok := (fun k_ => some k_ ≠ (v221 : Value).ownBlock)) (by (with_reducible repeat (first | apply Kd.V_alloc | apply Kd.V_drewN | apply Kd.V_drew)); exact HO238.out) hg hat)
                   have n6_ := Aside0.mk (hb)
                   have n7_ := Aside0.mk (ho)
                   clear HO_8
                   clear HO_33
                   clear HL219_0
                   clear HO222
                   clear HO230
                   clear HO238
                   clear HB
                   clear HO233
                   have HO_8 := n0_
                   have HO_33 := n1_
                   have HL219_0 := n2_
                   have HO222 := n3_
                   have HO230 := n4_
                   have HO238 := n5_
                   have HB := n6_
                   have HO241 := n7_
                   clear n0_ n1_ n2_ n3_ n4_ n5_ n6_ n7_
                   clear ho hb hg hat
                   refine hK.out _ _ trivial (fun hHeld => ?_)
                   clear hK K
                   refine norm_ (a' := ?_) ?_ ?_
                   rotate_left
                   ·show Act.put _ (some 82) _ = _
                    simp only [Act.put, List.setIfInBounds_toArray, List.set_cons_zero, List.set_cons_succ, i64_w, i32_w]
                    rfl
                   refine pur_ 10 8 (bs 11 2047) (any_of HT_.out kR) ?_
                   refine done_ (done_of HT_.out (by kernel_rfl)) ?_
                   try go_wp2
                   go_roundg k2
                   case measure => have := HK1.out; have := HK2.out; omega
                   case rel => exact ⟨(y220), (y239), H', ⟨by have := HK1.out; have := HK2.out; omega⟩, ⟨lR HO222.out⟩, ⟨Kd.N_V (by (with_reducible repeat (first | apply Kd.N_alloc | apply Kd.N_drewN | apply Kd.N_drew)); exact HO241.out)⟩, ⟨lB⟩⟩
                  ·rw [if_neg c47] at H
                   exact absurd H (by simp)
                 ·rw [if_neg c46] at H
                  exact absurd H (by simp)
                ·rw [if_neg c45] at H
                 exact absurd H (by simp)
               ·rw [if_neg c43] at H
                exact absurd H (by simp)
              ·rw [if_neg c42] at H
               exact absurd H (by simp)
             ·rw [if_neg c40] at H
              exact absurd H (by simp)
            ·rw [if_neg c39] at H
             exact absurd H (by simp)
           ·rw [if_neg c38] at H
            exact absurd H (by simp)
       ·rw [if_neg c16] at H
        have c16b0 : decide (0 < (x8_1.length : Int)) = false := decide_eq_false c16
        have c16b1 : decide (0 < x8_1.length) = false := decide_eq_false (by omega)
        clear c16
        simp only [Option.some.injEq, Prod.mk.injEq] at H
        obtain ⟨rfl, rfl⟩ := H
        obtain ⟨Ao56, co56, eo56⟩ := Kd.V_slice HO_8.out
        subst eo56
        go_wp2
        go_ret2
        exact ⟨_, lE, lR HO_7.out, lB⟩
    ·rw [if_neg c8] at H
     exact absurd H (by simp)
   ·rw [if_neg c7] at H
    exact absurd H (by simp)
  ·rw [if_neg c6] at H
   exact absurd H (by simp)
 ·replace c4 := Bool.eq_false_iff.mpr c4
  subst c4
  rw [if_neg (show ¬ (false = true) by decide)] at H
  simp only [Option.some.injEq, Prod.mk.injEq] at H
  obtain ⟨rfl, rfl⟩ := H
  go_enter Try.func20, Try.ntmps20
  go_wp2_with (first | ((with_reducible refine gate_callee (f := 56) rfl ?_); refine gl_ (some 18) (Try.func56) #[.int .i64 a0, .slice A1 l1.length c1] ?_; (with_reducible refine (spec_GoodEdges.calls k a0 _ _ l1 false _ ?side1 ?side2 A3.out).mono ?_); (case side1 => repeat (first | exact HR1.out | (with_reducible refine Kd.C_alloc ?_ _) | (with_reducible refine Kd.C_drewN ?_ _) | (with_reducible refine Kd.C_drew ?_))); (case side2 => exact HC1.out); rintro e w57 ⟨rfl, hb⟩; refine ⟨_, rfl, ?_⟩; have n0_ := Aside0.mk (below_step lB hb); clear HB; have HB := n0_; clear n0_; (try clear hb); (try clear hb2); (try clear hk); (try clear hi)))
  go_ret2
  exact ⟨_, lE, by first | exact Kd.R_nil _ _ _ _ _ | exact Kd.N_nil _ _ _ _ _ | exact Kd.V_nil _ _ _ _ _ | exact Kd.Q_nil _ _ _ _ _ | exact Kd.S_nil _ _ _ _ _, lB⟩

/-! ### impl_in: function 87 -/
def impl_in.f (a0 : Int) (a1 : Int) (a2 : Int) : Option (Bool) := if a0 ≥ a1 then (some (decide (a0 ≤ a2))) else (some false)
set_option maxHeartbeats 8000000 in
set_option maxRecDepth 100000 in
theorem impl_in.calls (a0 : Int) (a1 : Int) (a2 : Int) (r : Bool) (w : World) (h : impl_in.f a0 a1 a2 = some r) :
  Calls Try.prog 87 #[.int .i64 a0, .int .i64 a1, .int .i64 a2] w fun e w' => e = .returned (.bool r) ∧ Drawn0 w w' := by
 have H : (if a0 ≥ a1 then (some (decide (a0 ≤ a2))) else (some false)) = some r := h
 clear h
 by_cases c4 : a0 ≥ a1
 ·rw [if_pos c4] at H
  have c4b0 : decide (a1 ≤ a0) = true := decide_eq_true c4
  clear c4
  obtain rfl := Option.some.inj H
  go_enter Try.func87, Try.ntmps87
  first | (go_wp2; go_ret; exact ⟨by first | rfl | (simp; done) | (simp [*]; done), by repeat (first | exact Drawn0.refl _ | apply Drawn0.step)⟩) | (exfalso; simp only [decide_eq_false_iff_not, decide_eq_true_eq] at *; omega)
 ·rw [if_neg c4] at H
  have c4b0 : decide (a1 ≤ a0) = false := decide_eq_false c4
  clear c4
  obtain rfl := Option.some.inj H
  go_enter Try.func87, Try.ntmps87
  first | (go_wp2; go_ret; exact ⟨by first | rfl | (simp; done) | (simp [*]; done), by repeat (first | exact Drawn0.refl _ | apply Drawn0.step)⟩) | (exfalso; simp only [decide_eq_false_iff_not, decide_eq_true_eq] at *; omega)

end Go.Proofs.Ytpnhlccdhflogaa.Q
