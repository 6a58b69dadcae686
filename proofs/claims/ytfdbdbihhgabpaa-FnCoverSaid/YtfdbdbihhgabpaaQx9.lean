-- Written by the program wip/tools/pr.py of this claim's session, over the kit's print.py.
import Derived.Test.YtfdbdbihhgabpaaQx0
import Derived.Test.YtfdbdbihhgabpaaQx2
import Derived.Test.YtfdbdbihhgabpaaQx3
import Derived.Test.YtfdbdbihhgabpaaQx8
namespace Go.Proofs.Ytfdbdbihhgabpaa.Q
open Go.RowKit Go.Proofs.YtfdbdbihhgabpaaW.PrintWords Go.Proofs.YtfdbdbihhgabpaaW.PrintLast Go.Proofs.YtfdbdbihhgabpaaW.PrintMore
attribute [local go_sem] max2_int min2_int max_two min_two max_three min_three max_four min_four   -- for this text's walks alone
set_option linter.unusedVariables false
set_option linter.unusedSimpArgs false

/-! ### spec_GreedyCover: function 18 -/
mutual
def spec_GreedyCover.j0 : Nat → List Int → List (S57) → Bool → Option ((List (S63)) × Int × Bool)
 | 0, _, _, _ => none
 | k + 1, x0, x1, x23 => if x23 = true then (some (([] : List (S63)), 0, false)) else (spec_GreedyCover.l0 k x0 x1 ([] : List Int) (x0.length : Int) 0)
def spec_GreedyCover.l0 : Nat → List Int → List (S57) → List Int → Int → Int → Option ((List (S63)) × Int × Bool)
 | 0, _, _, _, _, _ => none
 | k + 1, x0, x1, x7, x25, x26 => if x26 < x25 then (spec_GreedyCover.l1 k x0 x1 x7 x26 (-1) x25 x26 x1 (x1.length : Int) 0) else ((spec_l9Pieces.f k x0 x1 0 x7 ([] : List (S63))).bind fun bt317 => (if bt317.2 = true then ((spec_l9Sum.f k x1 bt317.1).bind fun t321 => (some (bt317.1, t321, true))) else (some (([] : List (S63)), 0, false))))
def spec_GreedyCover.l1 : Nat → List Int → List (S57) → List Int → Int → Int → Int → Int → List (S57) → Int → Int → Option ((List (S63)) × Int × Bool)
 | 0, _, _, _, _, _, _, _, _, _, _ => none
 | k + 1, x0, x1, x7, x8, x9, x25, x26, x29, x30, x31 => if x31 < x30 then (if 0 ≤ x31 then (if x31 < (x29.length : Int) then ((spec_l9Fits.f k x0 x8 ((rd_T57 x29 x31).f0) ((rd_T57 x29 x31).f1)).bind fun bt310 => (if bt310.2 = true then (if x9 < 0 then (spec_GreedyCover.l1 k x0 x1 x7 x8 x31 x25 x26 x29 x30 (wrap64 (x31 + 1))) else ((spec_l9Weight.f k ((rd_T57 x29 x31).f0) ((rd_T57 x29 x31).f1)).bind fun t314 => (if 0 ≤ x9 then (if x9 < (x1.length : Int) then ((spec_l9Weight.f k ((rd_T57 x1 x9).f0) ((rd_T57 x1 x9).f1)).bind fun t316 => (if t314 > t316 then (spec_GreedyCover.l1 k x0 x1 x7 x8 x31 x25 x26 x29 x30 (wrap64 (x31 + 1))) else (spec_GreedyCover.l1 k x0 x1 x7 x8 x9 x25 x26 x29 x30 (wrap64 (x31 + 1))))) else (none)) else (none)))) else (spec_GreedyCover.l1 k x0 x1 x7 x8 x9 x25 x26 x29 x30 (wrap64 (x31 + 1))))) else (none)) else (none)) else (if x7.length < 17592186044416 then (spec_GreedyCover.l0 k x0 x1 (x7 ++ [x9]) x25 (wrap64 (x26 + 1))) else (none))
end
def spec_GreedyCover.f (k : Nat) (l0 : List Int) (l1 : List (S57)) : Option ((List (S63)) × Int × Bool) := (spec_GoodTree.f k l0).bind fun t303 => (if t303 = true then ((spec_GoodPatterns.f k l1).bind fun t304 => (spec_GreedyCover.j0 k l0 l1 (!t304))) else (spec_GreedyCover.j0 k l0 l1 true))
theorem spec_GreedyCover.mono_l : ∀ k, (∀ y0 y1 y2, LeO (spec_GreedyCover.j0 k y0 y1 y2) (spec_GreedyCover.j0 (k + 1) y0 y1 y2)) ∧ (∀ y0 y1 y2 y3 y4, LeO (spec_GreedyCover.l0 k y0 y1 y2 y3 y4) (spec_GreedyCover.l0 (k + 1) y0 y1 y2 y3 y4)) ∧ (∀ y0 y1 y2 y3 y4 y5 y6 y7 y8 y9, LeO (spec_GreedyCover.l1 k y0 y1 y2 y3 y4 y5 y6 y7 y8 y9) (spec_GreedyCover.l1 (k + 1) y0 y1 y2 y3 y4 y5 y6 y7 y8 y9))
 | 0 => ⟨fun _ _ _ r h => by simp [spec_GreedyCover.j0] at h, fun _ _ _ _ _ r h => by simp [spec_GreedyCover.l0] at h, fun _ _ _ _ _ _ _ _ _ _ r h => by simp [spec_GreedyCover.l1] at h⟩
 | k + 1 => by
  obtain ⟨ih0, ih1, ih2⟩ := spec_GreedyCover.mono_l k
  refine ⟨?_, ?_, ?_⟩
  ·intro y0 y1 y2
   unfold spec_GreedyCover.j0
   repeat' first
   | with_reducible apply ih0
   | with_reducible apply ih1
   | with_reducible apply ih2
   | with_reducible apply spec_GoodPatterns.mono
   | with_reducible apply spec_GoodTree.mono
   | with_reducible apply spec_l9Fits.mono
   | with_reducible apply spec_l9Pieces.mono
   | with_reducible apply spec_l9Sum.mono
   | with_reducible apply spec_l9Weight.mono
   | (with_reducible exact LeO.refl _)
   | (with_reducible exact LeO.none _)
   | (with_reducible refine LeO.ite ?_ ?_)
   | (with_reducible refine LeO.bind ?_ (fun _ => ?_))
   | apply ih0
   | apply ih1
   | apply ih2
   | apply spec_GoodPatterns.mono
   | apply spec_GoodTree.mono
   | apply spec_l9Fits.mono
   | apply spec_l9Pieces.mono
   | apply spec_l9Sum.mono
   | apply spec_l9Weight.mono
   | exact LeO.none _
   | refine LeO.ite ?_ ?_
   | refine LeO.bind ?_ (fun _ => ?_)
  ·intro y0 y1 y2 y3 y4
   unfold spec_GreedyCover.l0
   repeat' first
   | with_reducible apply ih0
   | with_reducible apply ih1
   | with_reducible apply ih2
   | with_reducible apply spec_GoodPatterns.mono
   | with_reducible apply spec_GoodTree.mono
   | with_reducible apply spec_l9Fits.mono
   | with_reducible apply spec_l9Pieces.mono
   | with_reducible apply spec_l9Sum.mono
   | with_reducible apply spec_l9Weight.mono
   | (with_reducible exact LeO.refl _)
   | (with_reducible exact LeO.none _)
   | (with_reducible refine LeO.ite ?_ ?_)
   | (with_reducible refine LeO.bind ?_ (fun _ => ?_))
   | apply ih0
   | apply ih1
   | apply ih2
   | apply spec_GoodPatterns.mono
   | apply spec_GoodTree.mono
   | apply spec_l9Fits.mono
   | apply spec_l9Pieces.mono
   | apply spec_l9Sum.mono
   | apply spec_l9Weight.mono
   | exact LeO.none _
   | refine LeO.ite ?_ ?_
   | refine LeO.bind ?_ (fun _ => ?_)
  ·intro y0 y1 y2 y3 y4 y5 y6 y7 y8 y9
   unfold spec_GreedyCover.l1
   repeat' first
   | with_reducible apply ih0
   | with_reducible apply ih1
   | with_reducible apply ih2
   | with_reducible apply spec_GoodPatterns.mono
   | with_reducible apply spec_GoodTree.mono
   | with_reducible apply spec_l9Fits.mono
   | with_reducible apply spec_l9Pieces.mono
   | with_reducible apply spec_l9Sum.mono
   | with_reducible apply spec_l9Weight.mono
   | (with_reducible exact LeO.refl _)
   | (with_reducible exact LeO.none _)
   | (with_reducible refine LeO.ite ?_ ?_)
   | (with_reducible refine LeO.bind ?_ (fun _ => ?_))
   | apply ih0
   | apply ih1
   | apply ih2
   | apply spec_GoodPatterns.mono
   | apply spec_GoodTree.mono
   | apply spec_l9Fits.mono
   | apply spec_l9Pieces.mono
   | apply spec_l9Sum.mono
   | apply spec_l9Weight.mono
   | exact LeO.none _
   | refine LeO.ite ?_ ?_
   | refine LeO.bind ?_ (fun _ => ?_)
theorem spec_GreedyCover.mono : ∀ a0 a1 k, LeO (spec_GreedyCover.f k a0 a1) (spec_GreedyCover.f (k + 1) a0 a1) := by
 intro a0 a1 k
 obtain ⟨ih0, ih1, ih2⟩ := spec_GreedyCover.mono_l k
 unfold spec_GreedyCover.f
 repeat' first
   | with_reducible apply ih0
   | with_reducible apply ih1
   | with_reducible apply ih2
   | with_reducible apply spec_GoodPatterns.mono
   | with_reducible apply spec_GoodTree.mono
   | with_reducible apply spec_l9Fits.mono
   | with_reducible apply spec_l9Pieces.mono
   | with_reducible apply spec_l9Sum.mono
   | with_reducible apply spec_l9Weight.mono
   | (with_reducible exact LeO.refl _)
   | (with_reducible exact LeO.none _)
   | (with_reducible refine LeO.ite ?_ ?_)
   | (with_reducible refine LeO.bind ?_ (fun _ => ?_))
   | apply ih0
   | apply ih1
   | apply ih2
   | apply spec_GoodPatterns.mono
   | apply spec_GoodTree.mono
   | apply spec_l9Fits.mono
   | apply spec_l9Pieces.mono
   | apply spec_l9Sum.mono
   | apply spec_l9Weight.mono
   | exact LeO.none _
   | refine LeO.ite ?_ ?_
   | refine LeO.bind ?_ (fun _ => ?_)
def spec_GreedyCover.T12 : Bool × List (List Nat × List Nat) := (true, [([], []), ([0], [0]), ([1], [1]), ([2, 1], [1, 2]), ([3, 1, 1], [1, 3]), ([4], [4]), ([5, 4, 4], [4, 5]), ([4], [4]), ([4], [4]), ([7, 8, 4], [4, 7, 8]), ([9, 4], [4, 9]), ([10, 6, 4], [4, 10]), ([6, 11, 4], [4, 6, 11]), ([4, 12, 1], [1, 4, 12]), ([1, 13], [1, 13])])
def spec_GreedyCover.B12 : List Nat := [0, 1, 3, 7, 15, 31, 63, 31, 31, 415, 927, 2047, 4095, 8191, 16383]
theorem spec_GreedyCover.tab12 : rtab .any (opsOf Try.f18 12) = spec_GreedyCover.T12 := by kernel_rfl
theorem spec_GreedyCover.bits12 : waitsOk spec_GreedyCover.T12.2 spec_GreedyCover.B12 = true := by kernel_rfl
set_option maxHeartbeats 8000000 in
set_option maxRecDepth 100000 in
theorem spec_GreedyCover.calls (k : Nat) (A0 : Option Addr) (c0 : Nat) (l0 : List Int) (A1 : Option Addr) (c1 : Nat) (l1 : List (S57)) (r1 : List (S63)) (r2 : Int) (r3 : Bool) (w : World) (hr0 : Kd.C (Kd.int .i64) w A0 l0.length l0) (hc0 : l0.length ≤ c0) (hr1 : Kd.C k57 w A1 l1.length l1) (hc1 : l1.length ≤ c1) (h : spec_GreedyCover.f k l0 l1 = some (r1, r2, r3)) :
  Calls Try.prog 18 #[.slice A0 l0.length c0, .slice A1 l1.length c1] w fun e w' => ∃ v0_ : Value, e = .returned (.tuple #[v0_, .int .i64 r2, .bool r3]) ∧ Kd.R k63 63 w' w.heap.size (fun _ => True) v0_ r1 ∧ Below w.heap.size w w' := by
 have hu57 := Try.underlying57
 have HR0 := Aside0.mk hr0
 have HC0 := Aside0.mk hc0
 clear hr0 hc0
 have HR1 := Aside0.mk hr1
 have HC1 := Aside0.mk hc1
 clear hr1 hc1
 have HB := Aside0.mk (Below.refl w.heap.size w)
 have H : ((spec_GoodTree.f k l0).bind fun t303 => (if t303 = true then ((spec_GoodPatterns.f k l1).bind fun t304 => (spec_GreedyCover.j0 k l0 l1 (!t304))) else (spec_GreedyCover.j0 k l0 l1 true))) = some (r1, r2, r3) := h
 clear h
 have HC3 := Aside0.mk H
 clear H
 go_enter Try.func18, Try.ntmps18
 go_upto_region 1 with (fail)
 go_cut [23] (fun v23 wc => ∃ (kq : Nat) (x23_2 : Bool), v23 = .bool x23_2 ∧ Aside0 (spec_GreedyCover.j0 kq l0 l1 x23_2 = some (r1, r2, r3)) ∧ Aside0 (kq ≤ k) ∧ Aside0 (Below w.heap.size w wc))
 case first =>
  have H := HC3.out
  clear HC3
  replace H := lO H
  obtain ⟨t303, A4, H⟩ := H
  by_cases c5 : t303 = true
  ·subst c5
   rw [if_pos rfl] at H
   replace H := lO H
   obtain ⟨t304, A6, H⟩ := H
   have H' := Aside0.mk H
   clear H
   go_wp2_with (first | ((with_reducible refine gate_callee (f := 25) rfl ?_); refine gl_ (some 17) (Try.func25) #[.slice A0 l0.length c0] ?_; (with_reducible refine (spec_GoodTree.calls k _ _ l0 true _ ?side1 ?side2 A4.out).mono ?_); (case side1 => exact lC (Kd.C_below HR0.out HB.out)); (case side2 => exact HC0.out); rintro e w' ⟨rfl, ⟨nd, rfl⟩⟩; refine ⟨_, rfl, ?_⟩) | (go_at_call 27; (with_reducible refine (spec_GoodPatterns.calls k _ _ l1 t304 _ ?side1 ?side2 A6.out).mono ?_); (case side1 => repeat (first | exact (Kd.C_below HR1.out lB) | (with_reducible refine Kd.C_alloc ?_ _) | (with_reducible refine Kd.C_drewN ?_ _) | (with_reducible refine Kd.C_drew ?_))); (case side2 => exact HC1.out); rintro e w7 ⟨rfl, hb⟩; have n0_ := Aside0.mk (below_step lB hb); clear HB; have HB := n0_; clear n0_; (try clear hb); (try clear hb2); (try clear hk); (try clear hi)))
   go_meet
   case rel => exact ⟨_, (!t304), lF, H', ⟨lN⟩, ⟨lB⟩⟩
  ·replace c5 := Bool.eq_false_iff.mpr c5
   subst c5
   rw [if_neg (show ¬ (false = true) by decide)] at H
   have H' := Aside0.mk H
   clear H
   go_wp2_with (first | ((with_reducible refine gate_callee (f := 25) rfl ?_); refine gl_ (some 17) (Try.func25) #[.slice A0 l0.length c0] ?_; (with_reducible refine (spec_GoodTree.calls k _ _ l0 false _ ?side1 ?side2 A4.out).mono ?_); (case side1 => exact lC (Kd.C_below HR0.out HB.out)); (case side2 => exact HC0.out); rintro e w' ⟨rfl, ⟨nd, rfl⟩⟩; refine ⟨_, rfl, ?_⟩))
   go_meet
   case rel => exact ⟨_, (true), lF, H', ⟨lN⟩, ⟨lB⟩⟩
 case rest =>
  clear HC3
  try clear c1
  try clear c2
  try clear p2
  try clear c5
  obtain ⟨kq, x23_2, rfl, HA, HJ2, HB⟩ := hcut
  cases kq with
  | zero => exact absurd HA.out (by simp [spec_GreedyCover.j0])
  | succ kj2 =>
   have H := HA.out
   clear HA
   simp only [spec_GreedyCover.j0] at H
   by_cases c8 : x23_2 = true
   ·subst c8
    rw [if_pos rfl] at H
    simp only [Option.some.injEq, Prod.mk.injEq] at H
    obtain ⟨rfl, rfl, rfl⟩ := H
    go_wp2
    go_ret3
    exact ⟨_, lE, by first | exact Kd.R_nil _ _ _ _ _ | exact Kd.N_nil _ _ _ _ _ | exact Kd.V_nil _ _ _ _ _ | exact Kd.Q_nil _ _ _ _ _ | exact Kd.S_nil _ _ _ _ _, lB⟩
   ·replace c8 := Bool.eq_false_iff.mpr c8
    subst c8
    rw [if_neg (show ¬ (false = true) by decide)] at H
    have H' := Aside0.mk H
    clear H
    go_wp2
    go_loopg [7, 26] kj2 (fun kq v7 v26 w' => ∃ (x7_2 : List Int) (x26_2 : Int), v26 = .int .i64 x26_2 ∧ Aside0 (spec_GreedyCover.l0 kq l0 l1 x7_2 (l0.length : Int) x26_2 = some (r1, r2, r3)) ∧ Aside0 (kq ≤ kj2) ∧ Aside0 (Kd.R (Kd.int .i64) 3 w' w.heap.size (fun _ => True) v7 x7_2) ∧ Aside0 (Below w.heap.size w w'))
    case atStart => exact ⟨(([] : List Int)), (0), lF, H', ⟨Nat.le_refl _⟩, ⟨by first | exact Kd.R_nil _ _ _ _ _ | exact Kd.N_nil _ _ _ _ _ | exact Kd.V_nil _ _ _ _ _ | exact Kd.Q_nil _ _ _ _ _ | exact Kd.S_nil _ _ _ _ _⟩, ⟨lB⟩⟩
    case round =>
     clear H'
     try clear c1
     try clear c2
     try clear p2
     try clear c5
     try clear c8
     try clear p2
     obtain ⟨x7_2, x26_2, rfl, HA, HK2, HO_7, HB⟩ := hrel
     cases gk with
     | zero => exact absurd HA.out (by simp [spec_GreedyCover.l0])
     | succ k2 =>
      have H := HA.out
      clear HA
      simp only [spec_GreedyCover.l0] at H
      by_cases c9 : x26_2 < (l0.length : Int)
      ·rw [if_pos c9] at H
       have c9b0 : decide (x26_2 < (l0.length : Int)) = true := decide_eq_true c9
       clear c9
       have H' := Aside0.mk H
       clear H
       go_wp2
       go_loopg [9, 31] k2 (fun kq v9 v31 w' => ∃ (x9_3 : Int) (x31_3 : Int), v9 = .int .i64 x9_3 ∧ v31 = .int .i64 x31_3 ∧ Aside0 (spec_GreedyCover.l1 kq l0 l1 x7_2 x26_2 x9_3 (l0.length : Int) x26_2 l1 (l1.length : Int) x31_3 = some (r1, r2, r3)) ∧ Aside0 (kq ≤ k2) ∧ Aside0 (Kd.R (Kd.int .i64) 3 w' w.heap.size (fun _ => True) u7 x7_2) ∧ Aside0 (Below w.heap.size w w'))
       case atStart => exact ⟨((-1)), (0), lF, lF, H', ⟨Nat.le_refl _⟩, ⟨lR HO_7.out⟩, ⟨lB⟩⟩
       case round =>
        clear H'
        try clear c1
        try clear c2
        try clear p2
        try clear c5
        try clear c8
        try clear c9
        try clear c9b0
        try clear p2
        obtain ⟨x9_3, x31_3, rfl, rfl, HA, HK3, HO_7, HB⟩ := hrel
        cases gk with
        | zero => exact absurd HA.out (by simp [spec_GreedyCover.l1])
        | succ k3 =>
         have H := HA.out
         clear HA
         simp only [spec_GreedyCover.l1] at H
         by_cases c10 : x31_3 < (l1.length : Int)
         ·rw [if_pos c10] at H
          have c10b0 : decide (x31_3 < (l1.length : Int)) = true := decide_eq_true c10
          clear c10
          by_cases c11 : 0 ≤ x31_3
          ·rw [if_pos c11] at H
           have c11b0 : decide (0 ≤ x31_3) = true := decide_eq_true c11
           clear c11
           by_cases c12 : x31_3 < (l1.length : Int)
           ·rw [if_pos c12] at H
            have c12b0 : decide (x31_3 < (l1.length : Int)) = true := decide_eq_true c12
            clear c12
            replace H := Option.bind_eq_some_iff.mp H
            obtain ⟨⟨t310, t313⟩, A130, H⟩ := H
            replace H : (if t313 = true then (if x9_3 < 0 then (spec_GreedyCover.l1 k3 l0 l1 x7_2 x26_2 x31_3 (l0.length : Int) x26_2 l1 (l1.length : Int) (wrap64 (x31_3 + 1))) else ((spec_l9Weight.f k3 ((rd_T57 l1 x31_3).f0) ((rd_T57 l1 x31_3).f1)).bind fun t314 => (if 0 ≤ x9_3 then (if x9_3 < (l1.length : Int) then ((spec_l9Weight.f k3 ((rd_T57 l1 x9_3).f0) ((rd_T57 l1 x9_3).f1)).bind fun t316 => (if t314 > t316 then (spec_GreedyCover.l1 k3 l0 l1 x7_2 x26_2 x31_3 (l0.length : Int) x26_2 l1 (l1.length : Int) (wrap64 (x31_3 + 1))) else (spec_GreedyCover.l1 k3 l0 l1 x7_2 x26_2 x9_3 (l0.length : Int) x26_2 l1 (l1.length : Int) (wrap64 (x31_3 + 1))))) else (none)) else (none)))) else (spec_GreedyCover.l1 k3 l0 l1 x7_2 x26_2 x9_3 (l0.length : Int) x26_2 l1 (l1.length : Int) (wrap64 (x31_3 + 1)))) = some (r1, r2, r3) := H
            have A13 := Aside0.mk A130
            clear A130
            by_cases c14 : t313 = true
            ·subst c14
             rw [if_pos rfl] at H
             by_cases c15 : x9_3 < 0
             ·rw [if_pos c15] at H
              have c15b0 : decide (x9_3 < 0) = true := decide_eq_true c15
              clear c15
              have H' := Aside0.mk H
              clear H
              have p308 : 0 ≤ (x31_3 : Int) := lD
              have q308 : x31_3 < (l1.length : Int) := lD
              obtain ⟨ad308, A308_0, c308_0, e308, hx308_0, hx308_1, hl308_0, hi308_0⟩ := at_T57 HR1.out x31_3 p308 q308
              cases e308
              replace hx308_0 := pw_cell_below HB.out hx308_0
              replace hx308_1 := pw_cell_below HB.out hx308_1
              have HR308_0 := Aside0.mk hi308_0
              have HC308_0 := Aside0.mk hl308_0
              clear hi308_0 hl308_0
              replace p308 := eq_true p308
              replace q308 := eq_true q308
              try go_wp2_with (first | ((with_reducible refine gate_dst (N := 11) rfl ?_); refine bxe 11 #[.slice none 0 0, .int .i64 0] 57 ?_; intro gb309 hg w16 hbox hb; have n0_ := Aside0.mk (Kd.R_below (lR HO_7.out) hb); have n1_ := Aside0.mk (below_step lB hb); have n2_ := Aside0.mk (hbox); have n3_ := lG w hg; have n4_ := lG w hg; clear HO_7; clear HB; have HO_7 := n0_; have HB := n1_; have BK309 := n2_; have GW309 := n3_; have GE309 := n4_; clear n0_ n1_ n2_ n3_ n4_; clear hb hbox hg; obtain ⟨hcz17_0, hfz17_0, hcz17_1, hfz17_1⟩ := bk2 BK309.out) | ((with_reducible refine gate_callee (f := 42) rfl ?_); refine gl_ (some 40) (Try.func42) #[.slice A0 l0.length c0, .int .i64 x26_2, .agg #[.slice A308_0 ((rd_T57 l1 x31_3).f0).length c308_0, .int .i64 ((rd_T57 l1 x31_3).f1)]] ?_; (with_reducible refine (spec_l9Fits.calls k3 _ _ l0 x26_2 _ _ ((rd_T57 l1 x31_3).f0) ((rd_T57 l1 x31_3).f1) t310 true _ ?side1 ?side2 ?side3 ?side4 A13.out).mono ?_); (case side1 => exact Kd.C_below HR0.out lB); (case side2 => exact HC0.out); (case side3 => exact Kd.C_below HR308_0.out lB); (case side4 => exact HC308_0.out); rintro e w18 ⟨v311, rfl, ho0, hb⟩; refine ⟨_, rfl, ?_⟩; have n0_ := Aside0.mk (Kd.R_elder' (by (with_reducible repeat (first | apply Kd.R_alloc | apply Kd.R_drewN | apply Kd.R_drew)); exact (Kd.R_mono (Kd.R_far (p := ⟨gb309, 1, none⟩) (Kd.R_far (p := ⟨gb309, 0, none⟩) (Kd.R_types HO_7.out BK309.out (by decide)) (fun _ hk => hk.2) (.slice A308_0 ((rd_T57 l1 x31_3).f0).length c308_0)) (fun _ hk => hk.2) (.int .i64 ((rd_T57 l1 x31_3).f1))) (fun _ h_ => h_.1))) (Kd.R_base ho0) hb); have n1_ := Aside0.mk (Kd.R_lower (Kd.R_new' ho0 (Kd.R_lt (by (with_reducible repeat (first | apply Kd.R_alloc | apply Kd.R_drewN | apply Kd.R_drew)); exact (Kd.R_mono (Kd.R_far (p := ⟨gb309, 1, none⟩) (Kd.R_far (p := ⟨gb309, 0, none⟩) (Kd.R_types HO_7.out BK309.out (by decide)) (fun _ hk => hk.2) (.slice A308_0 ((rd_T57 l1 x31_3).f0).length c308_0)) (fun _ hk => hk.2) (.int .i64 ((rd_T57 l1 x31_3).f1))) (fun _ h_ => h_.1))))) (below_size lB)); have n2_ := Aside0.mk (blk_below (g := gb309) (o := .cells #[.slice A308_0 ((rd_T57 l1 x31_3).f0).length c308_0, .int .i64 ((rd_T57 l1 x31_3).f1)] 57 (0, 0)) (by (with_reducible repeat first | apply bN | apply bD | apply bA); refine blk_put (cs := #[.slice A308_0 ((rd_T57 l1 x31_3).f0).length c308_0, .int .i64 0]) ?_ 1 _ rfl; (with_reducible repeat first | apply bN | apply bD | apply bA); refine blk_put (cs := #[.slice none 0 0, .int .i64 0]) ?_ 0 _ rfl; (with_reducible repeat first | apply bN | apply bD | apply bA); exact BK309.out) hb); have n3_ := Aside0.mk (below_step lB hb); clear HO_7; clear BK309; clear HB; have HO_7 := n0_; have HO312 := n1_; have BK309 := n2_; have HB := n3_; clear n0_ n1_ n2_ n3_; (try clear hb); (try clear hb2); (try clear hk); (try clear hi); (try clear ho0)))
              have n0_ := Aside0.mk (Kd.R_drew HO_7.out)
              have n1_ := Aside0.mk (Kd.R_drew HO312.out)
              have n2_ := Aside0.mk (blk_drew BK309.out)
              have n3_ := Aside0.mk (below_drew1 HB.out)
              clear HO_7
              clear HO312
              clear BK309
              clear HB
              have HO_7 := n0_
              have HO312 := n1_
              have BK309 := n2_
              have HB := n3_
              clear n0_ n1_ n2_ n3_
              refine start_ (n := 15) (S := fun w' => True) (ds := []) (bs 15 0) kR rfl kR trivial (fun hHeld => ?_); refine with_tabW spec_GreedyCover.tab12 spec_GreedyCover.bits12 (fun HT_ HW_ => ?_)
              generalize w18.drew = w19 at HO_7 HO312 BK309 HB hHeld ⊢
              refine pur_ 0 43 (bs 15 1) (any_of HT_.out kR) ?_
              refine pur_ 1 44 (bs 15 3) (any_of HT_.out kR) ?_
              refine pur_ 2 45 (bs 15 7) (any_of HT_.out kR) ?_
              refine pur_ 3 46 (bs 15 15) (any_of HT_.out kR) ?_
              refine pur_ 4 47 (bs 15 31) (any_of HT_.out kR) ?_
              refine puu_ 5 48 (bs 15 63) (any_of HT_.out kR) ?_
              refine puu_ 6 49 (bs 15 127) (any_of HT_.out kR) ?_
              refine puu_ 7 50 (bs 15 255) (any_of HT_.out kR) ?_
              refine puu_ 8 51 (bs 15 511) (any_of HT_.out kR) ?_
              refine puu_ 9 52 (bs 15 1023) (any_of HT_.out kR) ?_
              refine puu_ 10 53 (bs 15 2047) (any_of HT_.out kR) ?_
              refine puu_ 11 54 (bs 15 4095) (any_of HT_.out kR) ?_
              refine puu_ 12 55 (bs 15 8191) (any_of HT_.out kR) ?_
              refine pur_ 13 56 (bs 15 16383) (any_of HT_.out kR) ?_
              refine pur_ 14 57 (bs 15 32767) (any_of HT_.out kR) ?_
              refine done_ (done_of HT_.out (by kernel_rfl)) ?_
              try go_wp2
              go_roundg k3
              case measure => have := HJ2.out; have := HK2.out; have := HK3.out; omega
              case rel => exact ⟨(x31_3), (wrap64 (x31_3 + 1)), lF, lF, H', ⟨by have := HJ2.out; have := HK2.out; have := HK3.out; omega⟩, ⟨by (with_reducible repeat (first | apply Kd.R_alloc | apply Kd.R_drewN | apply Kd.R_drew)); exact Kd.R_mono HO_7.out (fun _ hk => trivial)⟩, ⟨lB⟩⟩
             ·rw [if_neg c15] at H
              have c15b0 : decide (x9_3 < 0) = false := decide_eq_false c15
              clear c15
              replace H := lO H
              obtain ⟨t314, A20, H⟩ := H
              by_cases c21 : 0 ≤ x9_3
              ·rw [if_pos c21] at H
               have c21b0 : decide (0 ≤ x9_3) = true := decide_eq_true c21
               clear c21
               by_cases c22 : x9_3 < (l1.length : Int)
               ·rw [if_pos c22] at H
                have c22b0 : decide (x9_3 < (l1.length : Int)) = true := decide_eq_true c22
                clear c22
                replace H := lO H
                obtain ⟨t316, A23, H⟩ := H
                by_cases c24 : t314 > t316
                ·rw [if_pos c24] at H
                 have c24b0 : decide (t316 < t314) = true := decide_eq_true c24
                 clear c24
                 have H' := Aside0.mk H
                 clear H
                 have p308 : 0 ≤ (x31_3 : Int) := lD
                 have q308 : x31_3 < (l1.length : Int) := lD
                 obtain ⟨ad308, A308_0, c308_0, e308, hx308_0, hx308_1, hl308_0, hi308_0⟩ := at_T57 HR1.out x31_3 p308 q308
                 cases e308
                 replace hx308_0 := pw_cell_below HB.out hx308_0
                 replace hx308_1 := pw_cell_below HB.out hx308_1
                 have HR308_0 := Aside0.mk hi308_0
                 have HC308_0 := Aside0.mk hl308_0
                 clear hi308_0 hl308_0
                 replace p308 := eq_true p308
                 replace q308 := eq_true q308
                 try go_wp2_with (first | ((with_reducible refine gate_dst (N := 11) rfl ?_); refine bxe 11 #[.slice none 0 0, .int .i64 0] 57 ?_; intro gb309 hg w25 hbox hb; have n0_ := Aside0.mk (Kd.R_below (lR HO_7.out) hb); have n1_ := Aside0.mk (below_step lB hb); have n2_ := Aside0.mk (hbox); have n3_ := lG w hg; have n4_ := lG w hg; clear HO_7; clear HB; have HO_7 := n0_; have HB := n1_; have BK309 := n2_; have GW309 := n3_; have GE309 := n4_; clear n0_ n1_ n2_ n3_ n4_; clear hb hbox hg; obtain ⟨hcz26_0, hfz26_0, hcz26_1, hfz26_1⟩ := bk2 BK309.out) | ((with_reducible refine gate_callee (f := 42) rfl ?_); refine gl_ (some 40) (Try.func42) #[.slice A0 l0.length c0, .int .i64 x26_2, .agg #[.slice A308_0 ((rd_T57 l1 x31_3).f0).length c308_0, .int .i64 ((rd_T57 l1 x31_3).f1)]] ?_; (with_reducible refine (spec_l9Fits.calls k3 _ _ l0 x26_2 _ _ ((rd_T57 l1 x31_3).f0) ((rd_T57 l1 x31_3).f1) t310 true _ ?side1 ?side2 ?side3 ?side4 A13.out).mono ?_); (case side1 => exact Kd.C_below HR0.out lB); (case side2 => exact HC0.out); (case side3 => exact Kd.C_below HR308_0.out lB); (case side4 => exact HC308_0.out); rintro e w27 ⟨v311, rfl, ho0, hb⟩; refine ⟨_, rfl, ?_⟩; have n0_ := Aside0.mk (Kd.R_elder' (by (with_reducible repeat (first | apply Kd.R_alloc | apply Kd.R_drewN | apply Kd.R_drew)); exact (Kd.R_mono (Kd.R_far (p := ⟨gb309, 1, none⟩) (Kd.R_far (p := ⟨gb309, 0, none⟩) (Kd.R_types HO_7.out BK309.out (by decide)) (fun _ hk => hk.2) (.slice A308_0 ((rd_T57 l1 x31_3).f0).length c308_0)) (fun _ hk => hk.2) (.int .i64 ((rd_T57 l1 x31_3).f1))) (fun _ h_ => h_.1))) (Kd.R_base ho0) hb); have n1_ := Aside0.mk (Kd.R_lower (Kd.R_new' ho0 (Kd.R_lt (by (with_reducible repeat (first | apply Kd.R_alloc | apply Kd.R_drewN | apply Kd.R_drew)); exact (Kd.R_mono (Kd.R_far (p := ⟨gb309, 1, none⟩) (Kd.R_far (p := ⟨gb309, 0, none⟩) (Kd.R_types HO_7.out BK309.out (by decide)) (fun _ hk => hk.2) (.slice A308_0 ((rd_T57 l1 x31_3).f0).length c308_0)) (fun _ hk => hk.2) (.int .i64 ((rd_T57 l1 x31_3).f1))) (fun _ h_ => h_.1))))) (below_size lB)); have n2_ := Aside0.mk (blk_below (g := gb309) (o := .cells #[.slice A308_0 ((rd_T57 l1 x31_3).f0).length c308_0, .int .i64 ((rd_T57 l1 x31_3).f1)] 57 (0, 0)) (by (with_reducible repeat first | apply bN | apply bD | apply bA); refine blk_put (cs := #[.slice A308_0 ((rd_T57 l1 x31_3).f0).length c308_0, .int .i64 0]) ?_ 1 _ rfl; (with_reducible repeat first | apply bN | apply bD | apply bA); refine blk_put (cs := #[.slice none 0 0, .int .i64 0]) ?_ 0 _ rfl; (with_reducible repeat first | apply bN | apply bD | apply bA); exact BK309.out) hb); have n3_ := Aside0.mk (below_step lB hb); clear HO_7; clear BK309; clear HB; have HO_7 := n0_; have HO312 := n1_; have BK309 := n2_; have HB := n3_; clear n0_ n1_ n2_ n3_; (try clear hb); (try clear hb2); (try clear hk); (try clear hi); (try clear ho0)))
                 have n0_ := Aside0.mk (Kd.R_drew HO_7.out)
                 have n1_ := Aside0.mk (Kd.R_drew HO312.out)
                 have n2_ := Aside0.mk (blk_drew BK309.out)
                 have n3_ := Aside0.mk (below_drew1 HB.out)
                 clear HO_7
                 clear HO312
                 clear BK309
                 clear HB
                 have HO_7 := n0_
                 have HO312 := n1_
                 have BK309 := n2_
                 have HB := n3_
                 clear n0_ n1_ n2_ n3_
                 have p315 : 0 ≤ (x9_3 : Int) := lD
                 have q315 : x9_3 < (l1.length : Int) := lD
                 obtain ⟨ad315, A315_0, c315_0, e315, hx315_0, hx315_1, hl315_0, hi315_0⟩ := at_T57 HR1.out x9_3 p315 q315
                 have hw315_1 := hx315_1
                 have hw315_0 := hx315_0
                 obtain rfl : ad308 = ad315 := (by injection e315)
                 replace hx315_0 := pw_cell_below HB.out hx315_0
                 replace hx315_1 := pw_cell_below HB.out hx315_1
                 have HR315_0 := Aside0.mk hi315_0
                 have HC315_0 := Aside0.mk hl315_0
                 clear hi315_0 hl315_0
                 replace p315 := eq_true p315
                 replace q315 := eq_true q315
                 refine start_ (n := 15) (S := fun w' => w'.cell? ⟨gb309, 0, none⟩ = some (.slice A308_0 ((rd_T57 l1 x31_3).f0).length c308_0) ∧ w'.cell? ⟨gb309, 1, none⟩ = some (.int .i64 ((rd_T57 l1 x31_3).f1)) ∧ w'.cell? (ad308.add ((x9_3).toNat * 2)) = some (.slice A315_0 ((rd_T57 l1 x9_3).f0).length c315_0) ∧ w'.cell? ⟨(ad308.add ((x9_3).toNat * 2)).block, (ad308.add ((x9_3).toNat * 2)).off + 1, none⟩ = some (.int .i64 ((rd_T57 l1 x9_3).f1))) (ds := []) (bs 15 0) kR rfl kR ⟨bZ BK309.out 0, bZ BK309.out 1, ((HB.out.cell (World.block_lt_of_cell? w _ hw315_0)).trans hw315_0), ((HB.out.cell (World.block_lt_of_cell? w _ hw315_1)).trans hw315_1)⟩ (fun hHeld => ?_); refine with_tabW spec_GreedyCover.tab12 spec_GreedyCover.bits12 (fun HT_ HW_ => ?_)
                 generalize w27.drew = w28 at HO_7 HO312 BK309 HB HR315_0 hx315_0 hx315_1 hHeld ⊢
                 refine pur_ 0 43 (bs 15 1) (any_of HT_.out kR) ?_
                 refine pur_ 1 44 (bs 15 3) (any_of HT_.out kR) ?_
                 refine pur_ 2 45 (bs 15 7) (any_of HT_.out kR) ?_
                 refine pur_ 3 46 (bs 15 15) (any_of HT_.out kR) ?_
                 refine pur_ 4 47 (bs 15 31) (any_of HT_.out kR) ?_
                 refine pur_ 7 50 (bs 15 159) (any_of HT_.out kR) ?_
                 refine pur_ 8 51 (bs 15 415) (any_of HT_.out kR) ?_
                 refine pur_ 9 52 (bs 15 927) (any_of HT_.out kR) ?_
                 refine tak_ 5 48 (bs 15 959) (take_ofW HT_.out HW_.out kR) hHeld ?_
                 refine tak_ 10 53 (bs 15 1983) (take_ofW HT_.out HW_.out kR) hHeld ?_
                 refine one_ (i := 6) (N := some 49) (bs 15 2047) rfl rfl (one_of HT_.out (by kernel_rfl)) (by decide) (fun K hK => ?_)
                 refine goes_ Try.func43 (by kernel_rfl) rfl #[.agg #[.slice A308_0 ((rd_T57 l1 x31_3).f0).length c308_0, .int .i64 ((rd_T57 l1 x31_3).f1)]] (by rfl) rfl rfl (by (try simp only [List.map_toArray, List.map_cons, List.map_nil]); first | done | rfl | (simp only [List.length_drop, List.length_take]; rfl)) ?_
                 with_reducible refine (spec_l9Weight.calls k3 _ _ ((rd_T57 l1 x31_3).f0) ((rd_T57 l1 x31_3).f1) t314 _ ?side1 ?side2 A20.out).mono ?_
                 (case side1 => exact lC (Kd.C_below HR308_0.out HB.out))
                 (case side2 => exact HC308_0.out)
                 rintro e w29 ⟨rfl, hb⟩
                 refine ⟨_, rfl, ?_⟩
                 have n0_ := Aside0.mk (Kd.R_below (lR HO_7.out) hb)
                 have n1_ := Aside0.mk (Kd.R_below (lR HO312.out) hb)
                 have n2_ := Aside0.mk (blk_below (lK BK309.out) hb)
                 have n3_ := Aside0.mk (below_step lB hb)
                 clear HO_7
                 clear HO312
                 clear BK309
                 clear HB
                 have HO_7 := n0_
                 have HO312 := n1_
                 have BK309 := n2_
                 have HB := n3_
                 clear n0_ n1_ n2_ n3_
                 (try clear hb)
                 (try clear hb2)
                 (try clear hk)
                 (try clear hi)
                 refine hK.out _ _ ⟨bZ BK309.out 0, bZ BK309.out 1, ((HB.out.cell (World.block_lt_of_cell? w _ hw315_0)).trans hw315_0), ((HB.out.cell (World.block_lt_of_cell? w _ hw315_1)).trans hw315_1)⟩ (fun hHeld => ?_)
                 clear hK K
                 refine norm_ (a' := ?_) ?_ ?_
                 rotate_left
                 ·show Act.put _ (some 49) _ = _
                  simp only [Act.put, List.setIfInBounds_toArray, List.set_cons_zero, List.set_cons_succ, i64_w, i32_w]
                  rfl
                 refine one_ (i := 11) (N := some 54) (bs 15 4095) rfl rfl (one_of HT_.out (by kernel_rfl)) (by decide) (fun K hK => ?_)
                 refine goes_ Try.func43 (by kernel_rfl) rfl #[.agg #[.slice A315_0 ((rd_T57 l1 x9_3).f0).length c315_0, .int .i64 ((rd_T57 l1 x9_3).f1)]] (by rfl) rfl rfl (by (try simp only [List.map_toArray, List.map_cons, List.map_nil]); first | done | rfl | (simp only [List.length_drop, List.length_take]; rfl)) ?_
                 with_reducible refine (spec_l9Weight.calls k3 _ _ ((rd_T57 l1 x9_3).f0) ((rd_T57 l1 x9_3).f1) t316 _ ?side1 ?side2 A23.out).mono ?_
                 (case side1 => exact lC (Kd.C_below HR315_0.out HB.out))
                 (case side2 => exact HC315_0.out)
                 rintro e w30 ⟨rfl, hb⟩
                 refine ⟨_, rfl, ?_⟩
                 have n0_ := Aside0.mk (Kd.R_below (lR HO_7.out) hb)
                 have n1_ := Aside0.mk (Kd.R_below (lR HO312.out) hb)
                 have n2_ := Aside0.mk (blk_below (lK BK309.out) hb)
                 have n3_ := Aside0.mk (below_step lB hb)
                 clear HO_7
                 clear HO312
                 clear BK309
                 clear HB
                 have HO_7 := n0_
                 have HO312 := n1_
                 have BK309 := n2_
                 have HB := n3_
                 clear n0_ n1_ n2_ n3_
                 (try clear hb)
                 (try clear hb2)
                 (try clear hk)
                 (try clear hi)
                 refine hK.out _ _ ⟨bZ BK309.out 0, bZ BK309.out 1, ((HB.out.cell (World.block_lt_of_cell? w _ hw315_0)).trans hw315_0), ((HB.out.cell (World.block_lt_of_cell? w _ hw315_1)).trans hw315_1)⟩ (fun hHeld => ?_)
                 clear hK K
                 refine norm_ (a' := ?_) ?_ ?_
                 rotate_left
                 ·show Act.put _ (some 54) _ = _
                  simp only [Act.put, List.setIfInBounds_toArray, List.set_cons_zero, List.set_cons_succ, i64_w, i32_w]
                  rfl
                 refine pur_ 12 55 (bs 15 8191) (any_of HT_.out kR) ?_
                 refine pur_ 13 56 (bs 15 16383) (any_of HT_.out kR) ?_
                 refine pur_ 14 57 (bs 15 32767) (any_of HT_.out kR) ?_
                 refine done_ (done_of HT_.out (by kernel_rfl)) ?_
                 try go_wp2
                 go_roundg k3
                 case measure => have := HJ2.out; have := HK2.out; have := HK3.out; omega
                 case rel => exact ⟨(x31_3), (wrap64 (x31_3 + 1)), lF, lF, H', ⟨by have := HJ2.out; have := HK2.out; have := HK3.out; omega⟩, ⟨by (with_reducible repeat (first | apply Kd.R_alloc | apply Kd.R_drewN | apply Kd.R_drew)); exact Kd.R_mono HO_7.out (fun _ hk => trivial)⟩, ⟨lB⟩⟩
                ·rw [if_neg c24] at H
                 have c24b0 : decide (t316 < t314) = false := decide_eq_false c24
                 clear c24
                 have H' := Aside0.mk H
                 clear H
                 have p308 : 0 ≤ (x31_3 : Int) := lD
                 have q308 : x31_3 < (l1.length : Int) := lD
                 obtain ⟨ad308, A308_0, c308_0, e308, hx308_0, hx308_1, hl308_0, hi308_0⟩ := at_T57 HR1.out x31_3 p308 q308
                 cases e308
                 replace hx308_0 := pw_cell_below HB.out hx308_0
                 replace hx308_1 := pw_cell_below HB.out hx308_1
                 have HR308_0 := Aside0.mk hi308_0
                 have HC308_0 := Aside0.mk hl308_0
                 clear hi308_0 hl308_0
                 replace p308 := eq_true p308
                 replace q308 := eq_true q308
                 try go_wp2_with (first | ((with_reducible refine gate_dst (N := 11) rfl ?_); refine bxe 11 #[.slice none 0 0, .int .i64 0] 57 ?_; intro gb309 hg w31 hbox hb; have n0_ := Aside0.mk (Kd.R_below (lR HO_7.out) hb); have n1_ := Aside0.mk (below_step lB hb); have n2_ := Aside0.mk (hbox); have n3_ := lG w hg; have n4_ := lG w hg; clear HO_7; clear HB; have HO_7 := n0_; have HB := n1_; have BK309 := n2_; have GW309 := n3_; have GE309 := n4_; clear n0_ n1_ n2_ n3_ n4_; clear hb hbox hg; obtain ⟨hcz32_0, hfz32_0, hcz32_1, hfz32_1⟩ := bk2 BK309.out) | ((with_reducible refine gate_callee (f := 42) rfl ?_); refine gl_ (some 40) (Try.func42) #[.slice A0 l0.length c0, .int .i64 x26_2, .agg #[.slice A308_0 ((rd_T57 l1 x31_3).f0).length c308_0, .int .i64 ((rd_T57 l1 x31_3).f1)]] ?_; (with_reducible refine (spec_l9Fits.calls k3 _ _ l0 x26_2 _ _ ((rd_T57 l1 x31_3).f0) ((rd_T57 l1 x31_3).f1) t310 true _ ?side1 ?side2 ?side3 ?side4 A13.out).mono ?_); (case side1 => exact Kd.C_below HR0.out lB); (case side2 => exact HC0.out); (case side3 => exact Kd.C_below HR308_0.out lB); (case side4 => exact HC308_0.out); rintro e w33 ⟨v311, rfl, ho0, hb⟩; refine ⟨_, rfl, ?_⟩; have n0_ := Aside0.mk (Kd.R_elder' (by (with_reducible repeat (first | apply Kd.R_alloc | apply Kd.R_drewN | apply Kd.R_drew)); exact (Kd.R_mono (Kd.R_far (p := ⟨gb309, 1, none⟩) (Kd.R_far (p := ⟨gb309, 0, none⟩) (Kd.R_types HO_7.out BK309.out (by decide)) (fun _ hk => hk.2) (.slice A308_0 ((rd_T57 l1 x31_3).f0).length c308_0)) (fun _ hk => hk.2) (.int .i64 ((rd_T57 l1 x31_3).f1))) (fun _ h_ => h_.1))) (Kd.R_base ho0) hb); have n1_ := Aside0.mk (Kd.R_lower (Kd.R_new' ho0 (Kd.R_lt (by (with_reducible repeat (first | apply Kd.R_alloc | apply Kd.R_drewN | apply Kd.R_drew)); exact (Kd.R_mono (Kd.R_far (p := ⟨gb309, 1, none⟩) (Kd.R_far (p := ⟨gb309, 0, none⟩) (Kd.R_types HO_7.out BK309.out (by decide)) (fun _ hk => hk.2) (.slice A308_0 ((rd_T57 l1 x31_3).f0).length c308_0)) (fun _ hk => hk.2) (.int .i64 ((rd_T57 l1 x31_3).f1))) (fun _ h_ => h_.1))))) (below_size lB)); have n2_ := Aside0.mk (blk_below (g := gb309) (o := .cells #[.slice A308_0 ((rd_T57 l1 x31_3).f0).length c308_0, .int .i64 ((rd_T57 l1 x31_3).f1)] 57 (0, 0)) (by (with_reducible repeat first | apply bN | apply bD | apply bA); refine blk_put (cs := #[.slice A308_0 ((rd_T57 l1 x31_3).f0).length c308_0, .int .i64 0]) ?_ 1 _ rfl; (with_reducible repeat first | apply bN | apply bD | apply bA); refine blk_put (cs := #[.slice none 0 0, .int .i64 0]) ?_ 0 _ rfl; (with_reducible repeat first | apply bN | apply bD | apply bA); exact BK309.out) hb); have n3_ := Aside0.mk (below_step lB hb); clear HO_7; clear BK309; clear HB; have HO_7 := n0_; have HO312 := n1_; have BK309 := n2_; have HB := n3_; clear n0_ n1_ n2_ n3_; (try clear hb); (try clear hb2); (try clear hk); (try clear hi); (try clear ho0)))
                 have n0_ := Aside0.mk (Kd.R_drew HO_7.out)
                 have n1_ := Aside0.mk (Kd.R_drew HO312.out)
                 have n2_ := Aside0.mk (blk_drew BK309.out)
                 have n3_ := Aside0.mk (below_drew1 HB.out)
                 clear HO_7
                 clear HO312
                 clear BK309
                 clear HB
                 have HO_7 := n0_
                 have HO312 := n1_
                 have BK309 := n2_
                 have HB := n3_
                 clear n0_ n1_ n2_ n3_
                 have p315 : 0 ≤ (x9_3 : Int) := lD
                 have q315 : x9_3 < (l1.length : Int) := lD
                 obtain ⟨ad315, A315_0, c315_0, e315, hx315_0, hx315_1, hl315_0, hi315_0⟩ := at_T57 HR1.out x9_3 p315 q315
                 have hw315_1 := hx315_1
                 have hw315_0 := hx315_0
                 obtain rfl : ad308 = ad315 := (by injection e315)
                 replace hx315_0 := pw_cell_below HB.out hx315_0
                 replace hx315_1 := pw_cell_below HB.out hx315_1
                 have HR315_0 := Aside0.mk hi315_0
                 have HC315_0 := Aside0.mk hl315_0
                 clear hi315_0 hl315_0
                 replace p315 := eq_true p315
                 replace q315 := eq_true q315
                 refine start_ (n := 15) (S := fun w' => w'.cell? ⟨gb309, 0, none⟩ = some (.slice A308_0 ((rd_T57 l1 x31_3).f0).length c308_0) ∧ w'.cell? ⟨gb309, 1, none⟩ = some (.int .i64 ((rd_T57 l1 x31_3).f1)) ∧ w'.cell? (ad308.add ((x9_3).toNat * 2)) = some (.slice A315_0 ((rd_T57 l1 x9_3).f0).length c315_0) ∧ w'.cell? ⟨(ad308.add ((x9_3).toNat * 2)).block, (ad308.add ((x9_3).toNat * 2)).off + 1, none⟩ = some (.int .i64 ((rd_T57 l1 x9_3).f1))) (ds := []) (bs 15 0) kR rfl kR ⟨bZ BK309.out 0, bZ BK309.out 1, ((HB.out.cell (World.block_lt_of_cell? w _ hw315_0)).trans hw315_0), ((HB.out.cell (World.block_lt_of_cell? w _ hw315_1)).trans hw315_1)⟩ (fun hHeld => ?_); refine with_tabW spec_GreedyCover.tab12 spec_GreedyCover.bits12 (fun HT_ HW_ => ?_)
                 generalize w33.drew = w34 at HO_7 HO312 BK309 HB HR315_0 hx315_0 hx315_1 hHeld ⊢
                 refine pur_ 0 43 (bs 15 1) (any_of HT_.out kR) ?_
                 refine pur_ 1 44 (bs 15 3) (any_of HT_.out kR) ?_
                 refine pur_ 2 45 (bs 15 7) (any_of HT_.out kR) ?_
                 refine pur_ 3 46 (bs 15 15) (any_of HT_.out kR) ?_
                 refine pur_ 4 47 (bs 15 31) (any_of HT_.out kR) ?_
                 refine pur_ 7 50 (bs 15 159) (any_of HT_.out kR) ?_
                 refine pur_ 8 51 (bs 15 415) (any_of HT_.out kR) ?_
                 refine pur_ 9 52 (bs 15 927) (any_of HT_.out kR) ?_
                 refine tak_ 5 48 (bs 15 959) (take_ofW HT_.out HW_.out kR) hHeld ?_
                 refine tak_ 10 53 (bs 15 1983) (take_ofW HT_.out HW_.out kR) hHeld ?_
                 refine one_ (i := 6) (N := some 49) (bs 15 2047) rfl rfl (one_of HT_.out (by kernel_rfl)) (by decide) (fun K hK => ?_)
                 refine goes_ Try.func43 (by kernel_rfl) rfl #[.agg #[.slice A308_0 ((rd_T57 l1 x31_3).f0).length c308_0, .int .i64 ((rd_T57 l1 x31_3).f1)]] (by rfl) rfl rfl (by (try simp only [List.map_toArray, List.map_cons, List.map_nil]); first | done | rfl | (simp only [List.length_drop, List.length_take]; rfl)) ?_
                 with_reducible refine (spec_l9Weight.calls k3 _ _ ((rd_T57 l1 x31_3).f0) ((rd_T57 l1 x31_3).f1) t314 _ ?side1 ?side2 A20.out).mono ?_
                 (case side1 => exact lC (Kd.C_below HR308_0.out HB.out))
                 (case side2 => exact HC308_0.out)
                 rintro e w35 ⟨rfl, hb⟩
                 refine ⟨_, rfl, ?_⟩
                 have n0_ := Aside0.mk (Kd.R_below (lR HO_7.out) hb)
                 have n1_ := Aside0.mk (Kd.R_below (lR HO312.out) hb)
                 have n2_ := Aside0.mk (blk_below (lK BK309.out) hb)
                 have n3_ := Aside0.mk (below_step lB hb)
                 clear HO_7
                 clear HO312
                 clear BK309
                 clear HB
                 have HO_7 := n0_
                 have HO312 := n1_
                 have BK309 := n2_
                 have HB := n3_
                 clear n0_ n1_ n2_ n3_
                 (try clear hb)
                 (try clear hb2)
                 (try clear hk)
                 (try clear hi)
                 refine hK.out _ _ ⟨bZ BK309.out 0, bZ BK309.out 1, ((HB.out.cell (World.block_lt_of_cell? w _ hw315_0)).trans hw315_0), ((HB.out.cell (World.block_lt_of_cell? w _ hw315_1)).trans hw315_1)⟩ (fun hHeld => ?_)
                 clear hK K
                 refine norm_ (a' := ?_) ?_ ?_
                 rotate_left
                 ·show Act.put _ (some 49) _ = _
                  simp only [Act.put, List.setIfInBounds_toArray, List.set_cons_zero, List.set_cons_succ, i64_w, i32_w]
                  rfl
                 refine one_ (i := 11) (N := some 54) (bs 15 4095) rfl rfl (one_of HT_.out (by kernel_rfl)) (by decide) (fun K hK => ?_)
                 refine goes_ Try.func43 (by kernel_rfl) rfl #[.agg #[.slice A315_0 ((rd_T57 l1 x9_3).f0).length c315_0, .int .i64 ((rd_T57 l1 x9_3).f1)]] (by rfl) rfl rfl (by (try simp only [List.map_toArray, List.map_cons, List.map_nil]); first | done | rfl | (simp only [List.length_drop, List.length_take]; rfl)) ?_
                 with_reducible refine (spec_l9Weight.calls k3 _ _ ((rd_T57 l1 x9_3).f0) ((rd_T57 l1 x9_3).f1) t316 _ ?side1 ?side2 A23.out).mono ?_
                 (case side1 => exact lC (Kd.C_below HR315_0.out HB.out))
                 (case side2 => exact HC315_0.out)
                 rintro e w36 ⟨rfl, hb⟩
                 refine ⟨_, rfl, ?_⟩
                 have n0_ := Aside0.mk (Kd.R_below (lR HO_7.out) hb)
                 have n1_ := Aside0.mk (Kd.R_below (lR HO312.out) hb)
                 have n2_ := Aside0.mk (blk_below (lK BK309.out) hb)
                 have n3_ := Aside0.mk (below_step lB hb)
                 clear HO_7
                 clear HO312
                 clear BK309
                 clear HB
                 have HO_7 := n0_
                 have HO312 := n1_
                 have BK309 := n2_
                 have HB := n3_
                 clear n0_ n1_ n2_ n3_
                 (try clear hb)
                 (try clear hb2)
                 (try clear hk)
                 (try clear hi)
                 refine hK.out _ _ ⟨bZ BK309.out 0, bZ BK309.out 1, ((HB.out.cell (World.block_lt_of_cell? w _ hw315_0)).trans hw315_0), ((HB.out.cell (World.block_lt_of_cell? w _ hw315_1)).trans hw315_1)⟩ (fun hHeld => ?_)
                 clear hK K
                 refine norm_ (a' := ?_) ?_ ?_
                 rotate_left
                 ·show Act.put _ (some 54) _ = _
                  simp only [Act.put, List.setIfInBounds_toArray, List.set_cons_zero, List.set_cons_succ, i64_w, i32_w]
                  rfl
                 refine pur_ 12 55 (bs 15 8191) (any_of HT_.out kR) ?_
                 refine pur_ 13 56 (bs 15 16383) (any_of HT_.out kR) ?_
                 refine pur_ 14 57 (bs 15 32767) (any_of HT_.out kR) ?_
                 refine done_ (done_of HT_.out (by kernel_rfl)) ?_
                 try go_wp2
                 go_roundg k3
                 case measure => have := HJ2.out; have := HK2.out; have := HK3.out; omega
                 case rel => exact ⟨(x9_3), (wrap64 (x31_3 + 1)), lF, lF, H', ⟨by have := HJ2.out; have := HK2.out; have := HK3.out; omega⟩, ⟨by (with_reducible repeat (first | apply Kd.R_alloc | apply Kd.R_drewN | apply Kd.R_drew)); exact Kd.R_mono HO_7.out (fun _ hk => trivial)⟩, ⟨lB⟩⟩
               ·rw [if_neg c22] at H
                exact absurd H (by simp)
              ·rw [if_neg c21] at H
               exact absurd H (by simp)
            ·replace c14 := Bool.eq_false_iff.mpr c14
             subst c14
             rw [if_neg (show ¬ (false = true) by decide)] at H
             have H' := Aside0.mk H
             clear H
             have p308 : 0 ≤ (x31_3 : Int) := lD
             have q308 : x31_3 < (l1.length : Int) := lD
             obtain ⟨ad308, A308_0, c308_0, e308, hx308_0, hx308_1, hl308_0, hi308_0⟩ := at_T57 HR1.out x31_3 p308 q308
             cases e308
             replace hx308_0 := pw_cell_below HB.out hx308_0
             replace hx308_1 := pw_cell_below HB.out hx308_1
             have HR308_0 := Aside0.mk hi308_0
             have HC308_0 := Aside0.mk hl308_0
             clear hi308_0 hl308_0
             replace p308 := eq_true p308
             replace q308 := eq_true q308
             try go_wp2_with (first | ((with_reducible refine gate_dst (N := 11) rfl ?_); refine bxe 11 #[.slice none 0 0, .int .i64 0] 57 ?_; intro gb309 hg w37 hbox hb; have n0_ := Aside0.mk (Kd.R_below (lR HO_7.out) hb); have n1_ := Aside0.mk (below_step lB hb); have n2_ := Aside0.mk (hbox); have n3_ := lG w hg; have n4_ := lG w hg; clear HO_7; clear HB; have HO_7 := n0_; have HB := n1_; have BK309 := n2_; have GW309 := n3_; have GE309 := n4_; clear n0_ n1_ n2_ n3_ n4_; clear hb hbox hg; obtain ⟨hcz38_0, hfz38_0, hcz38_1, hfz38_1⟩ := bk2 BK309.out) | ((with_reducible refine gate_callee (f := 42) rfl ?_); refine gl_ (some 40) (Try.func42) #[.slice A0 l0.length c0, .int .i64 x26_2, .agg #[.slice A308_0 ((rd_T57 l1 x31_3).f0).length c308_0, .int .i64 ((rd_T57 l1 x31_3).f1)]] ?_; (with_reducible refine (spec_l9Fits.calls k3 _ _ l0 x26_2 _ _ ((rd_T57 l1 x31_3).f0) ((rd_T57 l1 x31_3).f1) t310 false _ ?side1 ?side2 ?side3 ?side4 A13.out).mono ?_); (case side1 => exact Kd.C_below HR0.out lB); (case side2 => exact HC0.out); (case side3 => exact Kd.C_below HR308_0.out lB); (case side4 => exact HC308_0.out); rintro e w39 ⟨v311, rfl, ho0, hb⟩; refine ⟨_, rfl, ?_⟩; have n0_ := Aside0.mk (Kd.R_elder' (by (with_reducible repeat (first | apply Kd.R_alloc | apply Kd.R_drewN | apply Kd.R_drew)); exact (Kd.R_mono (Kd.R_far (p := ⟨gb309, 1, none⟩) (Kd.R_far (p := ⟨gb309, 0, none⟩) (Kd.R_types HO_7.out BK309.out (by decide)) (fun _ hk => hk.2) (.slice A308_0 ((rd_T57 l1 x31_3).f0).length c308_0)) (fun _ hk => hk.2) (.int .i64 ((rd_T57 l1 x31_3).f1))) (fun _ h_ => h_.1))) (Kd.R_base ho0) hb); have n1_ := Aside0.mk (Kd.R_lower (Kd.R_new' ho0 (Kd.R_lt (by (with_reducible repeat (first | apply Kd.R_alloc | apply Kd.R_drewN | apply Kd.R_drew)); exact (Kd.R_mono (Kd.R_far (p := ⟨gb309, 1, none⟩) (Kd.R_far (p := ⟨gb309, 0, none⟩) (Kd.R_types HO_7.out BK309.out (by decide)) (fun _ hk => hk.2) (.slice A308_0 ((rd_T57 l1 x31_3).f0).length c308_0)) (fun _ hk => hk.2) (.int .i64 ((rd_T57 l1 x31_3).f1))) (fun _ h_ => h_.1))))) (below_size lB)); have n2_ := Aside0.mk (blk_below (g := gb309) (o := .cells #[.slice A308_0 ((rd_T57 l1 x31_3).f0).length c308_0, .int .i64 ((rd_T57 l1 x31_3).f1)] 57 (0, 0)) (by (with_reducible repeat first | apply bN | apply bD | apply bA); refine blk_put (cs := #[.slice A308_0 ((rd_T57 l1 x31_3).f0).length c308_0, .int .i64 0]) ?_ 1 _ rfl; (with_reducible repeat first | apply bN | apply bD | apply bA); refine blk_put (cs := #[.slice none 0 0, .int .i64 0]) ?_ 0 _ rfl; (with_reducible repeat first | apply bN | apply bD | apply bA); exact BK309.out) hb); have n3_ := Aside0.mk (below_step lB hb); clear HO_7; clear BK309; clear HB; have HO_7 := n0_; have HO312 := n1_; have BK309 := n2_; have HB := n3_; clear n0_ n1_ n2_ n3_; (try clear hb); (try clear hb2); (try clear hk); (try clear hi); (try clear ho0)))
             have n0_ := Aside0.mk (Kd.R_drew HO_7.out)
             have n1_ := Aside0.mk (Kd.R_drew HO312.out)
             have n2_ := Aside0.mk (blk_drew BK309.out)
             have n3_ := Aside0.mk (below_drew1 HB.out)
             clear HO_7
             clear HO312
             clear BK309
             clear HB
             have HO_7 := n0_
             have HO312 := n1_
             have BK309 := n2_
             have HB := n3_
             clear n0_ n1_ n2_ n3_
             refine start_ (n := 15) (S := fun w' => True) (ds := []) (bs 15 0) kR rfl kR trivial (fun hHeld => ?_); refine with_tabW spec_GreedyCover.tab12 spec_GreedyCover.bits12 (fun HT_ HW_ => ?_)
             generalize w39.drew = w40 at HO_7 HO312 BK309 HB hHeld ⊢
             refine pur_ 0 43 (bs 15 1) (any_of HT_.out kR) ?_
             refine pur_ 1 44 (bs 15 3) (any_of HT_.out kR) ?_
             refine puu_ 2 45 (bs 15 7) (any_of HT_.out kR) ?_
             refine puu_ 3 46 (bs 15 15) (any_of HT_.out kR) ?_
             refine puu_ 4 47 (bs 15 31) (any_of HT_.out kR) ?_
             refine puu_ 5 48 (bs 15 63) (any_of HT_.out kR) ?_
             refine puu_ 6 49 (bs 15 127) (any_of HT_.out kR) ?_
             refine puu_ 7 50 (bs 15 255) (any_of HT_.out kR) ?_
             refine puu_ 8 51 (bs 15 511) (any_of HT_.out kR) ?_
             refine puu_ 9 52 (bs 15 1023) (any_of HT_.out kR) ?_
             refine puu_ 10 53 (bs 15 2047) (any_of HT_.out kR) ?_
             refine puu_ 11 54 (bs 15 4095) (any_of HT_.out kR) ?_
             refine puu_ 12 55 (bs 15 8191) (any_of HT_.out kR) ?_
             refine puu_ 13 56 (bs 15 16383) (any_of HT_.out kR) ?_
             refine pur_ 14 57 (bs 15 32767) (any_of HT_.out kR) ?_
             refine done_ (done_of HT_.out (by kernel_rfl)) ?_
             try go_wp2
             go_roundg k3
             case measure => have := HJ2.out; have := HK2.out; have := HK3.out; omega
             case rel => exact ⟨(x9_3), (wrap64 (x31_3 + 1)), lF, lF, H', ⟨by have := HJ2.out; have := HK2.out; have := HK3.out; omega⟩, ⟨by (with_reducible repeat (first | apply Kd.R_alloc | apply Kd.R_drewN | apply Kd.R_drew)); exact Kd.R_mono HO_7.out (fun _ hk => trivial)⟩, ⟨lB⟩⟩
           ·rw [if_neg c12] at H
            exact absurd H (by simp)
          ·rw [if_neg c11] at H
           exact absurd H (by simp)
         ·rw [if_neg c10] at H
          have c10b0 : decide (x31_3 < (l1.length : Int)) = false := decide_eq_false c10
          clear c10
          by_cases c41 : x7_2.length < 17592186044416
          ·rw [if_pos c41] at H
           have LMc41 := Aside0.mk c41
           clear c41
           obtain ⟨y305, hy305⟩ : ∃ y_ : List Int, y_ = (x7_2 ++ [x9_3]) := ⟨_, rfl⟩
           replace H : (spec_GreedyCover.l0 k3 l0 l1 y305 (l0.length : Int) (wrap64 (x26_2 + 1))) = some (r1, r2, r3) := by first | (rw [hy305]; with_reducible exact H) | (have H2_ := (Option.bind_some _ _).symm.trans H; rw [hy305]; with_reducible exact H2_) | (have H2_ := (Option.bind_some _ _).symm.trans H; with_reducible exact H2_) | with_reducible exact H | (rw [hy305]; exact H) | exact H
           have Ny305 := Aside0.mk hy305
           clear hy305
           have H' := Aside0.mk H
           clear H
           go_wp2_with (first | ((with_reducible refine gate_builtin (b := .append) (xs := #[.tmp 60, .tmp 62]) rfl ?_); at_builtin; refine Kd.R_append (Kd.int .i64) (w0 := w) w.heap.size rfl (.tmp 60) (.tmp 62) 22 3 (.int .i64 0) 8 rfl Try.underlying22 info3 rfl (by decide) (by omega) u7 x7_2 x9_3 [.int .i64 x9_3] (fun _ => True) (fun _ => False) rfl rfl ?aP (fun _ hk => hk.elim) ?aF ?aO ?aB ?aS ?aL ?_; (case aP => exact rfl); (case aB => exact lB); (case aF => exact (fun _ _ => trivial)); (case aO => exact (lR HO_7.out)); (case aS => exact (below_size lB)); (case aL => have := LMc41.out; omega); intro v306 w42 ho hb hg hat; rw [← Ny305.out] at ho; have n0_ := Aside0.mk (hb); have n1_ := Aside0.mk (ho); clear HB; clear HO_7; have HB := n0_; have HO307 := n1_; clear n0_ n1_; clear ho hb hg hat))
           go_roundg k3
           case measure => have := HJ2.out; have := HK2.out; have := HK3.out; omega
           case rel => exact ⟨(y305), (wrap64 (x26_2 + 1)), lF, H', ⟨by have := HJ2.out; have := HK2.out; have := HK3.out; omega⟩, ⟨lR HO307.out⟩, ⟨lB⟩⟩
          ·rw [if_neg c41] at H
           exact absurd H (by simp)
      ·rw [if_neg c9] at H
       have c9b0 : decide (x26_2 < (l0.length : Int)) = false := decide_eq_false c9
       clear c9
       replace H := Option.bind_eq_some_iff.mp H
       obtain ⟨⟨t317, t320⟩, A430, H⟩ := H
       replace H : (if t320 = true then ((spec_l9Sum.f k2 l1 t317).bind fun t321 => (some (t317, t321, true))) else (some (([] : List (S63)), 0, false))) = some (r1, r2, r3) := H
       have A43 := Aside0.mk A430
       clear A430
       by_cases c44 : t320 = true
       ·subst c44
        rw [if_pos rfl] at H
        replace H := lO H
        obtain ⟨t321, A45, H⟩ := H
        simp only [Option.some.injEq, Prod.mk.injEq] at H
        obtain ⟨rfl, rfl, rfl⟩ := H
        obtain ⟨Ao46, co46, eo46⟩ := Kd.R_slice HO_7.out
        subst eo46
        go_wp2_with (first | ((with_reducible refine gate_callee (f := 33) rfl ?_); refine gl_ (some 69) (Try.func33) #[.slice A0 l0.length c0, .slice A1 l1.length c1, .int .i64 0, .slice Ao46 x7_2.length co46, .slice none 0 0] ?_; (refine (spec_l9Pieces.calls k2 _ _ l0 _ _ l1 0 _ _ x7_2 (fun k_ => some k_ = (.slice none 0 0 : Value).ownBlock) (.slice none 0 0) ([] : List (S63)) t317 true w _ ?side1 ?side2 ?side3 ?side4 ?side5 ?side6 ?side7 ?side8 A43.out).mono ?_); (case side1 => repeat (first | (with_reducible first | exact HB.out | apply below_alloc | apply pw_below_drewN | apply below_drew1) | exact HB.out)); (case side2 => exact Kd.C_kept_came (Kd.heap_int .i64) HR0.out lB (fun k_ hs_ => (fun e_ => by simp [Value.ownBlock] at e_) hs_)); (case side3 => exact HC0.out); (case side4 => exact Kd.C_kept_came k57_heap HR1.out lB (fun k_ hs_ => (fun e_ => by simp [Value.ownBlock] at e_) hs_)); (case side5 => exact HC1.out); (case side6 => exact Kd.C_kept_own (HO_7.out) (fun k_ hk_ hs_ => (fun e_ => by simp [Value.ownBlock] at e_) hs_)); (case side7 => exact (Kd.R_reads' HO_7.out).2.1); (case side8 => exact Kd.R_nil _ _ _ _ _); rintro e w47 ⟨v318, rfl, ho0, hb, hkp⟩; refine ⟨_, rfl, ?_⟩; have n0_ := Aside0.mk (Kd.R_mono (ok' := fun k_ => True) (Kd.R_keptB (HO_7.out) hkp (fun k_ hk_ hs_ => (fun e_ => by simp [Value.ownBlock] at e_) hs_)) (fun k_ hk_ => trivial)); have n1_ := Aside0.mk (Kd.R_mono (ok' := fun k_ => True) ho0 (fun k_ hk_ => trivial)); have n2_ := Aside0.mk (hb); clear HO_7; clear HB; have HO_7 := n0_; have HO319 := n1_; have HB := n2_; clear n0_ n1_ n2_; (try clear hb); (try clear hkp); (try clear ho0); obtain ⟨Ao48, co48, eo48⟩ := Kd.R_slice HO319.out; subst eo48) | ((with_reducible refine gate_callee (f := 44) rfl ?_); refine gl_ (some 77) (Try.func44) #[.slice A1 l1.length c1, .slice Ao48 t317.length co48] ?_; (with_reducible refine (spec_l9Sum.calls k2 _ _ l1 _ _ t317 t321 _ ?side1 ?side2 ?side3 ?side4 A45.out).mono ?_); (case side1 => exact lC (Kd.C_below HR1.out HB.out)); (case side2 => exact HC1.out); (case side3 => repeat (first | exact (Kd.R_reads' HO319.out).2.2 | (with_reducible refine Kd.C_alloc ?_ _) | (with_reducible refine Kd.C_drewN ?_ _) | (with_reducible refine Kd.C_drew ?_))); (case side4 => exact (Kd.R_reads' HO319.out).2.1); rintro e w49 ⟨rfl, hb⟩; refine ⟨_, rfl, ?_⟩; have n0_ := Aside0.mk (Kd.R_below (lR HO_7.out) hb); have n1_ := Aside0.mk (Kd.R_below (lR HO319.out) hb); have n2_ := Aside0.mk (below_step lB hb); clear HO_7; clear HO319; clear HB; have HO_7 := n0_; have HO319 := n1_; have HB := n2_; clear n0_ n1_ n2_; (try clear hb); (try clear hb2); (try clear hk); (try clear hi)))
        go_ret3
        exact ⟨_, lE, lR HO319.out, lB⟩
       ·replace c44 := Bool.eq_false_iff.mpr c44
        subst c44
        rw [if_neg (show ¬ (false = true) by decide)] at H
        simp only [Option.some.injEq, Prod.mk.injEq] at H
        obtain ⟨rfl, rfl, rfl⟩ := H
        obtain ⟨Ao50, co50, eo50⟩ := Kd.R_slice HO_7.out
        subst eo50
        go_wp2_with (first | ((with_reducible refine gate_callee (f := 33) rfl ?_); refine gl_ (some 69) (Try.func33) #[.slice A0 l0.length c0, .slice A1 l1.length c1, .int .i64 0, .slice Ao50 x7_2.length co50, .slice none 0 0] ?_; (refine (spec_l9Pieces.calls k2 _ _ l0 _ _ l1 0 _ _ x7_2 (fun k_ => some k_ = (.slice none 0 0 : Value).ownBlock) (.slice none 0 0) ([] : List (S63)) t317 false w _ ?side1 ?side2 ?side3 ?side4 ?side5 ?side6 ?side7 ?side8 A43.out).mono ?_); (case side1 => repeat (first | (with_reducible first | exact HB.out | apply below_alloc | apply pw_below_drewN | apply below_drew1) | exact HB.out)); (case side2 => exact Kd.C_kept_came (Kd.heap_int .i64) HR0.out lB (fun k_ hs_ => (fun e_ => by simp [Value.ownBlock] at e_) hs_)); (case side3 => exact HC0.out); (case side4 => exact Kd.C_kept_came k57_heap HR1.out lB (fun k_ hs_ => (fun e_ => by simp [Value.ownBlock] at e_) hs_)); (case side5 => exact HC1.out); (case side6 => exact Kd.C_kept_own (HO_7.out) (fun k_ hk_ hs_ => (fun e_ => by simp [Value.ownBlock] at e_) hs_)); (case side7 => exact (Kd.R_reads' HO_7.out).2.1); (case side8 => exact Kd.R_nil _ _ _ _ _); rintro e w51 ⟨v318, rfl, ho0, hb, hkp⟩; refine ⟨_, rfl, ?_⟩; have n0_ := Aside0.mk (Kd.R_mono (ok' := fun k_ => True) (Kd.R_keptB (HO_7.out) hkp (fun k_ hk_ hs_ => (fun e_ => by simp [Value.ownBlock] at e_) hs_)) (fun k_ hk_ => trivial)); have n1_ := Aside0.mk (Kd.R_mono (ok' := fun k_ => True) ho0 (fun k_ hk_ => trivial)); have n2_ := Aside0.mk (hb); clear HO_7; clear HB; have HO_7 := n0_; have HO319 := n1_; have HB := n2_; clear n0_ n1_ n2_; (try clear hb); (try clear hkp); (try clear ho0)))
        go_ret3
        exact ⟨_, lE, by first | exact Kd.R_nil _ _ _ _ _ | exact Kd.N_nil _ _ _ _ _ | exact Kd.V_nil _ _ _ _ _ | exact Kd.Q_nil _ _ _ _ _ | exact Kd.S_nil _ _ _ _ _, lB⟩

end Go.Proofs.Ytfdbdbihhgabpaa.Q
