-- Written by the program wip/tools/pr.py of this claim's session, over the kit's print.py.
import Derived.Test.YtpnhlccdhflogaaQx0
import Derived.Test.YtpnhlccdhflogaaQx2
namespace Go.Proofs.Ytpnhlccdhflogaa.Q
open Go.RowKit Go.Proofs.YtpnhlccdhflogaaW.PrintWords Go.Proofs.YtpnhlccdhflogaaW.PrintLast Go.Proofs.YtpnhlccdhflogaaW.PrintMore
attribute [local go_sem] max2_int min2_int max_two min_two max_three min_three max_four min_four   -- for this text's walks alone
set_option linter.unusedVariables false
set_option linter.unusedSimpArgs false

/-! ### spec_LayFlow: function 39 -/
mutual
def spec_LayFlow.j0 : Nat → List (S99) → List Int → Bool → Option ((List (S99)) × Bool)
 | 0, _, _, _ => none
 | k + 1, x0, x1, x23 => if x23 = true then (some (([] : List (S99)), false)) else (if 0 ≤ (x0.length : Int) then (if ((x0.length : Int) : Int).toNat ≤ 35184372088832 then (spec_LayFlow.l0 k x0 x1 (List.replicate ((x0.length : Int) : Int).toNat 0) x1 (x1.length : Int) 0) else (none)) else (none))
def spec_LayFlow.l0 : Nat → List (S99) → List Int → List Int → List Int → Int → Int → Option ((List (S99)) × Bool)
 | 0, _, _, _, _, _, _ => none
 | k + 1, x0, x1, x6, x27, x28, x29 => if x29 < x28 then (if 0 ≤ x29 then (if x29 < (x27.length : Int) then (if 0 ≤ (rd x27 x29) then (if (rd x27 x29) < (x6.length : Int) then (spec_LayFlow.l0 k x0 x1 (x6.set ((rd x27 x29) : Int).toNat x29) x27 x28 (wrap64 (x29 + 1))) else (none)) else (none)) else (none)) else (none)) else (spec_LayFlow.l1 k x0 x6 ([] : List (S99)) x1 (x1.length : Int) 0)
def spec_LayFlow.l1 : Nat → List (S99) → List Int → List (S99) → List Int → Int → Int → Option ((List (S99)) × Bool)
 | 0, _, _, _, _, _, _ => none
 | k + 1, x0, x6, x9, x39, x40, x41 => if x41 < x40 then (if 0 ≤ x41 then (if x41 < (x39.length : Int) then (if 0 ≤ (rd x39 x41) then (if (rd x39 x41) < (x0.length : Int) then ((some (([] : List (S130)) : List (S130))).bind fun y153 => (if y153.length + ((rd_T99 x0 (rd x39 x41)).f0).length < 3518437208883 then ((some (y153 ++ ((rd_T99 x0 (rd x39 x41)).f0) : List (S130))).bind fun y156 => (if ((rd_T99 x0 (rd x39 x41)).f2) ≥ 0 then (if 0 ≤ ((rd_T99 x0 (rd x39 x41)).f2) then (if ((rd_T99 x0 (rd x39 x41)).f2) < (x6.length : Int) then (if ((rd_T99 x0 (rd x39 x41)).f3) ≥ 0 then (if 0 ≤ ((rd_T99 x0 (rd x39 x41)).f3) then (if ((rd_T99 x0 (rd x39 x41)).f3) < (x6.length : Int) then (if x9.length < 2932031007402 then (spec_LayFlow.l1 k x0 x6 (x9 ++ [(⟨y156, (rd_T99 x0 (rd x39 x41)).f1, rd x6 ((rd_T99 x0 (rd x39 x41)).f2), rd x6 ((rd_T99 x0 (rd x39 x41)).f3)⟩ : S99)]) x39 x40 (wrap64 (x41 + 1))) else (none)) else (none)) else (none)) else (if x9.length < 2932031007402 then (spec_LayFlow.l1 k x0 x6 (x9 ++ [(⟨y156, (rd_T99 x0 (rd x39 x41)).f1, rd x6 ((rd_T99 x0 (rd x39 x41)).f2), (-1)⟩ : S99)]) x39 x40 (wrap64 (x41 + 1))) else (none))) else (none)) else (none)) else (if ((rd_T99 x0 (rd x39 x41)).f3) ≥ 0 then (if 0 ≤ ((rd_T99 x0 (rd x39 x41)).f3) then (if ((rd_T99 x0 (rd x39 x41)).f3) < (x6.length : Int) then (if x9.length < 2932031007402 then (spec_LayFlow.l1 k x0 x6 (x9 ++ [(⟨y156, (rd_T99 x0 (rd x39 x41)).f1, (-1), rd x6 ((rd_T99 x0 (rd x39 x41)).f3)⟩ : S99)]) x39 x40 (wrap64 (x41 + 1))) else (none)) else (none)) else (none)) else (if x9.length < 2932031007402 then (spec_LayFlow.l1 k x0 x6 (x9 ++ [(⟨y156, (rd_T99 x0 (rd x39 x41)).f1, (-1), (-1)⟩ : S99)]) x39 x40 (wrap64 (x41 + 1))) else (none))))) else (none))) else (none)) else (none)) else (none)) else (none)) else (some (x9, true))
end
def spec_LayFlow.f (k : Nat) (l0 : List (S99)) (l1 : List Int) : Option ((List (S99)) × Bool) := (spec_GoodFlow.f k l0).bind fun t143 => (if t143 = true then ((spec_IsLayout.f k (l0.length : Int) l1).bind fun t144 => (spec_LayFlow.j0 k l0 l1 (!t144))) else (spec_LayFlow.j0 k l0 l1 true))
theorem spec_LayFlow.mono_l : ∀ k, (∀ y0 y1 y2, LeO (spec_LayFlow.j0 k y0 y1 y2) (spec_LayFlow.j0 (k + 1) y0 y1 y2)) ∧ (∀ y0 y1 y2 y3 y4 y5, LeO (spec_LayFlow.l0 k y0 y1 y2 y3 y4 y5) (spec_LayFlow.l0 (k + 1) y0 y1 y2 y3 y4 y5)) ∧ (∀ y0 y1 y2 y3 y4 y5, LeO (spec_LayFlow.l1 k y0 y1 y2 y3 y4 y5) (spec_LayFlow.l1 (k + 1) y0 y1 y2 y3 y4 y5))
 | 0 => ⟨fun _ _ _ r h => by simp [spec_LayFlow.j0] at h, fun _ _ _ _ _ _ r h => by simp [spec_LayFlow.l0] at h, fun _ _ _ _ _ _ r h => by simp [spec_LayFlow.l1] at h⟩
 | k + 1 => by
  obtain ⟨ih0, ih1, ih2⟩ := spec_LayFlow.mono_l k
  refine ⟨?_, ?_, ?_⟩
  ·intro y0 y1 y2
   unfold spec_LayFlow.j0
   repeat' first
   | with_reducible apply ih0
   | with_reducible apply ih1
   | with_reducible apply ih2
   | with_reducible apply spec_GoodFlow.mono
   | with_reducible apply spec_IsLayout.mono
   | (with_reducible exact LeO.refl _)
   | (with_reducible exact LeO.none _)
   | (with_reducible refine LeO.ite ?_ ?_)
   | (with_reducible refine LeO.bind ?_ (fun _ => ?_))
   | apply ih0
   | apply ih1
   | apply ih2
   | apply spec_GoodFlow.mono
   | apply spec_IsLayout.mono
   | exact LeO.none _
   | refine LeO.ite ?_ ?_
   | refine LeO.bind ?_ (fun _ => ?_)
  ·intro y0 y1 y2 y3 y4 y5
   unfold spec_LayFlow.l0
   repeat' first
   | with_reducible apply ih0
   | with_reducible apply ih1
   | with_reducible apply ih2
   | with_reducible apply spec_GoodFlow.mono
   | with_reducible apply spec_IsLayout.mono
   | (with_reducible exact LeO.refl _)
   | (with_reducible exact LeO.none _)
   | (with_reducible refine LeO.ite ?_ ?_)
   | (with_reducible refine LeO.bind ?_ (fun _ => ?_))
   | apply ih0
   | apply ih1
   | apply ih2
   | apply spec_GoodFlow.mono
   | apply spec_IsLayout.mono
   | exact LeO.none _
   | refine LeO.ite ?_ ?_
   | refine LeO.bind ?_ (fun _ => ?_)
  ·intro y0 y1 y2 y3 y4 y5
   unfold spec_LayFlow.l1
   repeat' first
   | with_reducible apply ih0
   | with_reducible apply ih1
   | with_reducible apply ih2
   | with_reducible apply spec_GoodFlow.mono
   | with_reducible apply spec_IsLayout.mono
   | (with_reducible exact LeO.refl _)
   | (with_reducible exact LeO.none _)
   | (with_reducible refine LeO.ite ?_ ?_)
   | (with_reducible refine LeO.bind ?_ (fun _ => ?_))
   | apply ih0
   | apply ih1
   | apply ih2
   | apply spec_GoodFlow.mono
   | apply spec_IsLayout.mono
   | exact LeO.none _
   | refine LeO.ite ?_ ?_
   | refine LeO.bind ?_ (fun _ => ?_)
theorem spec_LayFlow.mono : ∀ a0 a1 k, LeO (spec_LayFlow.f k a0 a1) (spec_LayFlow.f (k + 1) a0 a1) := by
 intro a0 a1 k
 obtain ⟨ih0, ih1, ih2⟩ := spec_LayFlow.mono_l k
 unfold spec_LayFlow.f
 repeat' first
   | with_reducible apply ih0
   | with_reducible apply ih1
   | with_reducible apply ih2
   | with_reducible apply spec_GoodFlow.mono
   | with_reducible apply spec_IsLayout.mono
   | (with_reducible exact LeO.refl _)
   | (with_reducible exact LeO.none _)
   | (with_reducible refine LeO.ite ?_ ?_)
   | (with_reducible refine LeO.bind ?_ (fun _ => ?_))
   | apply ih0
   | apply ih1
   | apply ih2
   | apply spec_GoodFlow.mono
   | apply spec_IsLayout.mono
   | exact LeO.none _
   | refine LeO.ite ?_ ?_
   | refine LeO.bind ?_ (fun _ => ?_)
def spec_LayFlow.T14 : Bool × List (List Nat × List Nat) := (true, [([], []), ([], []), ([1], [1]), ([0, 2], [0, 2]), ([], []), ([4], [4]), ([3, 5], [3, 5]), ([], []), ([7, 6, 3, 0, 1, 2, 3, 4, 5, 6, 7], [6, 7])])
def spec_LayFlow.B14 : List Nat := [0, 0, 2, 7, 0, 16, 63, 0, 255]
theorem spec_LayFlow.tab14 : rtab .any (opsOf Try.f39 14) = spec_LayFlow.T14 := by kernel_rfl
theorem spec_LayFlow.bits14 : waitsOk spec_LayFlow.T14.2 spec_LayFlow.B14 = true := by kernel_rfl
set_option maxHeartbeats 8000000 in
set_option maxRecDepth 100000 in
theorem spec_LayFlow.calls (k : Nat) (A0 : Option Addr) (c0 : Nat) (l0 : List (S99)) (A1 : Option Addr) (c1 : Nat) (l1 : List Int) (r1 : List (S99)) (r2 : Bool) (w : World) (hr0 : Kd.C k99 w A0 l0.length l0) (hc0 : l0.length ≤ c0) (hr1 : Kd.C (Kd.int .i64) w A1 l1.length l1) (hc1 : l1.length ≤ c1) (h : spec_LayFlow.f k l0 l1 = some (r1, r2)) :
  Calls Try.prog 39 #[.slice A0 l0.length c0, .slice A1 l1.length c1] w fun e w' => ∃ v0_ : Value, e = .returned (.tuple #[v0_, .bool r2]) ∧ Kd.S k99 99 w' w.heap.size (fun _ => True) v0_ r1 ∧ Below w.heap.size w w' := by
 have hu99 := Try.underlying99
 have HR0 := Aside0.mk hr0
 have HC0 := Aside0.mk hc0
 clear hr0 hc0
 have HR1 := Aside0.mk hr1
 have HC1 := Aside0.mk hc1
 clear hr1 hc1
 have HB := Aside0.mk (Below.refl w.heap.size w)
 have H : ((spec_GoodFlow.f k l0).bind fun t143 => (if t143 = true then ((spec_IsLayout.f k (l0.length : Int) l1).bind fun t144 => (spec_LayFlow.j0 k l0 l1 (!t144))) else (spec_LayFlow.j0 k l0 l1 true))) = some (r1, r2) := h
 clear h
 have HC3 := Aside0.mk H
 clear H
 go_enter Try.func39, Try.ntmps39
 go_upto_region 1 with (fail)
 go_cut [23] (fun v23 wc => ∃ (kq : Nat) (x23_2 : Bool), v23 = .bool x23_2 ∧ Aside0 (spec_LayFlow.j0 kq l0 l1 x23_2 = some (r1, r2)) ∧ Aside0 (kq ≤ k) ∧ Aside0 (Below w.heap.size w wc))
 case first =>
  have H := HC3.out
  clear HC3
  replace H := lO H
  obtain ⟨t143, A4, H⟩ := H
  by_cases c5 : t143 = true
  ·subst c5
   rw [if_pos rfl] at H
   replace H := lO H
   obtain ⟨t144, A6, H⟩ := H
   have H' := Aside0.mk H
   clear H
   go_wp2_with (first | ((with_reducible refine gate_callee (f := 75) rfl ?_); refine gl_ (some 15) (Try.func75) #[.slice A0 l0.length c0] ?_; (with_reducible refine (spec_GoodFlow.calls k _ _ l0 true _ ?side1 ?side2 A4.out).mono ?_); (case side1 => exact lC (Kd.C_below HR0.out HB.out)); (case side2 => exact HC0.out); rintro e w7 ⟨rfl, hb⟩; refine ⟨_, rfl, ?_⟩; have n0_ := Aside0.mk (below_step lB hb); clear HB; have HB := n0_; clear n0_; (try clear hb); (try clear hb2); (try clear hk); (try clear hi)) | (go_at_call 37; (with_reducible refine (spec_IsLayout.calls k (l0.length : Int) _ _ l1 t144 _ ?side1 ?side2 A6.out).mono ?_); (case side1 => exact lC (Kd.C_below HR1.out HB.out)); (case side2 => exact HC1.out); rintro e w' ⟨rfl, ⟨nd, rfl⟩⟩))
   go_meet
   case rel => exact ⟨_, (!t144), lF, H', ⟨lN⟩, ⟨lB⟩⟩
  ·replace c5 := Bool.eq_false_iff.mpr c5
   subst c5
   rw [if_neg (show ¬ (false = true) by decide)] at H
   have H' := Aside0.mk H
   clear H
   go_wp2_with (first | ((with_reducible refine gate_callee (f := 75) rfl ?_); refine gl_ (some 15) (Try.func75) #[.slice A0 l0.length c0] ?_; (with_reducible refine (spec_GoodFlow.calls k _ _ l0 false _ ?side1 ?side2 A4.out).mono ?_); (case side1 => exact lC (Kd.C_below HR0.out HB.out)); (case side2 => exact HC0.out); rintro e w8 ⟨rfl, hb⟩; refine ⟨_, rfl, ?_⟩; have n0_ := Aside0.mk (below_step lB hb); clear HB; have HB := n0_; clear n0_; (try clear hb); (try clear hb2); (try clear hk); (try clear hi)))
   go_meet
   case rel => exact ⟨_, (true), lF, H', ⟨lN⟩, ⟨lB⟩⟩
 case rest =>
  clear HC3
  try clear c1
  try clear p2
  try clear c3
  try clear c5
  try clear c7
  obtain ⟨kq, x23_2, rfl, HA, HJ2, HB⟩ := hcut
  cases kq with
  | zero => exact absurd HA.out (by simp [spec_LayFlow.j0])
  | succ kj2 =>
   have H := HA.out
   clear HA
   simp only [spec_LayFlow.j0] at H
   by_cases c9 : x23_2 = true
   ·subst c9
    rw [if_pos rfl] at H
    simp only [Option.some.injEq, Prod.mk.injEq] at H
    obtain ⟨rfl, rfl⟩ := H
    go_wp2
    go_ret2
    exact ⟨_, lE, by first | exact Kd.S_nil _ _ _ _ _ | exact Kd.N_nil _ _ _ _ _ | exact Kd.V_nil _ _ _ _ _ | exact Kd.Q_nil _ _ _ _ _ | exact Kd.R_nil _ _ _ _ _, lB⟩
   ·replace c9 := Bool.eq_false_iff.mpr c9
    subst c9
    rw [if_neg (show ¬ (false = true) by decide)] at H
    by_cases c10 : 0 ≤ (l0.length : Int)
    ·rw [if_pos c10] at H
     have c10b0 := eq_true c10
     have c10b1 : decide (0 ≤ (l0.length : Int)) = true := decide_eq_true c10
     clear c10
     by_cases c11 : ((l0.length : Int) : Int).toNat ≤ 35184372088832
     ·rw [if_pos c11] at H
      have c11b0 := eq_true c11
      have c11b1 : decide (((l0.length : Int) : Int).toNat ≤ 35184372088832) = true := decide_eq_true c11
      clear c11
      obtain ⟨y145, hy145⟩ : ∃ y_ : List Int, y_ = (List.replicate ((l0.length : Int) : Int).toNat 0) := ⟨_, rfl⟩
      replace H : (spec_LayFlow.l0 kj2 l0 l1 y145 l1 (l1.length : Int) 0) = some (r1, r2) := by first | (rw [hy145]; with_reducible exact H) | (have H2_ := (Option.bind_some _ _).symm.trans H; rw [hy145]; with_reducible exact H2_) | (have H2_ := (Option.bind_some _ _).symm.trans H; with_reducible exact H2_) | with_reducible exact H | (rw [hy145]; exact H) | exact H
      have Ny145 := Aside0.mk hy145
      clear hy145
      have H' := Aside0.mk H
      clear H
      go_wp2_with (first | ((with_reducible refine gate_dst (N := 26) rfl ?_); (try (refine gate_guard (by rfl) ?_; dsimp only)); refine Kd.R_make (Kd.int .i64) _ 3 rfl (N := 26) rfl 34 _ _ rfl (l0.length : Int) rfl rfl Try.underlying34 (.int .i64 0) 8 info3 rfl (by decide) (by omega) 0 (ok := fun _ => True) (okp := fun _ => True) rfl (fun _ hk => hk) trivial (lD) (Nat.le_trans (Nat.mul_le_mul_right _ (lD : (l0.length : Int).toNat ≤ 35184372088832)) (by omega)) (Below.refl _ _) (Nat.le_refl _) ?_; intro v146 w12 ho13 hb hg_ hnew_; clear hg_ hnew_; (first | rw [← Ny145.out] at ho13 | (simp only [Int.reduceToNat] at ho13; rw [← Ny145.out] at ho13)); have n0_ := Aside0.mk (Kd.R_lower ho13 (below_size lB)); have n1_ := Aside0.mk (below_step lB hb); clear HB; have HO147 := n0_; have HB := n1_; clear n0_ n1_; clear hb ho13))
      go_loopg [29] kj2 (fun kq v29 w' => ∃ (x6_2 : List Int) (x29_2 : Int), v29 = .int .i64 x29_2 ∧ Aside0 (spec_LayFlow.l0 kq l0 l1 x6_2 l1 (l1.length : Int) x29_2 = some (r1, r2)) ∧ Aside0 (kq ≤ kj2) ∧ Aside0 (Kd.R (Kd.int .i64) 3 w' w.heap.size (fun _ => True) v146 x6_2) ∧ Aside0 (Below w.heap.size w w'))
      case atStart => exact ⟨(y145), (0), lF, H', ⟨Nat.le_refl _⟩, ⟨lR HO147.out⟩, ⟨lB⟩⟩
      case round =>
       clear H'
       try clear c1
       try clear p2
       try clear c3
       try clear c5
       try clear c7
       try clear c9
       try clear c10
       try clear c10b0
       try clear c10b1
       try clear c11
       try clear c11b0
       try clear c11b1
       try clear p2
       obtain ⟨x6_2, x29_2, rfl, HA, HK2, HO_6, HB⟩ := hrel
       cases gk with
       | zero => exact absurd HA.out (by simp [spec_LayFlow.l0])
       | succ k2 =>
        have H := HA.out
        clear HA
        simp only [spec_LayFlow.l0] at H
        by_cases c14 : x29_2 < (l1.length : Int)
        ·rw [if_pos c14] at H
         have c14b0 : decide (x29_2 < (l1.length : Int)) = true := decide_eq_true c14
         clear c14
         by_cases c15 : 0 ≤ x29_2
         ·rw [if_pos c15] at H
          have c15b0 : decide (0 ≤ x29_2) = true := decide_eq_true c15
          clear c15
          by_cases c16 : x29_2 < (l1.length : Int)
          ·rw [if_pos c16] at H
           have c16b0 : decide (x29_2 < (l1.length : Int)) = true := decide_eq_true c16
           clear c16
           by_cases c17 : 0 ≤ (rd l1 x29_2)
           ·rw [if_pos c17] at H
            have c17b0 : decide (0 ≤ (rd l1 x29_2)) = true := decide_eq_true c17
            clear c17
            by_cases c18 : (rd l1 x29_2) < (x6_2.length : Int)
            ·rw [if_pos c18] at H
             have c18b0 : decide ((rd l1 x29_2) < (x6_2.length : Int)) = true := decide_eq_true c18
             clear c18
             obtain ⟨y149, hy149⟩ : ∃ y_ : List Int, y_ = (x6_2.set ((rd l1 x29_2) : Int).toNat x29_2) := ⟨_, rfl⟩
             replace H : (spec_LayFlow.l0 k2 l0 l1 y149 l1 (l1.length : Int) (wrap64 (x29_2 + 1))) = some (r1, r2) := by first | (rw [hy149]; with_reducible exact H) | (have H2_ := (Option.bind_some _ _).symm.trans H; rw [hy149]; with_reducible exact H2_) | (have H2_ := (Option.bind_some _ _).symm.trans H; with_reducible exact H2_) | with_reducible exact H | (rw [hy149]; exact H) | exact H
             have Ny149 := Aside0.mk hy149
             clear hy149
             have H' := Aside0.mk H
             clear H
             have p148 : 0 ≤ (x29_2 : Int) := lD
             have q148 : x29_2 < (l1.length : Int) := lD
             obtain ⟨ad148, e148, hx148_0⟩ := Kd.at_int HR1.out x29_2 p148 q148
             cases e148
             replace hx148_0 := pw_cell_below HB.out hx148_0
             replace p148 := eq_true p148
             replace q148 := eq_true q148
             have p19 : 0 ≤ ((rd l1 x29_2) : Int) := lD
             have q19 : ((rd l1 x29_2) : Int) < ((x6_2.length : Int) : Int) := lD
             obtain ⟨go19, co19, eo19, gb19, gl19, cl19, HG19⟩ := Kd.R_form HO_6.out (by omega)
             (first | cases eo19 | (injection eo19 with ea_ en_ ec_; (first | subst ea_ | (injection ea_ with ea_; subst ea_)); subst ec_; clear en_))
             have GB19 := Aside0.mk gb19
             have GG19 := Aside0.mk HG19
             clear gb19 gl19 HG19
             obtain ⟨hx19_0, hf19_0⟩ := Kd.R_celln 0 HO_6.out ((rd l1 x29_2) : Int) p19 q19
             replace p19 := eq_true p19
             replace q19 := eq_true q19
             have HP20 := Kd.R_putg HO_6.out ((rd l1 x29_2) : Int) x29_2
             go_wp2_with (first | ((with_reducible refine gate_store (t := 3) (p := 37) rfl ?_); refine store_event (t := 3) (p := 37) (v := ?vo_w21) (w1 := (wr.setCell ⟨go19, ((rd l1 x29_2) : Int).toNat, none⟩ (.int .i64 x29_2))) ?hg ?ho ?hn ?hr ?_; (case ho => rfl); (case hg => rfl); (case hn => rfl); (case hr => first | (go_simp; done) | (go_simp; rfl)); intro w21 hw; have hg : wr.grownBy w21 (some go19) := (by rw [hw]; exact HP20.2); have hp_ : Kd.R (Kd.int .i64) 3 w21 w.heap.size (fun _ => True) (.slice (some ⟨go19, 0, none⟩) x6_2.length co19) y149 := (by rw [hw, Ny149.out]; exact HP20.1); clear HP20; have n0_ := Aside0.mk (hp_); have n1_ := Aside0.mk ((by rw [hw]; exact below_set (HB.out) GB19.out : Below w.heap.size w w21)); clear HO_6; clear HB; have HO_6 := n0_; have HB := n1_; clear n0_ n1_; clear hg hw hp_))
             go_roundg k2
             case measure => have := HJ2.out; have := HK2.out; omega
             case rel => exact ⟨(y149), (wrap64 (x29_2 + 1)), lF, H', ⟨by have := HJ2.out; have := HK2.out; omega⟩, ⟨lR HO_6.out⟩, ⟨lB⟩⟩
            ·rw [if_neg c18] at H
             exact absurd H (by simp)
           ·rw [if_neg c17] at H
            exact absurd H (by simp)
          ·rw [if_neg c16] at H
           exact absurd H (by simp)
         ·rw [if_neg c15] at H
          exact absurd H (by simp)
        ·rw [if_neg c14] at H
         have c14b0 : decide (x29_2 < (l1.length : Int)) = false := decide_eq_false c14
         clear c14
         have H' := Aside0.mk H
         clear H
         go_wp2
         go_loopg [9, 41] k2 (fun kq v9 v41 w' => ∃ (x9_3 : List (S99)) (x41_3 : Int), v41 = .int .i64 x41_3 ∧ Aside0 (spec_LayFlow.l1 kq l0 x6_2 x9_3 l1 (l1.length : Int) x41_3 = some (r1, r2)) ∧ Aside0 (kq ≤ k2) ∧ Aside0 (Kd.R (Kd.int .i64) 3 w' w.heap.size (fun _ => True) v146 x6_2) ∧ Aside0 (Kd.S k99 99 w' w.heap.size (fun _ => True) v9 x9_3) ∧ Aside0 (Below w.heap.size w w'))
         case atStart => exact ⟨(([] : List (S99))), (0), lF, H', ⟨Nat.le_refl _⟩, ⟨lR HO_6.out⟩, ⟨by first | exact Kd.S_nil _ _ _ _ _ | exact Kd.N_nil _ _ _ _ _ | exact Kd.V_nil _ _ _ _ _ | exact Kd.Q_nil _ _ _ _ _ | exact Kd.R_nil _ _ _ _ _⟩, ⟨lB⟩⟩
         case round =>
          clear H'
          try clear c1
          try clear p1
          try clear q1
          try clear hx1
          try clear p2
          try clear c3
          try clear c5
          try clear p6
          try clear c7
          try clear c9
          try clear c10
          try clear c10b0
          try clear c10b1
          try clear c11
          try clear c11b0
          try clear c11b1
          try clear c14
          try clear c14b0
          try clear p14
          try clear q14
          try clear hx14
          try clear c15
          try clear c15b0
          try clear c16
          try clear c16b0
          try clear c17
          try clear c17b0
          try clear c18
          try clear c18b0
          try clear p19
          try clear q19
          try clear hx19
          try clear hf19
          try clear hx148_0
          try clear hx19_0
          try clear p148
          try clear p19
          try clear p2
          try clear q148
          try clear q19
          obtain ⟨x9_3, x41_3, rfl, HA, HK3, HO_6, HO_9, HB⟩ := hrel
          cases gk with
          | zero => exact absurd HA.out (by simp [spec_LayFlow.l1])
          | succ k3 =>
           have H := HA.out
           clear HA
           simp only [spec_LayFlow.l1] at H
           by_cases c22 : x41_3 < (l1.length : Int)
           ·rw [if_pos c22] at H
            have c22b0 : decide (x41_3 < (l1.length : Int)) = true := decide_eq_true c22
            clear c22
            by_cases c23 : 0 ≤ x41_3
            ·rw [if_pos c23] at H
             have c23b0 : decide (0 ≤ x41_3) = true := decide_eq_true c23
             clear c23
             by_cases c24 : x41_3 < (l1.length : Int)
             ·rw [if_pos c24] at H
              have c24b0 : decide (x41_3 < (l1.length : Int)) = true := decide_eq_true c24
              clear c24
              by_cases c25 : 0 ≤ (rd l1 x41_3)
              ·rw [if_pos c25] at H
               have c25b0 : decide (0 ≤ (rd l1 x41_3)) = true := decide_eq_true c25
               clear c25
               by_cases c26 : (rd l1 x41_3) < (l0.length : Int)
               ·rw [if_pos c26] at H
                have c26b0 : decide ((rd l1 x41_3) < (l0.length : Int)) = true := decide_eq_true c26
                clear c26
                obtain ⟨y153, hy153⟩ : ∃ y_ : List (S130), y_ = (([] : List (S130))) := ⟨_, rfl⟩
                replace H : (if y153.length + ((rd_T99 l0 (rd l1 x41_3)).f0).length < 3518437208883 then ((some (y153 ++ ((rd_T99 l0 (rd l1 x41_3)).f0) : List (S130))).bind fun y156 => (if ((rd_T99 l0 (rd l1 x41_3)).f2) ≥ 0 then (if 0 ≤ ((rd_T99 l0 (rd l1 x41_3)).f2) then (if ((rd_T99 l0 (rd l1 x41_3)).f2) < (x6_2.length : Int) then (if ((rd_T99 l0 (rd l1 x41_3)).f3) ≥ 0 then (if 0 ≤ ((rd_T99 l0 (rd l1 x41_3)).f3) then (if ((rd_T99 l0 (rd l1 x41_3)).f3) < (x6_2.length : Int) then (if x9_3.length < 2932031007402 then (spec_LayFlow.l1 k3 l0 x6_2 (x9_3 ++ [(⟨y156, (rd_T99 l0 (rd l1 x41_3)).f1, rd x6_2 ((rd_T99 l0 (rd l1 x41_3)).f2), rd x6_2 ((rd_T99 l0 (rd l1 x41_3)).f3)⟩ : S99)]) l1 (l1.length : Int) (wrap64 (x41_3 + 1))) else (none)) else (none)) else (none)) else (if x9_3.length < 2932031007402 then (spec_LayFlow.l1 k3 l0 x6_2 (x9_3 ++ [(⟨y156, (rd_T99 l0 (rd l1 x41_3)).f1, rd x6_2 ((rd_T99 l0 (rd l1 x41_3)).f2), (-1)⟩ : S99)]) l1 (l1.length : Int) (wrap64 (x41_3 + 1))) else (none))) else (none)) else (none)) else (if ((rd_T99 l0 (rd l1 x41_3)).f3) ≥ 0 then (if 0 ≤ ((rd_T99 l0 (rd l1 x41_3)).f3) then (if ((rd_T99 l0 (rd l1 x41_3)).f3) < (x6_2.length : Int) then (if x9_3.length < 2932031007402 then (spec_LayFlow.l1 k3 l0 x6_2 (x9_3 ++ [(⟨y156, (rd_T99 l0 (rd l1 x41_3)).f1, (-1), rd x6_2 ((rd_T99 l0 (rd l1 x41_3)).f3)⟩ : S99)]) l1 (l1.length : Int) (wrap64 (x41_3 + 1))) else (none)) else (none)) else (none)) else (if x9_3.length < 2932031007402 then (spec_LayFlow.l1 k3 l0 x6_2 (x9_3 ++ [(⟨y156, (rd_T99 l0 (rd l1 x41_3)).f1, (-1), (-1)⟩ : S99)]) l1 (l1.length : Int) (wrap64 (x41_3 + 1))) else (none))))) else (none)) = some (r1, r2) := by first | (rw [hy153]; with_reducible exact H) | (have H2_ := (Option.bind_some _ _).symm.trans H; rw [hy153]; with_reducible exact H2_) | (have H2_ := (Option.bind_some _ _).symm.trans H; with_reducible exact H2_) | with_reducible exact H | (rw [hy153]; exact H) | exact H
                have Ny153 := Aside0.mk hy153
                clear hy153
                by_cases c27 : y153.length + ((rd_T99 l0 (rd l1 x41_3)).f0).length < 3518437208883
                ·rw [if_pos c27] at H
                 have LMc27 := Aside0.mk c27
                 clear c27
                 obtain ⟨y156, hy156⟩ : ∃ y_ : List (S130), y_ = (y153 ++ ((rd_T99 l0 (rd l1 x41_3)).f0)) := ⟨_, rfl⟩
                 replace H : (if ((rd_T99 l0 (rd l1 x41_3)).f2) ≥ 0 then (if 0 ≤ ((rd_T99 l0 (rd l1 x41_3)).f2) then (if ((rd_T99 l0 (rd l1 x41_3)).f2) < (x6_2.length : Int) then (if ((rd_T99 l0 (rd l1 x41_3)).f3) ≥ 0 then (if 0 ≤ ((rd_T99 l0 (rd l1 x41_3)).f3) then (if ((rd_T99 l0 (rd l1 x41_3)).f3) < (x6_2.length : Int) then (if x9_3.length < 2932031007402 then (spec_LayFlow.l1 k3 l0 x6_2 (x9_3 ++ [(⟨y156, (rd_T99 l0 (rd l1 x41_3)).f1, rd x6_2 ((rd_T99 l0 (rd l1 x41_3)).f2), rd x6_2 ((rd_T99 l0 (rd l1 x41_3)).f3)⟩ : S99)]) l1 (l1.length : Int) (wrap64 (x41_3 + 1))) else (none)) else (none)) else (none)) else (if x9_3.length < 2932031007402 then (spec_LayFlow.l1 k3 l0 x6_2 (x9_3 ++ [(⟨y156, (rd_T99 l0 (rd l1 x41_3)).f1, rd x6_2 ((rd_T99 l0 (rd l1 x41_3)).f2), (-1)⟩ : S99)]) l1 (l1.length : Int) (wrap64 (x41_3 + 1))) else (none))) else (none)) else (none)) else (if ((rd_T99 l0 (rd l1 x41_3)).f3) ≥ 0 then (if 0 ≤ ((rd_T99 l0 (rd l1 x41_3)).f3) then (if ((rd_T99 l0 (rd l1 x41_3)).f3) < (x6_2.length : Int) then (if x9_3.length < 2932031007402 then (spec_LayFlow.l1 k3 l0 x6_2 (x9_3 ++ [(⟨y156, (rd_T99 l0 (rd l1 x41_3)).f1, (-1), rd x6_2 ((rd_T99 l0 (rd l1 x41_3)).f3)⟩ : S99)]) l1 (l1.length : Int) (wrap64 (x41_3 + 1))) else (none)) else (none)) else (none)) else (if x9_3.length < 2932031007402 then (spec_LayFlow.l1 k3 l0 x6_2 (x9_3 ++ [(⟨y156, (rd_T99 l0 (rd l1 x41_3)).f1, (-1), (-1)⟩ : S99)]) l1 (l1.length : Int) (wrap64 (x41_3 + 1))) else (none)))) = some (r1, r2) := by first | (rw [hy156]; with_reducible exact H) | (have H2_ := (Option.bind_some _ _).symm.trans H; rw [hy156]; with_reducible exact H2_) | (have H2_ := (Option.bind_some _ _).symm.trans H; with_reducible exact H2_) | with_reducible exact H | (rw [hy156]; exact H) | exact H
                 have Ny156 := Aside0.mk hy156
                 clear hy156
                 by_cases c28 : ((rd_T99 l0 (rd l1 x41_3)).f2) ≥ 0
                 ·rw [if_pos c28] at H
                  have c28b0 : decide (0 ≤ ((rd_T99 l0 (rd l1 x41_3)).f2)) = true := decide_eq_true c28
                  clear c28
                  by_cases c29 : 0 ≤ ((rd_T99 l0 (rd l1 x41_3)).f2)
                  ·rw [if_pos c29] at H
                   have c29b0 : decide (0 ≤ ((rd_T99 l0 (rd l1 x41_3)).f2)) = true := decide_eq_true c29
                   clear c29
                   by_cases c30 : ((rd_T99 l0 (rd l1 x41_3)).f2) < (x6_2.length : Int)
                   ·rw [if_pos c30] at H
                    have c30b0 : decide (((rd_T99 l0 (rd l1 x41_3)).f2) < (x6_2.length : Int)) = true := decide_eq_true c30
                    clear c30
                    by_cases c31 : ((rd_T99 l0 (rd l1 x41_3)).f3) ≥ 0
                    ·rw [if_pos c31] at H
                     have c31b0 : decide (0 ≤ ((rd_T99 l0 (rd l1 x41_3)).f3)) = true := decide_eq_true c31
                     clear c31
                     by_cases c32 : 0 ≤ ((rd_T99 l0 (rd l1 x41_3)).f3)
                     ·rw [if_pos c32] at H
                      have c32b0 : decide (0 ≤ ((rd_T99 l0 (rd l1 x41_3)).f3)) = true := decide_eq_true c32
                      clear c32
                      by_cases c33 : ((rd_T99 l0 (rd l1 x41_3)).f3) < (x6_2.length : Int)
                      ·rw [if_pos c33] at H
                       have c33b0 : decide (((rd_T99 l0 (rd l1 x41_3)).f3) < (x6_2.length : Int)) = true := decide_eq_true c33
                       clear c33
                       by_cases c34 : x9_3.length < 2932031007402
                       ·rw [if_pos c34] at H
                        have LMc34 := Aside0.mk c34
                        clear c34
                        obtain ⟨y162, hy162⟩ : ∃ y_ : List (S99), y_ = (x9_3 ++ [(⟨y156, (rd_T99 l0 (rd l1 x41_3)).f1, rd x6_2 ((rd_T99 l0 (rd l1 x41_3)).f2), rd x6_2 ((rd_T99 l0 (rd l1 x41_3)).f3)⟩ : S99)]) := ⟨_, rfl⟩
                        replace H : (spec_LayFlow.l1 k3 l0 x6_2 y162 l1 (l1.length : Int) (wrap64 (x41_3 + 1))) = some (r1, r2) := by first | (rw [hy162]; with_reducible exact H) | (have H2_ := (Option.bind_some _ _).symm.trans H; rw [hy162]; with_reducible exact H2_) | (have H2_ := (Option.bind_some _ _).symm.trans H; with_reducible exact H2_) | with_reducible exact H | (rw [hy162]; exact H) | exact H
                        have Ny162 := Aside0.mk hy162
                        clear hy162
                        have H' := Aside0.mk H
                        clear H
                        have p150 : 0 ≤ (x41_3 : Int) := lD
                        have q150 : x41_3 < (l1.length : Int) := lD
                        obtain ⟨ad150, e150, hx150_0⟩ := Kd.at_int HR1.out x41_3 p150 q150
                        cases e150
                        replace hx150_0 := pw_cell_below HB.out hx150_0
                        replace p150 := eq_true p150
                        replace q150 := eq_true q150
                        have p151 : 0 ≤ ((rd l1 x41_3) : Int) := lD
                        have q151 : (rd l1 x41_3) < (l0.length : Int) := lD
                        obtain ⟨ad151, A151_0, c151_0, e151, hx151_0, hx151_1, hx151_2, hx151_3, hl151_0, hi151_0⟩ := at_T99 HR0.out (rd l1 x41_3) p151 q151
                        cases e151
                        replace hx151_0 := pw_cell_below HB.out hx151_0
                        replace hx151_1 := pw_cell_below HB.out hx151_1
                        replace hx151_2 := pw_cell_below HB.out hx151_2
                        replace hx151_3 := pw_cell_below HB.out hx151_3
                        have HR151_0 := Aside0.mk hi151_0
                        have HC151_0 := Aside0.mk hl151_0
                        clear hi151_0 hl151_0
                        replace p151 := eq_true p151
                        replace q151 := eq_true q151
                        try go_wp2_with (first | ((with_reducible refine gate_dst (N := 12) rfl ?_); (try (refine gate_guard (by rfl) ?_; dsimp only)); refine bxe 12 #[.slice none 0 0, .int .i64 0, .int .i64 0, .int .i64 0] 99 ?_; intro gb152 hg w35 hbox hb; have n0_ := Aside0.mk (Kd.R_below (lR HO_6.out) hb); have n1_ := Aside0.mk (Kd.S_below (Kd.S_elderB (lS HO_9.out) gb152 (Nat.le_of_eq hg.symm)) hb); have n2_ := Aside0.mk (below_step lB hb); have n3_ := Aside0.mk (hbox); have n4_ := lG w hg; have n5_ := lG w hg; clear HO_6; clear HO_9; clear HB; have HO_6 := n0_; have HO_9 := n1_; have HB := n2_; have BK152 := n3_; have GW152 := n4_; have GE152 := n5_; clear n0_ n1_ n2_ n3_ n4_ n5_; clear hb hbox hg; obtain ⟨hcz36_0, hfz36_0, hcz36_1, hfz36_1, hcz36_2, hfz36_2, hcz36_3, hfz36_3⟩ := bk4 BK152.out))
                        have n0_ : Aside0 (Kd.R (Kd.int .i64) 3 ((((w35.setCell ⟨gb152, 0, none⟩ (.slice A151_0 ((rd_T99 l0 (rd l1 x41_3)).f0).length c151_0)).setCell ⟨gb152, 1, none⟩ (.int .i64 ((rd_T99 l0 (rd l1 x41_3)).f1))).setCell ⟨gb152, 2, none⟩ (.int .i64 ((rd_T99 l0 (rd l1 x41_3)).f2))).setCell ⟨gb152, 3, none⟩ (.int .i64 ((rd_T99 l0 (rd l1 x41_3)).f3))) w.heap.size (fun _ => True) v146 x6_2) := ⟨by (with_reducible repeat (first | apply Kd.R_alloc | apply Kd.R_drewN | apply Kd.R_drew)); exact Kd.R_mono (Kd.R_far (p := ⟨gb152, 3, none⟩) (Kd.R_far (p := ⟨gb152, 2, none⟩) (Kd.R_far (p := ⟨gb152, 1, none⟩) (Kd.R_far (p := ⟨gb152, 0, none⟩) (Kd.R_types HO_6.out BK152.out (by decide)) (fun _ hk => hk.2) (.slice A151_0 ((rd_T99 l0 (rd l1 x41_3)).f0).length c151_0)) (fun _ hk => hk.2) (.int .i64 ((rd_T99 l0 (rd l1 x41_3)).f1))) (fun _ hk => hk.2) (.int .i64 ((rd_T99 l0 (rd l1 x41_3)).f2))) (fun _ hk => hk.2) (.int .i64 ((rd_T99 l0 (rd l1 x41_3)).f3))) (fun _ hk => trivial)⟩
                        have n1_ : Aside0 (Kd.S k99 99 ((((w35.setCell ⟨gb152, 0, none⟩ (.slice A151_0 ((rd_T99 l0 (rd l1 x41_3)).f0).length c151_0)).setCell ⟨gb152, 1, none⟩ (.int .i64 ((rd_T99 l0 (rd l1 x41_3)).f1))).setCell ⟨gb152, 2, none⟩ (.int .i64 ((rd_T99 l0 (rd l1 x41_3)).f2))).setCell ⟨gb152, 3, none⟩ (.int .i64 ((rd_T99 l0 (rd l1 x41_3)).f3))) w.heap.size (fun k_ => k_ ≠ gb152) u9 x9_3) := ⟨by (with_reducible repeat (first | apply Kd.S_alloc | apply Kd.S_drewN | apply Kd.S_drew)); exact Kd.S_mono (Kd.S_far (p := ⟨gb152, 3, none⟩) (Kd.S_far (p := ⟨gb152, 2, none⟩) (Kd.S_far (p := ⟨gb152, 1, none⟩) (Kd.S_far (p := ⟨gb152, 0, none⟩) (Kd.S_mono HO_9.out (fun k_ hk => (⟨hk, hk.2⟩ : _ ∧ k_ ≠ gb152))) (fun _ hk => hk.2) (.slice A151_0 ((rd_T99 l0 (rd l1 x41_3)).f0).length c151_0)) (fun _ hk => hk.2) (.int .i64 ((rd_T99 l0 (rd l1 x41_3)).f1))) (fun _ hk => hk.2) (.int .i64 ((rd_T99 l0 (rd l1 x41_3)).f2))) (fun _ hk => hk.2) (.int .i64 ((rd_T99 l0 (rd l1 x41_3)).f3))) (fun _ hk => hk.1.2)⟩
                        have n2_ : Aside0 (((((w35.setCell ⟨gb152, 0, none⟩ (.slice A151_0 ((rd_T99 l0 (rd l1 x41_3)).f0).length c151_0)).setCell ⟨gb152, 1, none⟩ (.int .i64 ((rd_T99 l0 (rd l1 x41_3)).f1))).setCell ⟨gb152, 2, none⟩ (.int .i64 ((rd_T99 l0 (rd l1 x41_3)).f2))).setCell ⟨gb152, 3, none⟩ (.int .i64 ((rd_T99 l0 (rd l1 x41_3)).f3))).heap[gb152]? = some (.cells #[.slice A151_0 ((rd_T99 l0 (rd l1 x41_3)).f0).length c151_0, .int .i64 ((rd_T99 l0 (rd l1 x41_3)).f1), .int .i64 ((rd_T99 l0 (rd l1 x41_3)).f2), .int .i64 ((rd_T99 l0 (rd l1 x41_3)).f3)] 99 (0, 0))) := ⟨by (with_reducible repeat first | apply bN | apply bD | apply bA); refine blk_put (cs := #[.slice A151_0 ((rd_T99 l0 (rd l1 x41_3)).f0).length c151_0, .int .i64 ((rd_T99 l0 (rd l1 x41_3)).f1), .int .i64 ((rd_T99 l0 (rd l1 x41_3)).f2), .int .i64 0]) ?_ 3 _ rfl; (with_reducible repeat first | apply bN | apply bD | apply bA); refine blk_put (cs := #[.slice A151_0 ((rd_T99 l0 (rd l1 x41_3)).f0).length c151_0, .int .i64 ((rd_T99 l0 (rd l1 x41_3)).f1), .int .i64 0, .int .i64 0]) ?_ 2 _ rfl; (with_reducible repeat first | apply bN | apply bD | apply bA); refine blk_put (cs := #[.slice A151_0 ((rd_T99 l0 (rd l1 x41_3)).f0).length c151_0, .int .i64 0, .int .i64 0, .int .i64 0]) ?_ 1 _ rfl; (with_reducible repeat first | apply bN | apply bD | apply bA); refine blk_put (cs := #[.slice none 0 0, .int .i64 0, .int .i64 0, .int .i64 0]) ?_ 0 _ rfl; (with_reducible repeat first | apply bN | apply bD | apply bA); exact BK152.out⟩
                        have n3_ : Aside0 (Below w.heap.size w ((((w35.setCell ⟨gb152, 0, none⟩ (.slice A151_0 ((rd_T99 l0 (rd l1 x41_3)).f0).length c151_0)).setCell ⟨gb152, 1, none⟩ (.int .i64 ((rd_T99 l0 (rd l1 x41_3)).f1))).setCell ⟨gb152, 2, none⟩ (.int .i64 ((rd_T99 l0 (rd l1 x41_3)).f2))).setCell ⟨gb152, 3, none⟩ (.int .i64 ((rd_T99 l0 (rd l1 x41_3)).f3)))) := ⟨lB⟩
                        (try clear HO_6)
                        (try clear HO_9)
                        (try clear BK152)
                        (try clear HB)
                        generalize ((((w35.setCell ⟨gb152, 0, none⟩ (.slice A151_0 ((rd_T99 l0 (rd l1 x41_3)).f0).length c151_0)).setCell ⟨gb152, 1, none⟩ (.int .i64 ((rd_T99 l0 (rd l1 x41_3)).f1))).setCell ⟨gb152, 2, none⟩ (.int .i64 ((rd_T99 l0 (rd l1 x41_3)).f2))).setCell ⟨gb152, 3, none⟩ (.int .i64 ((rd_T99 l0 (rd l1 x41_3)).f3))) = w37 at n0_ n1_ n2_ n3_ ⊢
                        have HO_6 := n0_
                        have HO_9 := n1_
                        have BK152 := n2_
                        have HB := n3_
                        clear n0_ n1_ n2_ n3_
                        have n0_ := Aside0.mk (Kd.R_drew HO_6.out)
                        have n1_ := Aside0.mk (Kd.S_drew HO_9.out)
                        have n2_ := Aside0.mk (blk_drew BK152.out)
                        have n3_ := Aside0.mk (below_drew1 HB.out)
                        clear HO_6
                        clear HO_9
                        clear BK152
                        clear HB
                        have HO_6 := n0_
                        have HO_9 := n1_
                        have BK152 := n2_
                        have HB := n3_
                        clear n0_ n1_ n2_ n3_
                        refine start_ (n := 9) (S := fun w' => w'.cell? ⟨gb152, 0, none⟩ = some (.slice A151_0 ((rd_T99 l0 (rd l1 x41_3)).f0).length c151_0) ∧ w'.cell? ⟨gb152, 1, none⟩ = some (.int .i64 ((rd_T99 l0 (rd l1 x41_3)).f1)) ∧ w'.cell? ⟨gb152, 2, none⟩ = some (.int .i64 ((rd_T99 l0 (rd l1 x41_3)).f2)) ∧ w'.cell? ⟨gb152, 3, none⟩ = some (.int .i64 ((rd_T99 l0 (rd l1 x41_3)).f3))) (ds := []) (bs 9 0) kR rfl kR ⟨bZ BK152.out 0, bZ BK152.out 1, bZ BK152.out 2, bZ BK152.out 3⟩ (fun hHeld => ?_); refine with_tabW spec_LayFlow.tab14 spec_LayFlow.bits14 (fun HT_ HW_ => ?_)
                        generalize w37.drew = w38 at HO_6 HO_9 BK152 HB hHeld ⊢
                        refine pur_ 1 50 (bs 9 2) (any_of HT_.out kR) ?_
                        refine pur_ 4 53 (bs 9 18) (any_of HT_.out kR) ?_
                        refine tak_ 2 51 (bs 9 22) (take_ofW HT_.out HW_.out kR) hHeld ?_
                        refine tak_ 5 54 (bs 9 54) (take_ofW HT_.out HW_.out kR) hHeld ?_
                        refine join_ (σ := Value × Value × Nat) 1 #[true, true, true, true, true, true, true, true, false] (fun s_ => [(49, s_.1), (52, s_.2.1), (13, .pointer (some ⟨s_.2.2, 0, none⟩)), (55, .agg #[s_.2.1, .int .i64 ((rd_T99 l0 (rd l1 x41_3)).f1), .int .i64 (-1), .int .i64 (-1)])]) (fun s_ w' => (w'.cell? ⟨gb152, 0, none⟩ = some (.slice A151_0 ((rd_T99 l0 (rd l1 x41_3)).f0).length c151_0) ∧ w'.cell? ⟨gb152, 1, none⟩ = some (.int .i64 ((rd_T99 l0 (rd l1 x41_3)).f1)) ∧ w'.cell? ⟨gb152, 2, none⟩ = some (.int .i64 ((rd_T99 l0 (rd l1 x41_3)).f2)) ∧ w'.cell? ⟨gb152, 3, none⟩ = some (.int .i64 ((rd_T99 l0 (rd l1 x41_3)).f3))) ∧ (Kd.R k130 130 w' w.heap.size (fun _ => True) s_.2.1 y156) ∧ (Kd.R (Kd.int .i64) 3 w' w.heap.size (fun _ => True) v146 x6_2) ∧ (Kd.S k99 99 w' w.heap.size (fun k_ => some k_ ≠ (s_.2.1 : Value).ownBlock ∧ k_ ≠ gb152 ∧ k_ ≠ s_.2.2) u9 x9_3) ∧ (w'.heap[gb152]? = some (.cells #[.slice A151_0 ((rd_T99 l0 (rd l1 x41_3)).f0).length c151_0, .int .i64 ((rd_T99 l0 (rd l1 x41_3)).f1), .int .i64 ((rd_T99 l0 (rd l1 x41_3)).f2), .int .i64 ((rd_T99 l0 (rd l1 x41_3)).f3)] 99 (0, 0))) ∧ (w'.heap[s_.2.2]? = some (.cells #[.slice none 0 0, .int .i64 0, .int .i64 0, .int .i64 0] 99 (0, 0))) ∧ (w.heap.size ≤ s_.2.2) ∧ (w.heap.size ≤ s_.2.2) ∧ (gb152 ≠ s_.2.2) ∧ (s_.2.2 ≠ gb152) ∧ (Below w.heap.size w w')) ?_ ?_
                        rotate_left
                        ·intro hCont
                         refine two_ (i := 0) (j := 7) (Ni := some 49) (Nj := some 13) (bs 9 55) (bs 9 182) rfl rfl rfl rfl (two_of HT_.out (by kernel_rfl)) (by decide) (by decide) (fun K hK => ?_) (fun K hK => ?_)
                         ·skip
                          refine Kd.R_lit_step k130 _ 130 ?hg (N := 49) ?hd (xs := ([] : List (S130))) (inner := []) (ok := fun _ => True) (okp := fun _ => True) ?hr ?hp (fun _ hk => hk) trivial (Below.refl _ _) (Nat.le_refl _) (by simp) ?_; (case hd => rfl); (case hg => rfl); (case hr => first | (go_simp; done) | (go_simp; rfl)); (case hp => exact (Reps.none _ _))
                          intro v154 w39 ho40 hb hg_ hnew_
                          clear hg_ hnew_
                          (first | rw [← Ny153.out] at ho40 | (simp only [Int.reduceToNat] at ho40; rw [← Ny153.out] at ho40))
                          have n0_ := Aside0.mk (Kd.R_below (lR HO_6.out) hb)
                          have n1_ := Aside0.mk (Kd.S_elder' (lS HO_9.out) (Kd.R_base ho40) hb)
                          have n2_ := Aside0.mk (Kd.R_lower ho40 (below_size lB))
                          have n3_ := Aside0.mk (blk_below (lK BK152.out) hb)
                          have n4_ := Aside0.mk (below_step lB hb)
                          clear HO_6
                          clear HO_9
                          clear BK152
                          clear HB
                          have HO_6 := n0_
                          have HO_9 := n1_
                          have HO155 := n2_
                          have BK152 := n3_
                          have HB := n4_
                          clear n0_ n1_ n2_ n3_ n4_
                          clear hb ho40
                          refine hK.out _ _ ⟨bZ BK152.out 0, bZ BK152.out 1, bZ BK152.out 2, bZ BK152.out 3⟩ (fun hHeld => ?_)
                          clear hK K
                          refine norm_ (a' := ?_) ?_ ?_
                          rotate_left
                          ·show Act.put _ (some 49) _ = _
                           simp only [Act.put, List.setIfInBounds_toArray, List.set_cons_zero, List.set_cons_succ, i64_w, i32_w]
                           rfl
                          refine two_ (i := 3) (j := 7) (Ni := some 52) (Nj := some 13) (bs 9 63) (bs 9 183) rfl rfl rfl rfl (two_of HT_.out (by kernel_rfl)) (by decide) (by decide) (fun K hK => ?_) (fun K hK => ?_)
                          ·skip
                           refine Kd.R_append_rows_step k130 (w0 := w) w.heap.size (by rfl) (.tmp 49) (.tmp 51) 97 130 (.agg #[(.int .i64 0), (.int .i64 0), (.int .i64 0), (.int .i64 0), (.int .i64 0)]) 40 rfl Try.underlying97 info130 rfl (by decide) (by omega) v154 y153 ((rd_T99 l0 (rd l1 x41_3)).f0) _ _ _ (fun _ => True) (fun _ => False) rfl rfl ?aO ?aR (fun _ _ h => h) (fun _ h => h.elim) ?aF ?aB ?aS ?aL ?_
                           (case aR => exact lC (Kd.C_below HR151_0.out HB.out))
                           (case aB => exact lB)
                           (case aF => exact (fun _ _ => trivial))
                           (case aO => exact (lR HO155.out))
                           (case aS => exact (below_size lB))
                           (case aL => have := LMc27.out; omega)
                           intro v157 w41 ho hb hg hat
                           rw [← Ny156.out] at ho
                           have n0_ := Aside0.mk (Kd.R_over' (lR HO_6.out) (Kd.R_typed (lR HO155.out)) (by decide) hg)
                           have n1_ := Aside0.mk (Kd.S_after (ok := (fun k_ => k_ ≠ gb152)) (lS HO_9.out) hg hat)
                           have n2_ := Aside0.mk (blk_grown (lK BK152.out) hg (Kd.R_ne HO155.out BK152.out (by decide)))
                           have n3_ := Aside0.mk (hb)
                           have n4_ := Aside0.mk (ho)
                           clear HO_6
                           clear HO_9
                           clear BK152
                           clear HB
                           clear HO155
                           have HO_6 := n0_
                           have HO_9 := n1_
                           have BK152 := n2_
                           have HB := n3_
                           have HO158 := n4_
                           clear n0_ n1_ n2_ n3_ n4_
                           clear ho hb hg hat
                           obtain ⟨Ao42, co42, eo42⟩ := Kd.R_slice HO158.out
                           (first | subst eo42 | (injection eo42 with f1_ f2_ f3_; have f4_ := f1_.symm; have f5_ := f3_.symm; clear f1_ f2_ f3_; subst f4_; subst f5_))
                           refine hK.out _ _ ⟨bZ BK152.out 0, bZ BK152.out 1, bZ BK152.out 2, bZ BK152.out 3⟩ (fun hHeld => ?_)
                           clear hK K
                           refine norm_ (a' := ?_) ?_ ?_
                           rotate_left
                           ·show Act.put _ (some 52) _ = _
                            simp only [Act.put, List.setIfInBounds_toArray, List.set_cons_zero, List.set_cons_succ, i64_w, i32_w]
                            rfl
                           refine pur_ 6 55 (bs 9 127) (any_of HT_.out kR) ?_
                           refine one_ (i := 7) (N := some 13) (bs 9 255) rfl rfl (one_of HT_.out (by kernel_rfl)) (by decide) (fun K hK => ?_)
                           refine box_step ?hg (N := 13) ?hd (cs := #[.slice none 0 0, .int .i64 0, .int .i64 0, .int .i64 0]) (t := 99) ?hr ?_; (case hd => rfl); (case hg => rfl); (case hr => first | (go_simp; done) | (go_simp; rfl))
                           intro gb159 hg w43 hbox hb
                           have n0_ := Aside0.mk (Kd.R_below (lR HO_6.out) hb)
                           have n1_ := Aside0.mk (Kd.S_below (Kd.S_elderB (lS HO_9.out) gb159 (Nat.le_of_eq hg.symm)) hb)
                           have n2_ := Aside0.mk (Kd.R_below (lR HO158.out) hb)
                           have n3_ := Aside0.mk (blk_below (lK BK152.out) hb)
                           have n4_ := Aside0.mk (below_step lB hb)
                           have n5_ := Aside0.mk (hbox)
                           have n6_ := lG w hg
                           have n7_ := lG w hg
                           have n8_ := Aside0.mk ((by rw [hg]; exact Nat.ne_of_lt (blk_lt (lK BK152.out)) : gb152 ≠ gb159))
                           have n9_ := Aside0.mk ((by rw [hg]; exact Nat.ne_of_gt (blk_lt (lK BK152.out)) : gb159 ≠ gb152))
                           clear HO_6
                           clear HO_9
                           clear HO158
                           clear BK152
                           clear HB
                           have HO_6 := n0_
                           have HO_9 := n1_
                           have HO158 := n2_
                           have BK152 := n3_
                           have HB := n4_
                           have BK159 := n5_
                           have GW159 := n6_
                           have GE159 := n7_
                           have NB152_159 := n8_
                           have NB159_152 := n9_
                           clear n0_ n1_ n2_ n3_ n4_ n5_ n6_ n7_ n8_ n9_
                           clear hb hbox hg
                           refine hK.out _ _ ⟨bZ BK152.out 0, bZ BK152.out 1, bZ BK152.out 2, bZ BK152.out 3⟩ (fun hHeld => ?_)
                           clear hK K
                           refine norm_ (a' := ?_) ?_ ?_
                           rotate_left
                           ·show Act.put _ (some 13) _ = _
                            simp only [Act.put, List.setIfInBounds_toArray, List.set_cons_zero, List.set_cons_succ, i64_w, i32_w]
                            rfl
                           exact norm_ (by simp only [putAll, Act.put, List.setIfInBounds_toArray, List.set_cons_zero, List.set_cons_succ]) (hCont (v154, .slice Ao42 y156.length co42, gb159) _ ⟨hHeld, (lR HO158.out), (lR HO_6.out), (by (with_reducible repeat (first | apply Kd.S_alloc | apply Kd.S_drewN | apply Kd.S_drew)); exact Kd.S_mono HO_9.out (fun _ hk => ⟨hk.1.2, ⟨hk.1.1, hk.2⟩⟩)), (lK BK152.out), (lK BK159.out), GW159.out, GE159.out, NB152_159.out, NB159_152.out, lB⟩)
                          ·skip
                           refine box_step ?hg (N := 13) ?hd (cs := #[.slice none 0 0, .int .i64 0, .int .i64 0, .int .i64 0]) (t := 99) ?hr ?_; (case hd => rfl); (case hg => rfl); (case hr => first | (go_simp; done) | (go_simp; rfl))
                           intro gb159 hg w41 hbox hb
                           have n0_ := Aside0.mk (Kd.R_below (lR HO_6.out) hb)
                           have n1_ := Aside0.mk (Kd.S_below (Kd.S_elderB (lS HO_9.out) gb159 (Nat.le_of_eq hg.symm)) hb)
                           have n2_ := Aside0.mk (Kd.R_below (lR HO155.out) hb)
                           have n3_ := Aside0.mk (blk_below (lK BK152.out) hb)
                           have n4_ := Aside0.mk (below_step lB hb)
                           have n5_ := Aside0.mk (hbox)
                           have n6_ := lG w hg
                           have n7_ := lG w hg
                           have n8_ := Aside0.mk ((by rw [hg]; exact Nat.ne_of_lt (blk_lt (lK BK152.out)) : gb152 ≠ gb159))
                           have n9_ := Aside0.mk ((by rw [hg]; exact Nat.ne_of_gt (blk_lt (lK BK152.out)) : gb159 ≠ gb152))
                           clear HO_6
                           clear HO_9
                           clear HO155
                           clear BK152
                           clear HB
                           have HO_6 := n0_
                           have HO_9 := n1_
                           have HO155 := n2_
                           have BK152 := n3_
                           have HB := n4_
                           have BK159 := n5_
                           have GW159 := n6_
                           have GE159 := n7_
                           have NB152_159 := n8_
                           have NB159_152 := n9_
                           clear n0_ n1_ n2_ n3_ n4_ n5_ n6_ n7_ n8_ n9_
                           clear hb hbox hg
                           refine hK.out _ _ ⟨bZ BK152.out 0, bZ BK152.out 1, bZ BK152.out 2, bZ BK152.out 3⟩ (fun hHeld => ?_)
                           clear hK K
                           refine norm_ (a' := ?_) ?_ ?_
                           rotate_left
                           ·show Act.put _ (some 13) _ = _
                            simp only [Act.put, List.setIfInBounds_toArray, List.set_cons_zero, List.set_cons_succ, i64_w, i32_w]
                            rfl
                           refine one_ (i := 3) (N := some 52) (bs 9 191) rfl rfl (one_of HT_.out (by kernel_rfl)) (by decide) (fun K hK => ?_)
                           refine Kd.R_append_rows_step k130 (w0 := w) w.heap.size (by rfl) (.tmp 49) (.tmp 51) 97 130 (.agg #[(.int .i64 0), (.int .i64 0), (.int .i64 0), (.int .i64 0), (.int .i64 0)]) 40 rfl Try.underlying97 info130 rfl (by decide) (by omega) v154 y153 ((rd_T99 l0 (rd l1 x41_3)).f0) _ _ _ (fun _ => True) (fun _ => False) rfl rfl ?aO ?aR (fun _ _ h => h) (fun _ h => h.elim) ?aF ?aB ?aS ?aL ?_
                           (case aR => exact lC (Kd.C_below HR151_0.out HB.out))
                           (case aB => exact lB)
                           (case aF => exact (fun _ _ => trivial))
                           (case aO => exact (lR HO155.out))
                           (case aS => exact (below_size lB))
                           (case aL => have := LMc27.out; omega)
                           intro v157 w42 ho hb hg hat
                           rw [← Ny156.out] at ho
                           have n0_ := Aside0.mk (Kd.R_over' (lR HO_6.out) (Kd.R_typed (lR HO155.out)) (by decide) hg)
                           have n1_ := Aside0.mk (Kd.S_after (ok := (fun k_ => k_ ≠ gb152 ∧ k_ ≠ gb159)) (by (with_reducible repeat (first | apply Kd.S_alloc | apply Kd.S_drewN | apply Kd.S_drew)); exact Kd.S_mono HO_9.out (fun _ hk => ⟨⟨hk.1.1, hk.2⟩, hk.1.2⟩)) hg hat)
                           have n2_ := Aside0.mk (blk_grown (lK BK152.out) hg (Kd.R_ne HO155.out BK152.out (by decide)))
                           have n3_ := Aside0.mk (blk_grown (lK BK159.out) hg (Kd.R_ne HO155.out BK159.out (by decide)))
                           have n4_ := Aside0.mk (hb)
                           have n5_ := Aside0.mk (ho)
                           clear HO_6
                           clear HO_9
                           clear BK152
                           clear BK159
                           clear HB
                           clear HO155
                           have HO_6 := n0_
                           have HO_9 := n1_
                           have BK152 := n2_
                           have BK159 := n3_
                           have HB := n4_
                           have HO158 := n5_
                           clear n0_ n1_ n2_ n3_ n4_ n5_
                           clear ho hb hg hat
                           obtain ⟨Ao43, co43, eo43⟩ := Kd.R_slice HO158.out
                           (first | subst eo43 | (injection eo43 with f1_ f2_ f3_; have f4_ := f1_.symm; have f5_ := f3_.symm; clear f1_ f2_ f3_; subst f4_; subst f5_))
                           refine hK.out _ _ ⟨bZ BK152.out 0, bZ BK152.out 1, bZ BK152.out 2, bZ BK152.out 3⟩ (fun hHeld => ?_)
                           clear hK K
                           refine norm_ (a' := ?_) ?_ ?_
                           rotate_left
                           ·show Act.put _ (some 52) _ = _
                            simp only [Act.put, List.setIfInBounds_toArray, List.set_cons_zero, List.set_cons_succ, i64_w, i32_w]
                            rfl
                           refine pur_ 6 55 (bs 9 255) (any_of HT_.out kR) ?_
                           exact norm_ (by simp only [putAll, Act.put, List.setIfInBounds_toArray, List.set_cons_zero, List.set_cons_succ]) (hCont (v154, .slice Ao43 y156.length co43, gb159) _ ⟨hHeld, (lR HO158.out), (lR HO_6.out), (by (with_reducible repeat (first | apply Kd.S_alloc | apply Kd.S_drewN | apply Kd.S_drew)); exact Kd.S_mono HO_9.out (fun _ hk => ⟨hk.2, ⟨hk.1.1, hk.1.2⟩⟩)), (lK BK152.out), (lK BK159.out), GW159.out, GE159.out, NB152_159.out, NB159_152.out, lB⟩)
                         ·skip
                          refine box_step ?hg (N := 13) ?hd (cs := #[.slice none 0 0, .int .i64 0, .int .i64 0, .int .i64 0]) (t := 99) ?hr ?_; (case hd => rfl); (case hg => rfl); (case hr => first | (go_simp; done) | (go_simp; rfl))
                          intro gb159 hg w39 hbox hb
                          have n0_ := Aside0.mk (Kd.R_below (lR HO_6.out) hb)
                          have n1_ := Aside0.mk (Kd.S_below (Kd.S_elderB (lS HO_9.out) gb159 (Nat.le_of_eq hg.symm)) hb)
                          have n2_ := Aside0.mk (blk_below (lK BK152.out) hb)
                          have n3_ := Aside0.mk (below_step lB hb)
                          have n4_ := Aside0.mk (hbox)
                          have n5_ := lG w hg
                          have n6_ := lG w hg
                          have n7_ := Aside0.mk ((by rw [hg]; exact Nat.ne_of_lt (blk_lt (lK BK152.out)) : gb152 ≠ gb159))
                          have n8_ := Aside0.mk ((by rw [hg]; exact Nat.ne_of_gt (blk_lt (lK BK152.out)) : gb159 ≠ gb152))
                          clear HO_6
                          clear HO_9
                          clear BK152
                          clear HB
                          have HO_6 := n0_
                          have HO_9 := n1_
                          have BK152 := n2_
                          have HB := n3_
                          have BK159 := n4_
                          have GW159 := n5_
                          have GE159 := n6_
                          have NB152_159 := n7_
                          have NB159_152 := n8_
                          clear n0_ n1_ n2_ n3_ n4_ n5_ n6_ n7_ n8_
                          clear hb hbox hg
                          refine hK.out _ _ ⟨bZ BK152.out 0, bZ BK152.out 1, bZ BK152.out 2, bZ BK152.out 3⟩ (fun hHeld => ?_)
                          clear hK K
                          refine norm_ (a' := ?_) ?_ ?_
                          rotate_left
                          ·show Act.put _ (some 13) _ = _
                           simp only [Act.put, List.setIfInBounds_toArray, List.set_cons_zero, List.set_cons_succ, i64_w, i32_w]
                           rfl
                          refine one_ (i := 0) (N := some 49) (bs 9 183) rfl rfl (one_of HT_.out (by kernel_rfl)) (by decide) (fun K hK => ?_)
                          refine Kd.R_lit_step k130 _ 130 ?hg (N := 49) ?hd (xs := ([] : List (S130))) (inner := []) (ok := fun _ => True) (okp := fun _ => True) ?hr ?hp (fun _ hk => hk) trivial (Below.refl _ _) (Nat.le_refl _) (by simp) ?_; (case hd => rfl); (case hg => rfl); (case hr => first | (go_simp; done) | (go_simp; rfl)); (case hp => exact (Reps.none _ _))
                          intro v154 w40 ho41 hb hg_ hnew_
                          clear hg_ hnew_
                          (first | rw [← Ny153.out] at ho41 | (simp only [Int.reduceToNat] at ho41; rw [← Ny153.out] at ho41))
                          have n0_ := Aside0.mk (Kd.R_below (lR HO_6.out) hb)
                          have n1_ := Aside0.mk (Kd.S_elder' (lS HO_9.out) (Kd.R_base ho41) hb)
                          have n2_ := Aside0.mk (Kd.R_lower ho41 (below_size lB))
                          have n3_ := Aside0.mk (blk_below (lK BK152.out) hb)
                          have n4_ := Aside0.mk (blk_below (lK BK159.out) hb)
                          have n5_ := Aside0.mk (below_step lB hb)
                          clear HO_6
                          clear HO_9
                          clear BK152
                          clear BK159
                          clear HB
                          have HO_6 := n0_
                          have HO_9 := n1_
                          have HO155 := n2_
                          have BK152 := n3_
                          have BK159 := n4_
                          have HB := n5_
                          clear n0_ n1_ n2_ n3_ n4_ n5_
                          clear hb ho41
                          refine hK.out _ _ ⟨bZ BK152.out 0, bZ BK152.out 1, bZ BK152.out 2, bZ BK152.out 3⟩ (fun hHeld => ?_)
                          clear hK K
                          refine norm_ (a' := ?_) ?_ ?_
                          rotate_left
                          ·show Act.put _ (some 49) _ = _
                           simp only [Act.put, List.setIfInBounds_toArray, List.set_cons_zero, List.set_cons_succ, i64_w, i32_w]
                           rfl
                          refine one_ (i := 3) (N := some 52) (bs 9 191) rfl rfl (one_of HT_.out (by kernel_rfl)) (by decide) (fun K hK => ?_)
                          refine Kd.R_append_rows_step k130 (w0 := w) w.heap.size (by rfl) (.tmp 49) (.tmp 51) 97 130 (.agg #[(.int .i64 0), (.int .i64 0), (.int .i64 0), (.int .i64 0), (.int .i64 0)]) 40 rfl Try.underlying97 info130 rfl (by decide) (by omega) v154 y153 ((rd_T99 l0 (rd l1 x41_3)).f0) _ _ _ (fun _ => True) (fun _ => False) rfl rfl ?aO ?aR (fun _ _ h => h) (fun _ h => h.elim) ?aF ?aB ?aS ?aL ?_
                          (case aR => exact lC (Kd.C_below HR151_0.out HB.out))
                          (case aB => exact lB)
                          (case aF => exact (fun _ _ => trivial))
                          (case aO => exact (lR HO155.out))
                          (case aS => exact (below_size lB))
                          (case aL => have := LMc27.out; omega)
                          intro v157 w42 ho hb hg hat
                          rw [← Ny156.out] at ho
                          have n0_ := Aside0.mk (Kd.R_over' (lR HO_6.out) (Kd.R_typed (lR HO155.out)) (by decide) hg)
                          have n1_ := Aside0.mk (Kd.S_after (ok := (fun k_ => k_ ≠ gb152 ∧ k_ ≠ gb159)) (lS HO_9.out) hg hat)
                          have n2_ := Aside0.mk (blk_grown (lK BK152.out) hg (Kd.R_ne HO155.out BK152.out (by decide)))
                          have n3_ := Aside0.mk (blk_grown (lK BK159.out) hg (Kd.R_ne HO155.out BK159.out (by decide)))
                          have n4_ := Aside0.mk (hb)
                          have n5_ := Aside0.mk (ho)
                          clear HO_6
                          clear HO_9
                          clear BK152
                          clear BK159
                          clear HB
                          clear HO155
                          have HO_6 := n0_
                          have HO_9 := n1_
                          have BK152 := n2_
                          have BK159 := n3_
                          have HB := n4_
                          have HO158 := n5_
                          clear n0_ n1_ n2_ n3_ n4_ n5_
                          clear ho hb hg hat
                          obtain ⟨Ao43, co43, eo43⟩ := Kd.R_slice HO158.out
                          (first | subst eo43 | (injection eo43 with f1_ f2_ f3_; have f4_ := f1_.symm; have f5_ := f3_.symm; clear f1_ f2_ f3_; subst f4_; subst f5_))
                          refine hK.out _ _ ⟨bZ BK152.out 0, bZ BK152.out 1, bZ BK152.out 2, bZ BK152.out 3⟩ (fun hHeld => ?_)
                          clear hK K
                          refine norm_ (a' := ?_) ?_ ?_
                          rotate_left
                          ·show Act.put _ (some 52) _ = _
                           simp only [Act.put, List.setIfInBounds_toArray, List.set_cons_zero, List.set_cons_succ, i64_w, i32_w]
                           rfl
                          refine pur_ 6 55 (bs 9 255) (any_of HT_.out kR) ?_
                          exact norm_ (by simp only [putAll, Act.put, List.setIfInBounds_toArray, List.set_cons_zero, List.set_cons_succ]) (hCont (v154, .slice Ao43 y156.length co43, gb159) _ ⟨hHeld, (lR HO158.out), (lR HO_6.out), (by (with_reducible repeat (first | apply Kd.S_alloc | apply Kd.S_drewN | apply Kd.S_drew)); exact Kd.S_mono HO_9.out (fun _ hk => ⟨hk.2, ⟨hk.1.1, hk.1.2⟩⟩)), (lK BK152.out), (lK BK159.out), GW159.out, GE159.out, NB152_159.out, NB159_152.out, lB⟩)
                        rintro ⟨v154, v157, gb159⟩ w44 ⟨hS_, h0_, h1_, h2_, h3_, h4_, h5_, h6_, h7_, h8_, h9_⟩
                        have n0_ : Aside0 (Kd.R k130 130 w44 w.heap.size (fun _ => True) v157 y156) := ⟨h0_⟩
                        have n1_ : Aside0 (Kd.R (Kd.int .i64) 3 w44 w.heap.size (fun _ => True) v146 x6_2) := ⟨h1_⟩
                        have n2_ : Aside0 (Kd.S k99 99 w44 w.heap.size (fun k_ => some k_ ≠ (v157 : Value).ownBlock ∧ k_ ≠ gb152 ∧ k_ ≠ gb159) u9 x9_3) := ⟨h2_⟩
                        have n3_ : Aside0 (w44.heap[gb152]? = some (.cells #[.slice A151_0 ((rd_T99 l0 (rd l1 x41_3)).f0).length c151_0, .int .i64 ((rd_T99 l0 (rd l1 x41_3)).f1), .int .i64 ((rd_T99 l0 (rd l1 x41_3)).f2), .int .i64 ((rd_T99 l0 (rd l1 x41_3)).f3)] 99 (0, 0))) := ⟨h3_⟩
                        have n4_ : Aside0 (w44.heap[gb159]? = some (.cells #[.slice none 0 0, .int .i64 0, .int .i64 0, .int .i64 0] 99 (0, 0))) := ⟨h4_⟩
                        have n5_ : Aside0 (w.heap.size ≤ gb159) := ⟨h5_⟩
                        have n6_ : Aside0 (w.heap.size ≤ gb159) := ⟨h6_⟩
                        have n7_ : Aside0 (gb152 ≠ gb159) := ⟨h7_⟩
                        have n8_ : Aside0 (gb159 ≠ gb152) := ⟨h8_⟩
                        have n9_ : Aside0 (Below w.heap.size w w44) := ⟨h9_⟩
                        clear HO_6
                        clear HO_9
                        clear BK152
                        clear HB
                        clear h0_ h1_ h2_ h3_ h4_ h5_ h6_ h7_ h8_ h9_
                        have HO158 := n0_
                        have HO_6 := n1_
                        have HO_9 := n2_
                        have BK152 := n3_
                        have BK159 := n4_
                        have GW159 := n5_
                        have GE159 := n6_
                        have NB152_159 := n7_
                        have NB159_152 := n8_
                        have HB := n9_
                        clear n0_ n1_ n2_ n3_ n4_ n5_ n6_ n7_ n8_ n9_
                        have hHeld : w44.cell? ⟨gb152, 0, none⟩ = some (.slice A151_0 ((rd_T99 l0 (rd l1 x41_3)).f0).length c151_0) ∧ w44.cell? ⟨gb152, 1, none⟩ = some (.int .i64 ((rd_T99 l0 (rd l1 x41_3)).f1)) ∧ w44.cell? ⟨gb152, 2, none⟩ = some (.int .i64 ((rd_T99 l0 (rd l1 x41_3)).f2)) ∧ w44.cell? ⟨gb152, 3, none⟩ = some (.int .i64 ((rd_T99 l0 (rd l1 x41_3)).f3)) := hS_
                        obtain ⟨Ao45, co45, eo45⟩ := Kd.R_slice HO158.out
                        (first | subst eo45 | (injection eo45 with f1_ f2_ f3_; have f4_ := f1_.symm; have f5_ := f3_.symm; clear f1_ f2_ f3_; subst f4_; subst f5_))
                        refine norm_ (a' := ?_) ?_ ?_
                        rotate_left
                        ·simp only [putAll, Act.put, List.setIfInBounds_toArray, List.set_cons_zero, List.set_cons_succ]
                         rfl
                        refine one_ (i := 8) (N := none) (bs 9 511) rfl rfl (one_of HT_.out (by kernel_rfl)) (by decide) (fun K hK => ?_)
                        have hs46 : w44.cell? ⟨gb159, 0, none⟩ = some (.slice none 0 0) := bZ BK159.out 0
                        have hfs46 := blk_frozen BK159.out 0
                        have hns46_0 := NB152_159.out
                        have hms46_0 := NB159_152.out
                        have hs47 : w44.cell? ⟨gb159, 1, none⟩ = some (.int .i64 0) := bZ BK159.out 1
                        have hfs47 := blk_frozen BK159.out 1
                        have hns47_0 := NB152_159.out
                        have hms47_0 := NB159_152.out
                        have hs48 : w44.cell? ⟨gb159, 2, none⟩ = some (.int .i64 0) := bZ BK159.out 2
                        have hfs48 := blk_frozen BK159.out 2
                        have hns48_0 := NB152_159.out
                        have hms48_0 := NB159_152.out
                        have hs49 : w44.cell? ⟨gb159, 3, none⟩ = some (.int .i64 0) := bZ BK159.out 3
                        have hfs49 := blk_frozen BK159.out 3
                        have hns49_0 := NB152_159.out
                        have hms49_0 := NB159_152.out
                        refine skip_ (w1 := ?_) (by rfl) rfl ?_ ?_
                        rotate_left
                        ·go_simp
                         rfl
                        refine hK.out _ _ ⟨((cell_far (p := ⟨gb159, _, none⟩) NB152_159.out _).trans (((cell_far (p := ⟨gb159, _, none⟩) NB152_159.out _).trans (((cell_far (p := ⟨gb159, _, none⟩) NB152_159.out _).trans (((cell_far (p := ⟨gb159, _, none⟩) NB152_159.out _).trans (hHeld.1)))))))), ((cell_far (p := ⟨gb159, _, none⟩) NB152_159.out _).trans (((cell_far (p := ⟨gb159, _, none⟩) NB152_159.out _).trans (((cell_far (p := ⟨gb159, _, none⟩) NB152_159.out _).trans (((cell_far (p := ⟨gb159, _, none⟩) NB152_159.out _).trans (hHeld.2.1)))))))), ((cell_far (p := ⟨gb159, _, none⟩) NB152_159.out _).trans (((cell_far (p := ⟨gb159, _, none⟩) NB152_159.out _).trans (((cell_far (p := ⟨gb159, _, none⟩) NB152_159.out _).trans (((cell_far (p := ⟨gb159, _, none⟩) NB152_159.out _).trans (hHeld.2.2.1)))))))), ((cell_far (p := ⟨gb159, _, none⟩) NB152_159.out _).trans (((cell_far (p := ⟨gb159, _, none⟩) NB152_159.out _).trans (((cell_far (p := ⟨gb159, _, none⟩) NB152_159.out _).trans (((cell_far (p := ⟨gb159, _, none⟩) NB152_159.out _).trans (hHeld.2.2.2))))))))⟩ (fun hHeld => ?_)
                        clear hK K
                        refine done_ (done_of HT_.out (by kernel_rfl)) ?_
                        have n0_ : Aside0 (Kd.R (Kd.int .i64) 3 ((((w44.setCell ⟨gb159, 0, none⟩ (.slice Ao45 y156.length co45)).setCell ⟨gb159, 1, none⟩ (.int .i64 ((rd_T99 l0 (rd l1 x41_3)).f1))).setCell ⟨gb159, 2, none⟩ (.int .i64 (-1))).setCell ⟨gb159, 3, none⟩ (.int .i64 (-1))) w.heap.size (fun _ => True) v146 x6_2) := ⟨by (with_reducible repeat (first | apply Kd.R_alloc | apply Kd.R_drewN | apply Kd.R_drew)); exact Kd.R_mono (Kd.R_far (p := ⟨gb159, 3, none⟩) (Kd.R_far (p := ⟨gb159, 2, none⟩) (Kd.R_far (p := ⟨gb159, 1, none⟩) (Kd.R_far (p := ⟨gb159, 0, none⟩) (Kd.R_types HO_6.out BK159.out (by decide)) (fun _ hk => hk.2) (.slice Ao45 y156.length co45)) (fun _ hk => hk.2) (.int .i64 ((rd_T99 l0 (rd l1 x41_3)).f1))) (fun _ hk => hk.2) (.int .i64 (-1))) (fun _ hk => hk.2) (.int .i64 (-1))) (fun _ hk => trivial)⟩
                        have n1_ : Aside0 (Kd.S k99 99 ((((w44.setCell ⟨gb159, 0, none⟩ (.slice Ao45 y156.length co45)).setCell ⟨gb159, 1, none⟩ (.int .i64 ((rd_T99 l0 (rd l1 x41_3)).f1))).setCell ⟨gb159, 2, none⟩ (.int .i64 (-1))).setCell ⟨gb159, 3, none⟩ (.int .i64 (-1))) w.heap.size (fun k_ => some k_ ≠ (.slice Ao45 y156.length co45 : Value).ownBlock ∧ k_ ≠ gb152 ∧ k_ ≠ gb159) u9 x9_3) := ⟨by (with_reducible repeat (first | apply Kd.S_alloc | apply Kd.S_drewN | apply Kd.S_drew)); exact Kd.S_mono (Kd.S_far (p := ⟨gb159, 3, none⟩) (Kd.S_far (p := ⟨gb159, 2, none⟩) (Kd.S_far (p := ⟨gb159, 1, none⟩) (Kd.S_far (p := ⟨gb159, 0, none⟩) (Kd.S_mono HO_9.out (fun k_ hk => (⟨hk, hk.2.2⟩ : _ ∧ k_ ≠ gb159))) (fun _ hk => hk.2) (.slice Ao45 y156.length co45)) (fun _ hk => hk.2) (.int .i64 ((rd_T99 l0 (rd l1 x41_3)).f1))) (fun _ hk => hk.2) (.int .i64 (-1))) (fun _ hk => hk.2) (.int .i64 (-1))) (fun _ hk => ⟨hk.1.1, ⟨hk.1.2.1, hk.1.2.2⟩⟩)⟩
                        have n2_ : Aside0 (Kd.R k130 130 ((((w44.setCell ⟨gb159, 0, none⟩ (.slice Ao45 y156.length co45)).setCell ⟨gb159, 1, none⟩ (.int .i64 ((rd_T99 l0 (rd l1 x41_3)).f1))).setCell ⟨gb159, 2, none⟩ (.int .i64 (-1))).setCell ⟨gb159, 3, none⟩ (.int .i64 (-1))) w.heap.size (fun _ => True) (.slice Ao45 y156.length co45) y156) := ⟨by (with_reducible repeat (first | apply Kd.R_alloc | apply Kd.R_drewN | apply Kd.R_drew)); exact Kd.R_mono (Kd.R_far (p := ⟨gb159, 3, none⟩) (Kd.R_far (p := ⟨gb159, 2, none⟩) (Kd.R_far (p := ⟨gb159, 1, none⟩) (Kd.R_far (p := ⟨gb159, 0, none⟩) (Kd.R_types HO158.out BK159.out (by decide)) (fun _ hk => hk.2) (.slice Ao45 y156.length co45)) (fun _ hk => hk.2) (.int .i64 ((rd_T99 l0 (rd l1 x41_3)).f1))) (fun _ hk => hk.2) (.int .i64 (-1))) (fun _ hk => hk.2) (.int .i64 (-1))) (fun _ hk => trivial)⟩
                        have n3_ : Aside0 (((((w44.setCell ⟨gb159, 0, none⟩ (.slice Ao45 y156.length co45)).setCell ⟨gb159, 1, none⟩ (.int .i64 ((rd_T99 l0 (rd l1 x41_3)).f1))).setCell ⟨gb159, 2, none⟩ (.int .i64 (-1))).setCell ⟨gb159, 3, none⟩ (.int .i64 (-1))).heap[gb152]? = some (.cells #[.slice A151_0 ((rd_T99 l0 (rd l1 x41_3)).f0).length c151_0, .int .i64 ((rd_T99 l0 (rd l1 x41_3)).f1), .int .i64 ((rd_T99 l0 (rd l1 x41_3)).f2), .int .i64 ((rd_T99 l0 (rd l1 x41_3)).f3)] 99 (0, 0))) := ⟨lJ BK152.out⟩
                        have n4_ : Aside0 (((((w44.setCell ⟨gb159, 0, none⟩ (.slice Ao45 y156.length co45)).setCell ⟨gb159, 1, none⟩ (.int .i64 ((rd_T99 l0 (rd l1 x41_3)).f1))).setCell ⟨gb159, 2, none⟩ (.int .i64 (-1))).setCell ⟨gb159, 3, none⟩ (.int .i64 (-1))).heap[gb159]? = some (.cells #[.slice Ao45 y156.length co45, .int .i64 ((rd_T99 l0 (rd l1 x41_3)).f1), .int .i64 (-1), .int .i64 (-1)] 99 (0, 0))) := ⟨by (with_reducible repeat first | apply bN | apply bD | apply bA); refine blk_put (cs := #[.slice Ao45 y156.length co45, .int .i64 ((rd_T99 l0 (rd l1 x41_3)).f1), .int .i64 (-1), .int .i64 0]) ?_ 3 _ rfl; (with_reducible repeat first | apply bN | apply bD | apply bA); refine blk_put (cs := #[.slice Ao45 y156.length co45, .int .i64 ((rd_T99 l0 (rd l1 x41_3)).f1), .int .i64 0, .int .i64 0]) ?_ 2 _ rfl; (with_reducible repeat first | apply bN | apply bD | apply bA); refine blk_put (cs := #[.slice Ao45 y156.length co45, .int .i64 0, .int .i64 0, .int .i64 0]) ?_ 1 _ rfl; (with_reducible repeat first | apply bN | apply bD | apply bA); refine blk_put (cs := #[.slice none 0 0, .int .i64 0, .int .i64 0, .int .i64 0]) ?_ 0 _ rfl; (with_reducible repeat first | apply bN | apply bD | apply bA); exact BK159.out⟩
                        have n5_ : Aside0 (Below w.heap.size w ((((w44.setCell ⟨gb159, 0, none⟩ (.slice Ao45 y156.length co45)).setCell ⟨gb159, 1, none⟩ (.int .i64 ((rd_T99 l0 (rd l1 x41_3)).f1))).setCell ⟨gb159, 2, none⟩ (.int .i64 (-1))).setCell ⟨gb159, 3, none⟩ (.int .i64 (-1)))) := ⟨lB⟩
                        (try clear HO_6)
                        (try clear HO_9)
                        (try clear HO158)
                        (try clear BK152)
                        (try clear BK159)
                        (try clear HB)
                        generalize ((((w44.setCell ⟨gb159, 0, none⟩ (.slice Ao45 y156.length co45)).setCell ⟨gb159, 1, none⟩ (.int .i64 ((rd_T99 l0 (rd l1 x41_3)).f1))).setCell ⟨gb159, 2, none⟩ (.int .i64 (-1))).setCell ⟨gb159, 3, none⟩ (.int .i64 (-1))) = w50 at n0_ n1_ n2_ n3_ n4_ n5_ ⊢
                        have HO_6 := n0_
                        have HO_9 := n1_
                        have HO158 := n2_
                        have BK152 := n3_
                        have BK159 := n4_
                        have HB := n5_
                        clear n0_ n1_ n2_ n3_ n4_ n5_
                        have hnb51 := NB152_159.out
                        have hnc51 := NB159_152.out
                        obtain ⟨hcz52_0, hfz52_0, hcz52_1, hfz52_1, hcz52_2, hfz52_2, hcz52_3, hfz52_3⟩ := bk4 BK152.out
                        obtain ⟨Ao53, co53, eo53⟩ := Kd.R_slice HO_6.out
                        subst eo53
                        have p160 : 0 ≤ (((rd_T99 l0 (rd l1 x41_3)).f2) : Int) := lD
                        have q160 : ((rd_T99 l0 (rd l1 x41_3)).f2) < (x6_2.length : Int) := lD
                        obtain ⟨ad160, e160, hx160_0⟩ := Kd.at_int (Kd.R_reads' HO_6.out).2.2 ((rd_T99 l0 (rd l1 x41_3)).f2) p160 q160
                        cases e160
                        replace p160 := eq_true p160
                        replace q160 := eq_true q160
                        obtain ⟨hcz54_0, hfz54_0, hcz54_1, hfz54_1, hcz54_2, hfz54_2, hcz54_3, hfz54_3⟩ := bk4 BK159.out
                        try go_wp2_with (first | ((with_reducible refine gate_store (t := 3) (p := 64) rfl ?_); refine store_event (t := 3) (p := 64) (v := ?vo_w55) (w1 := (w50.setCell ⟨gb159, 2, none⟩ (.int .i64 (rd x6_2 ((rd_T99 l0 (rd l1 x41_3)).f2))))) ?hg ?ho ?hn ?hr ?_; (case ho => rfl); (case hg => rfl); (case hn => rfl); (case hr => first | (go_simp; done) | (go_simp; rfl)); intro w55 hw; have n0_ : Aside0 (Kd.R (Kd.int .i64) 3 w55 w.heap.size (fun _ => True) (.slice (some ad160) x6_2.length co53) x6_2) := ⟨(by rw [hw]; exact (by (with_reducible repeat (first | apply Kd.R_alloc | apply Kd.R_drewN | apply Kd.R_drew)); exact Kd.R_mono (Kd.R_far (p := ⟨gb159, 2, none⟩) (Kd.R_types HO_6.out BK159.out (by decide)) (fun _ hk => hk.2) (.int .i64 (rd x6_2 ((rd_T99 l0 (rd l1 x41_3)).f2)))) (fun _ hk => trivial)))⟩; have n1_ : Aside0 (Kd.S k99 99 w55 w.heap.size (fun k_ => some k_ ≠ (.slice Ao45 y156.length co45 : Value).ownBlock ∧ k_ ≠ gb152 ∧ k_ ≠ gb159) u9 x9_3) := ⟨(by rw [hw]; exact (by (with_reducible repeat (first | apply Kd.S_alloc | apply Kd.S_drewN | apply Kd.S_drew)); exact Kd.S_mono (Kd.S_far (p := ⟨gb159, 2, none⟩) (Kd.S_mono HO_9.out (fun k_ hk => (⟨hk, hk.2.2⟩ : _ ∧ k_ ≠ gb159))) (fun _ hk => hk.2) (.int .i64 (rd x6_2 ((rd_T99 l0 (rd l1 x41_3)).f2)))) (fun _ hk => ⟨hk.1.1, ⟨hk.1.2.1, hk.1.2.2⟩⟩)))⟩; have n2_ : Aside0 (Kd.R k130 130 w55 w.heap.size (fun _ => True) (.slice Ao45 y156.length co45) y156) := ⟨(by rw [hw]; exact (by (with_reducible repeat (first | apply Kd.R_alloc | apply Kd.R_drewN | apply Kd.R_drew)); exact Kd.R_mono (Kd.R_far (p := ⟨gb159, 2, none⟩) (Kd.R_types HO158.out BK159.out (by decide)) (fun _ hk => hk.2) (.int .i64 (rd x6_2 ((rd_T99 l0 (rd l1 x41_3)).f2)))) (fun _ hk => trivial)))⟩; have n3_ : Aside0 (w55.heap[gb152]? = some (.cells #[.slice A151_0 ((rd_T99 l0 (rd l1 x41_3)).f0).length c151_0, .int .i64 ((rd_T99 l0 (rd l1 x41_3)).f1), .int .i64 ((rd_T99 l0 (rd l1 x41_3)).f2), .int .i64 ((rd_T99 l0 (rd l1 x41_3)).f3)] 99 (0, 0))) := ⟨(by rw [hw]; exact (lJ BK152.out))⟩; have n4_ : Aside0 (w55.heap[gb159]? = some (.cells #[.slice Ao45 y156.length co45, .int .i64 ((rd_T99 l0 (rd l1 x41_3)).f1), .int .i64 (rd x6_2 ((rd_T99 l0 (rd l1 x41_3)).f2)), .int .i64 (-1)] 99 (0, 0))) := ⟨(by rw [hw]; exact (by (with_reducible repeat first | apply bN | apply bD | apply bA); refine blk_put (cs := #[.slice Ao45 y156.length co45, .int .i64 ((rd_T99 l0 (rd l1 x41_3)).f1), .int .i64 (-1), .int .i64 (-1)]) ?_ 2 _ rfl; (with_reducible repeat first | apply bN | apply bD | apply bA); exact BK159.out))⟩; have n5_ : Aside0 (Below w.heap.size w w55) := ⟨(by rw [hw]; exact lB)⟩; clear hw; clear HO_6; clear HO_9; clear HO158; clear BK152; clear BK159; clear HB; have HO_6 := n0_; have HO_9 := n1_; have HO158 := n2_; have BK152 := n3_; have BK159 := n4_; have HB := n5_; clear n0_ n1_ n2_ n3_ n4_ n5_; obtain ⟨hcz56_0, hfz56_0, hcz56_1, hfz56_1, hcz56_2, hfz56_2, hcz56_3, hfz56_3⟩ := bk4 BK152.out; have p161 : 0 ≤ (((rd_T99 l0 (rd l1 x41_3)).f3) : Int) := lD; have q161 : ((rd_T99 l0 (rd l1 x41_3)).f3) < (x6_2.length : Int) := lD; obtain ⟨ad161, e161, hx161_0⟩ := Kd.at_int (Kd.R_reads' HO_6.out).2.2 ((rd_T99 l0 (rd l1 x41_3)).f3) p161 q161; obtain rfl : ad160 = ad161 := (by injection e161); replace p161 := eq_true p161; replace q161 := eq_true q161; obtain ⟨hcz57_0, hfz57_0, hcz57_1, hfz57_1, hcz57_2, hfz57_2, hcz57_3, hfz57_3⟩ := bk4 BK159.out) | ((with_reducible refine gate_store (t := 3) (p := 73) rfl ?_); refine store_event (t := 3) (p := 73) (v := ?vo_w58) (w1 := (w55.setCell ⟨gb159, 3, none⟩ (.int .i64 (rd x6_2 ((rd_T99 l0 (rd l1 x41_3)).f3))))) ?hg ?ho ?hn ?hr ?_; (case ho => rfl); (case hg => rfl); (case hn => rfl); (case hr => first | (go_simp; done) | (go_simp; rfl)); intro w58 hw; have n0_ : Aside0 (Kd.R (Kd.int .i64) 3 w58 w.heap.size (fun _ => True) (.slice (some ad160) x6_2.length co53) x6_2) := ⟨(by rw [hw]; exact (by (with_reducible repeat (first | apply Kd.R_alloc | apply Kd.R_drewN | apply Kd.R_drew)); exact Kd.R_mono (Kd.R_far (p := ⟨gb159, 3, none⟩) (Kd.R_types HO_6.out BK159.out (by decide)) (fun _ hk => hk.2) (.int .i64 (rd x6_2 ((rd_T99 l0 (rd l1 x41_3)).f3)))) (fun _ hk => trivial)))⟩; have n1_ : Aside0 (Kd.S k99 99 w58 w.heap.size (fun k_ => some k_ ≠ (.slice Ao45 y156.length co45 : Value).ownBlock ∧ k_ ≠ gb152 ∧ k_ ≠ gb159) u9 x9_3) := ⟨(by rw [hw]; exact (by (with_reducible repeat (first | apply Kd.S_alloc | apply Kd.S_drewN | apply Kd.S_drew)); exact Kd.S_mono (Kd.S_far (p := ⟨gb159, 3, none⟩) (Kd.S_mono HO_9.out (fun k_ hk => (⟨hk, hk.2.2⟩ : _ ∧ k_ ≠ gb159))) (fun _ hk => hk.2) (.int .i64 (rd x6_2 ((rd_T99 l0 (rd l1 x41_3)).f3)))) (fun _ hk => ⟨hk.1.1, ⟨hk.1.2.1, hk.1.2.2⟩⟩)))⟩; have n2_ : Aside0 (Kd.R k130 130 w58 w.heap.size (fun _ => True) (.slice Ao45 y156.length co45) y156) := ⟨(by rw [hw]; exact (by (with_reducible repeat (first | apply Kd.R_alloc | apply Kd.R_drewN | apply Kd.R_drew)); exact Kd.R_mono (Kd.R_far (p := ⟨gb159, 3, none⟩) (Kd.R_types HO158.out BK159.out (by decide)) (fun _ hk => hk.2) (.int .i64 (rd x6_2 ((rd_T99 l0 (rd l1 x41_3)).f3)))) (fun _ hk => trivial)))⟩; have n3_ : Aside0 (w58.heap[gb152]? = some (.cells #[.slice A151_0 ((rd_T99 l0 (rd l1 x41_3)).f0).length c151_0, .int .i64 ((rd_T99 l0 (rd l1 x41_3)).f1), .int .i64 ((rd_T99 l0 (rd l1 x41_3)).f2), .int .i64 ((rd_T99 l0 (rd l1 x41_3)).f3)] 99 (0, 0))) := ⟨(by rw [hw]; exact (lJ BK152.out))⟩; have n4_ : Aside0 (w58.heap[gb159]? = some (.cells #[.slice Ao45 y156.length co45, .int .i64 ((rd_T99 l0 (rd l1 x41_3)).f1), .int .i64 (rd x6_2 ((rd_T99 l0 (rd l1 x41_3)).f2)), .int .i64 (rd x6_2 ((rd_T99 l0 (rd l1 x41_3)).f3))] 99 (0, 0))) := ⟨(by rw [hw]; exact (by (with_reducible repeat first | apply bN | apply bD | apply bA); refine blk_put (cs := #[.slice Ao45 y156.length co45, .int .i64 ((rd_T99 l0 (rd l1 x41_3)).f1), .int .i64 (rd x6_2 ((rd_T99 l0 (rd l1 x41_3)).f2)), .int .i64 (-1)]) ?_ 3 _ rfl; (with_reducible repeat first | apply bN | apply bD | apply bA); exact BK159.out))⟩; have n5_ : Aside0 (Below w.heap.size w w58) := ⟨(by rw [hw]; exact lB)⟩; clear hw; clear HO_6; clear HO_9; clear HO158; clear BK152; clear BK159; clear HB; have HO_6 := n0_; have HO_9 := n1_; have HO158 := n2_; have BK152 := n3_; have BK159 := n4_; have HB := n5_; clear n0_ n1_ n2_ n3_ n4_ n5_; obtain ⟨hcz59_0, hfz59_0, hcz59_1, hfz59_1, hcz59_2, hfz59_2, hcz59_3, hfz59_3⟩ := bk4 BK159.out) | ((with_reducible refine gate_builtin (b := .append) (xs := #[.tmp 74, .tmp 76]) rfl ?_); (try (refine gate_guard (by rfl) ?_; dsimp only)); at_builtin; refine Kd.S_append k99 (w0 := w) w.heap.size rfl (.tmp 74) (.tmp 76) 57 99 (.agg #[(.slice none 0 0), (.int .i64 0), (.int .i64 0), (.int .i64 0)]) 48 rfl Try.underlying57 info99 rfl (by decide) (by omega) u9 x9_3 (⟨y156, (rd_T99 l0 (rd l1 x41_3)).f1, rd x6_2 ((rd_T99 l0 (rd l1 x41_3)).f2), rd x6_2 ((rd_T99 l0 (rd l1 x41_3)).f3)⟩ : S99) [.slice Ao45 y156.length co45, .int .i64 ((rd_T99 l0 (rd l1 x41_3)).f1), .int .i64 (rd x6_2 ((rd_T99 l0 (rd l1 x41_3)).f2)), .int .i64 (rd x6_2 ((rd_T99 l0 (rd l1 x41_3)).f3))] (fun k_ => k_ ≠ gb152 ∧ k_ ≠ gb159) (fun k_ => some k_ = (.slice Ao45 y156.length co45 : Value).ownBlock) rfl rfl ?aP (fun k_ hk_ => ((Kd.R_mono (ok' := fun k_ => ((fun k_ => k_ ≠ gb152 ∧ k_ ≠ gb159)) k_ ∧ some k_ ≠ (u9 : Value).ownBlock) (Kd.R_types (Kd.R_types (Kd.R_apart' (HO158.out) (Kd.S_typed HO_9.out) (by decide)) BK152.out (by decide)) BK159.out (by decide)) (fun k_ hk => ⟨⟨hk.1.2, hk.2⟩, hk.1.1.2⟩))).1 k_ hk_.symm) ?aF ?aO ?aB ?aS ?aL ?_; (case aP => exact k99_mkM _ _ _ (⟨y156, (rd_T99 l0 (rd l1 x41_3)).f1, rd x6_2 ((rd_T99 l0 (rd l1 x41_3)).f2), rd x6_2 ((rd_T99 l0 (rd l1 x41_3)).f3)⟩ : S99) (Kd.R_mono (Kd.R_tight rfl (Kd.R_mono (ok' := fun k_ => ((fun k_ => k_ ≠ gb152 ∧ k_ ≠ gb159)) k_ ∧ some k_ ≠ (u9 : Value).ownBlock) (Kd.R_types (Kd.R_types (Kd.R_apart' (HO158.out) (Kd.S_typed HO_9.out) (by decide)) BK152.out (by decide)) BK159.out (by decide)) (fun k_ hk => ⟨⟨hk.1.2, hk.2⟩, hk.1.1.2⟩))) (fun _ h_ => h_))); (case aB => exact lB); (case aF => exact (fun k_ hk => ⟨Kd.freshB (lK BK152.out) k_ hk, Kd.freshB (lK BK159.out) k_ hk⟩)); (case aO => exact (by (with_reducible repeat (first | apply Kd.S_alloc | apply Kd.S_drewN | apply Kd.S_drew)); exact Kd.S_mono HO_9.out (fun k_ hk => ⟨⟨hk.2.1, hk.2.2⟩, fun e_ => hk.1 e_⟩))); (case aS => exact (below_size lB)); (case aL => have := LMc34.out; omega); intro v163 w60 ho hb hg hat; rw [← Ny162.out] at ho; have n0_ := Aside0.mk (Kd.R_over' (lR HO_6.out) (Kd.S_typed (lS HO_9.out)) (by decide) hg); have n1_ := Aside0.mk (blk_grown (lK BK152.out) hg (Kd.S_away HO_9.out (fun _ hk => hk.2.1))); have n2_ := Aside0.mk (blk_grown (lK BK159.out) hg (Kd.S_away HO_9.out (fun _ hk => hk.2.2))); have n3_ := Aside0.mk (hb); have n4_ := Aside0.mk (ho); clear HO_6; clear BK152; clear BK159; clear HB; clear HO_9; clear HO158; have HO_6 := n0_; have BK152 := n1_; have BK159 := n2_; have HB := n3_; have HO164 := n4_; clear n0_ n1_ n2_ n3_ n4_; clear ho hb hg hat))
                        go_roundg k3
                        case measure => have := HJ2.out; have := HK2.out; have := HK3.out; omega
                        case rel => exact ⟨(y162), (wrap64 (x41_3 + 1)), lF, H', ⟨by have := HJ2.out; have := HK2.out; have := HK3.out; omega⟩, ⟨lR HO_6.out⟩, ⟨by (with_reducible repeat (first | apply Kd.S_alloc | apply Kd.S_drewN | apply Kd.S_drew)); exact Kd.S_mono HO164.out (fun _ hk => trivial)⟩, ⟨lB⟩⟩
                       ·rw [if_neg c34] at H
                        exact absurd H (by simp)
                      ·rw [if_neg c33] at H
                       exact absurd H (by simp)
                     ·rw [if_neg c32] at H
                      exact absurd H (by simp)
                    ·rw [if_neg c31] at H
                     have c31b0 : decide (0 ≤ ((rd_T99 l0 (rd l1 x41_3)).f3)) = false := decide_eq_false c31
                     clear c31
                     by_cases c61 : x9_3.length < 2932031007402
                     ·rw [if_pos c61] at H
                      have LMc61 := Aside0.mk c61
                      clear c61
                      obtain ⟨y165, hy165⟩ : ∃ y_ : List (S99), y_ = (x9_3 ++ [(⟨y156, (rd_T99 l0 (rd l1 x41_3)).f1, rd x6_2 ((rd_T99 l0 (rd l1 x41_3)).f2), (-1)⟩ : S99)]) := ⟨_, rfl⟩
                      replace H : (spec_LayFlow.l1 k3 l0 x6_2 y165 l1 (l1.length : Int) (wrap64 (x41_3 + 1))) = some (r1, r2) := by first | (rw [hy165]; with_reducible exact H) | (have H2_ := (Option.bind_some _ _).symm.trans H; rw [hy165]; with_reducible exact H2_) | (have H2_ := (Option.bind_some _ _).symm.trans H; with_reducible exact H2_) | with_reducible exact H | (rw [hy165]; exact H) | exact H
                      have Ny165 := Aside0.mk hy165
                      clear hy165
                      have H' := Aside0.mk H
                      clear H
                      have p150 : 0 ≤ (x41_3 : Int) := lD
                      have q150 : x41_3 < (l1.length : Int) := lD
                      obtain ⟨ad150, e150, hx150_0⟩ := Kd.at_int HR1.out x41_3 p150 q150
                      cases e150
                      replace hx150_0 := pw_cell_below HB.out hx150_0
                      replace p150 := eq_true p150
                      replace q150 := eq_true q150
                      have p151 : 0 ≤ ((rd l1 x41_3) : Int) := lD
                      have q151 : (rd l1 x41_3) < (l0.length : Int) := lD
                      obtain ⟨ad151, A151_0, c151_0, e151, hx151_0, hx151_1, hx151_2, hx151_3, hl151_0, hi151_0⟩ := at_T99 HR0.out (rd l1 x41_3) p151 q151
                      cases e151
                      replace hx151_0 := pw_cell_below HB.out hx151_0
                      replace hx151_1 := pw_cell_below HB.out hx151_1
                      replace hx151_2 := pw_cell_below HB.out hx151_2
                      replace hx151_3 := pw_cell_below HB.out hx151_3
                      have HR151_0 := Aside0.mk hi151_0
                      have HC151_0 := Aside0.mk hl151_0
                      clear hi151_0 hl151_0
                      replace p151 := eq_true p151
                      replace q151 := eq_true q151
                      try go_wp2_with (first | ((with_reducible refine gate_dst (N := 12) rfl ?_); (try (refine gate_guard (by rfl) ?_; dsimp only)); refine bxe 12 #[.slice none 0 0, .int .i64 0, .int .i64 0, .int .i64 0] 99 ?_; intro gb152 hg w62 hbox hb; have n0_ := Aside0.mk (Kd.R_below (lR HO_6.out) hb); have n1_ := Aside0.mk (Kd.S_below (Kd.S_elderB (lS HO_9.out) gb152 (Nat.le_of_eq hg.symm)) hb); have n2_ := Aside0.mk (below_step lB hb); have n3_ := Aside0.mk (hbox); have n4_ := lG w hg; have n5_ := lG w hg; clear HO_6; clear HO_9; clear HB; have HO_6 := n0_; have HO_9 := n1_; have HB := n2_; have BK152 := n3_; have GW152 := n4_; have GE152 := n5_; clear n0_ n1_ n2_ n3_ n4_ n5_; clear hb hbox hg; obtain ⟨hcz63_0, hfz63_0, hcz63_1, hfz63_1, hcz63_2, hfz63_2, hcz63_3, hfz63_3⟩ := bk4 BK152.out))
                      have n0_ : Aside0 (Kd.R (Kd.int .i64) 3 ((((w62.setCell ⟨gb152, 0, none⟩ (.slice A151_0 ((rd_T99 l0 (rd l1 x41_3)).f0).length c151_0)).setCell ⟨gb152, 1, none⟩ (.int .i64 ((rd_T99 l0 (rd l1 x41_3)).f1))).setCell ⟨gb152, 2, none⟩ (.int .i64 ((rd_T99 l0 (rd l1 x41_3)).f2))).setCell ⟨gb152, 3, none⟩ (.int .i64 ((rd_T99 l0 (rd l1 x41_3)).f3))) w.heap.size (fun _ => True) v146 x6_2) := ⟨by (with_reducible repeat (first | apply Kd.R_alloc | apply Kd.R_drewN | apply Kd.R_drew)); exact Kd.R_mono (Kd.R_far (p := ⟨gb152, 3, none⟩) (Kd.R_far (p := ⟨gb152, 2, none⟩) (Kd.R_far (p := ⟨gb152, 1, none⟩) (Kd.R_far (p := ⟨gb152, 0, none⟩) (Kd.R_types HO_6.out BK152.out (by decide)) (fun _ hk => hk.2) (.slice A151_0 ((rd_T99 l0 (rd l1 x41_3)).f0).length c151_0)) (fun _ hk => hk.2) (.int .i64 ((rd_T99 l0 (rd l1 x41_3)).f1))) (fun _ hk => hk.2) (.int .i64 ((rd_T99 l0 (rd l1 x41_3)).f2))) (fun _ hk => hk.2) (.int .i64 ((rd_T99 l0 (rd l1 x41_3)).f3))) (fun _ hk => trivial)⟩
                      have n1_ : Aside0 (Kd.S k99 99 ((((w62.setCell ⟨gb152, 0, none⟩ (.slice A151_0 ((rd_T99 l0 (rd l1 x41_3)).f0).length c151_0)).setCell ⟨gb152, 1, none⟩ (.int .i64 ((rd_T99 l0 (rd l1 x41_3)).f1))).setCell ⟨gb152, 2, none⟩ (.int .i64 ((rd_T99 l0 (rd l1 x41_3)).f2))).setCell ⟨gb152, 3, none⟩ (.int .i64 ((rd_T99 l0 (rd l1 x41_3)).f3))) w.heap.size (fun k_ => k_ ≠ gb152) u9 x9_3) := ⟨by (with_reducible repeat (first | apply Kd.S_alloc | apply Kd.S_drewN | apply Kd.S_drew)); exact Kd.S_mono (Kd.S_far (p := ⟨gb152, 3, none⟩) (Kd.S_far (p := ⟨gb152, 2, none⟩) (Kd.S_far (p := ⟨gb152, 1, none⟩) (Kd.S_far (p := ⟨gb152, 0, none⟩) (Kd.S_mono HO_9.out (fun k_ hk => (⟨hk, hk.2⟩ : _ ∧ k_ ≠ gb152))) (fun _ hk => hk.2) (.slice A151_0 ((rd_T99 l0 (rd l1 x41_3)).f0).length c151_0)) (fun _ hk => hk.2) (.int .i64 ((rd_T99 l0 (rd l1 x41_3)).f1))) (fun _ hk => hk.2) (.int .i64 ((rd_T99 l0 (rd l1 x41_3)).f2))) (fun _ hk => hk.2) (.int .i64 ((rd_T99 l0 (rd l1 x41_3)).f3))) (fun _ hk => hk.1.2)⟩
                      have n2_ : Aside0 (((((w62.setCell ⟨gb152, 0, none⟩ (.slice A151_0 ((rd_T99 l0 (rd l1 x41_3)).f0).length c151_0)).setCell ⟨gb152, 1, none⟩ (.int .i64 ((rd_T99 l0 (rd l1 x41_3)).f1))).setCell ⟨gb152, 2, none⟩ (.int .i64 ((rd_T99 l0 (rd l1 x41_3)).f2))).setCell ⟨gb152, 3, none⟩ (.int .i64 ((rd_T99 l0 (rd l1 x41_3)).f3))).heap[gb152]? = some (.cells #[.slice A151_0 ((rd_T99 l0 (rd l1 x41_3)).f0).length c151_0, .int .i64 ((rd_T99 l0 (rd l1 x41_3)).f1), .int .i64 ((rd_T99 l0 (rd l1 x41_3)).f2), .int .i64 ((rd_T99 l0 (rd l1 x41_3)).f3)] 99 (0, 0))) := ⟨by (with_reducible repeat first | apply bN | apply bD | apply bA); refine blk_put (cs := #[.slice A151_0 ((rd_T99 l0 (rd l1 x41_3)).f0).length c151_0, .int .i64 ((rd_T99 l0 (rd l1 x41_3)).f1), .int .i64 ((rd_T99 l0 (rd l1 x41_3)).f2), .int .i64 0]) ?_ 3 _ rfl; (with_reducible repeat first | apply bN | apply bD | apply bA); refine blk_put (cs := #[.slice A151_0 ((rd_T99 l0 (rd l1 x41_3)).f0).length c151_0, .int .i64 ((rd_T99 l0 (rd l1 x41_3)).f1), .int .i64 0, .int .i64 0]) ?_ 2 _ rfl; (with_reducible repeat first | apply bN | apply bD | apply bA); refine blk_put (cs := #[.slice A151_0 ((rd_T99 l0 (rd l1 x41_3)).f0).length c151_0, .int .i64 0, .int .i64 0, .int .i64 0]) ?_ 1 _ rfl; (with_reducible repeat first | apply bN | apply bD | apply bA); refine blk_put (cs := #[.slice none 0 0, .int .i64 0, .int .i64 0, .int .i64 0]) ?_ 0 _ rfl; (with_reducible repeat first | apply bN | apply bD | apply bA); exact BK152.out⟩
                      have n3_ : Aside0 (Below w.heap.size w ((((w62.setCell ⟨gb152, 0, none⟩ (.slice A151_0 ((rd_T99 l0 (rd l1 x41_3)).f0).length c151_0)).setCell ⟨gb152, 1, none⟩ (.int .i64 ((rd_T99 l0 (rd l1 x41_3)).f1))).setCell ⟨gb152, 2, none⟩ (.int .i64 ((rd_T99 l0 (rd l1 x41_3)).f2))).setCell ⟨gb152, 3, none⟩ (.int .i64 ((rd_T99 l0 (rd l1 x41_3)).f3)))) := ⟨lB⟩
                      (try clear HO_6)
                      (try clear HO_9)
                      (try clear BK152)
                      (try clear HB)
                      generalize ((((w62.setCell ⟨gb152, 0, none⟩ (.slice A151_0 ((rd_T99 l0 (rd l1 x41_3)).f0).length c151_0)).setCell ⟨gb152, 1, none⟩ (.int .i64 ((rd_T99 l0 (rd l1 x41_3)).f1))).setCell ⟨gb152, 2, none⟩ (.int .i64 ((rd_T99 l0 (rd l1 x41_3)).f2))).setCell ⟨gb152, 3, none⟩ (.int .i64 ((rd_T99 l0 (rd l1 x41_3)).f3))) = w64 at n0_ n1_ n2_ n3_ ⊢
                      have HO_6 := n0_
                      have HO_9 := n1_
                      have BK152 := n2_
                      have HB := n3_
                      clear n0_ n1_ n2_ n3_
                      have n0_ := Aside0.mk (Kd.R_drew HO_6.out)
                      have n1_ := Aside0.mk (Kd.S_drew HO_9.out)
                      have n2_ := Aside0.mk (blk_drew BK152.out)
                      have n3_ := Aside0.mk (below_drew1 HB.out)
                      clear HO_6
                      clear HO_9
                      clear BK152
                      clear HB
                      have HO_6 := n0_
                      have HO_9 := n1_
                      have BK152 := n2_
                      have HB := n3_
                      clear n0_ n1_ n2_ n3_
                      refine start_ (n := 9) (S := fun w' => w'.cell? ⟨gb152, 0, none⟩ = some (.slice A151_0 ((rd_T99 l0 (rd l1 x41_3)).f0).length c151_0) ∧ w'.cell? ⟨gb152, 1, none⟩ = some (.int .i64 ((rd_T99 l0 (rd l1 x41_3)).f1)) ∧ w'.cell? ⟨gb152, 2, none⟩ = some (.int .i64 ((rd_T99 l0 (rd l1 x41_3)).f2)) ∧ w'.cell? ⟨gb152, 3, none⟩ = some (.int .i64 ((rd_T99 l0 (rd l1 x41_3)).f3))) (ds := []) (bs 9 0) kR rfl kR ⟨bZ BK152.out 0, bZ BK152.out 1, bZ BK152.out 2, bZ BK152.out 3⟩ (fun hHeld => ?_); refine with_tabW spec_LayFlow.tab14 spec_LayFlow.bits14 (fun HT_ HW_ => ?_)
                      generalize w64.drew = w65 at HO_6 HO_9 BK152 HB hHeld ⊢
                      refine pur_ 1 50 (bs 9 2) (any_of HT_.out kR) ?_
                      refine pur_ 4 53 (bs 9 18) (any_of HT_.out kR) ?_
                      refine tak_ 2 51 (bs 9 22) (take_ofW HT_.out HW_.out kR) hHeld ?_
                      refine tak_ 5 54 (bs 9 54) (take_ofW HT_.out HW_.out kR) hHeld ?_
                      refine join_ (σ := Value × Value × Nat) 1 #[true, true, true, true, true, true, true, true, false] (fun s_ => [(49, s_.1), (52, s_.2.1), (13, .pointer (some ⟨s_.2.2, 0, none⟩)), (55, .agg #[s_.2.1, .int .i64 ((rd_T99 l0 (rd l1 x41_3)).f1), .int .i64 (-1), .int .i64 (-1)])]) (fun s_ w' => (w'.cell? ⟨gb152, 0, none⟩ = some (.slice A151_0 ((rd_T99 l0 (rd l1 x41_3)).f0).length c151_0) ∧ w'.cell? ⟨gb152, 1, none⟩ = some (.int .i64 ((rd_T99 l0 (rd l1 x41_3)).f1)) ∧ w'.cell? ⟨gb152, 2, none⟩ = some (.int .i64 ((rd_T99 l0 (rd l1 x41_3)).f2)) ∧ w'.cell? ⟨gb152, 3, none⟩ = some (.int .i64 ((rd_T99 l0 (rd l1 x41_3)).f3))) ∧ (Kd.R k130 130 w' w.heap.size (fun _ => True) s_.2.1 y156) ∧ (Kd.R (Kd.int .i64) 3 w' w.heap.size (fun _ => True) v146 x6_2) ∧ (Kd.S k99 99 w' w.heap.size (fun k_ => some k_ ≠ (s_.2.1 : Value).ownBlock ∧ k_ ≠ gb152 ∧ k_ ≠ s_.2.2) u9 x9_3) ∧ (w'.heap[gb152]? = some (.cells #[.slice A151_0 ((rd_T99 l0 (rd l1 x41_3)).f0).length c151_0, .int .i64 ((rd_T99 l0 (rd l1 x41_3)).f1), .int .i64 ((rd_T99 l0 (rd l1 x41_3)).f2), .int .i64 ((rd_T99 l0 (rd l1 x41_3)).f3)] 99 (0, 0))) ∧ (w'.heap[s_.2.2]? = some (.cells #[.slice none 0 0, .int .i64 0, .int .i64 0, .int .i64 0] 99 (0, 0))) ∧ (w.heap.size ≤ s_.2.2) ∧ (w.heap.size ≤ s_.2.2) ∧ (gb152 ≠ s_.2.2) ∧ (s_.2.2 ≠ gb152) ∧ (Below w.heap.size w w')) ?_ ?_
                      rotate_left
                      ·intro hCont
                       refine two_ (i := 0) (j := 7) (Ni := some 49) (Nj := some 13) (bs 9 55) (bs 9 182) rfl rfl rfl rfl (two_of HT_.out (by kernel_rfl)) (by decide) (by decide) (fun K hK => ?_) (fun K hK => ?_)
                       ·skip
                        refine Kd.R_lit_step k130 _ 130 ?hg (N := 49) ?hd (xs := ([] : List (S130))) (inner := []) (ok := fun _ => True) (okp := fun _ => True) ?hr ?hp (fun _ hk => hk) trivial (Below.refl _ _) (Nat.le_refl _) (by simp) ?_; (case hd => rfl); (case hg => rfl); (case hr => first | (go_simp; done) | (go_simp; rfl)); (case hp => exact (Reps.none _ _))
                        intro v154 w66 ho67 hb hg_ hnew_
                        clear hg_ hnew_
                        (first | rw [← Ny153.out] at ho67 | (simp only [Int.reduceToNat] at ho67; rw [← Ny153.out] at ho67))
                        have n0_ := Aside0.mk (Kd.R_below (lR HO_6.out) hb)
                        have n1_ := Aside0.mk (Kd.S_elder' (lS HO_9.out) (Kd.R_base ho67) hb)
                        have n2_ := Aside0.mk (Kd.R_lower ho67 (below_size lB))
                        have n3_ := Aside0.mk (blk_below (lK BK152.out) hb)
                        have n4_ := Aside0.mk (below_step lB hb)
                        clear HO_6
                        clear HO_9
                        clear BK152
                        clear HB
                        have HO_6 := n0_
                        have HO_9 := n1_
                        have HO155 := n2_
                        have BK152 := n3_
                        have HB := n4_
                        clear n0_ n1_ n2_ n3_ n4_
                        clear hb ho67
                        refine hK.out _ _ ⟨bZ BK152.out 0, bZ BK152.out 1, bZ BK152.out 2, bZ BK152.out 3⟩ (fun hHeld => ?_)
                        clear hK K
                        refine norm_ (a' := ?_) ?_ ?_
                        rotate_left
                        ·show Act.put _ (some 49) _ = _
                         simp only [Act.put, List.setIfInBounds_toArray, List.set_cons_zero, List.set_cons_succ, i64_w, i32_w]
                         rfl
                        refine two_ (i := 3) (j := 7) (Ni := some 52) (Nj := some 13) (bs 9 63) (bs 9 183) rfl rfl rfl rfl (two_of HT_.out (by kernel_rfl)) (by decide) (by decide) (fun K hK => ?_) (fun K hK => ?_)
                        ·skip
                         refine Kd.R_append_rows_step k130 (w0 := w) w.heap.size (by rfl) (.tmp 49) (.tmp 51) 97 130 (.agg #[(.int .i64 0), (.int .i64 0), (.int .i64 0), (.int .i64 0), (.int .i64 0)]) 40 rfl Try.underlying97 info130 rfl (by decide) (by omega) v154 y153 ((rd_T99 l0 (rd l1 x41_3)).f0) _ _ _ (fun _ => True) (fun _ => False) rfl rfl ?aO ?aR (fun _ _ h => h) (fun _ h => h.elim) ?aF ?aB ?aS ?aL ?_
                         (case aR => exact lC (Kd.C_below HR151_0.out HB.out))
                         (case aB => exact lB)
                         (case aF => exact (fun _ _ => trivial))
                         (case aO => exact (lR HO155.out))
                         (case aS => exact (below_size lB))
                         (case aL => have := LMc27.out; omega)
                         intro v157 w68 ho hb hg hat
                         rw [← Ny156.out] at ho
                         have n0_ := Aside0.mk (Kd.R_over' (lR HO_6.out) (Kd.R_typed (lR HO155.out)) (by decide) hg)
                         have n1_ := Aside0.mk (Kd.S_after (ok := (fun k_ => k_ ≠ gb152)) (lS HO_9.out) hg hat)
                         have n2_ := Aside0.mk (blk_grown (lK BK152.out) hg (Kd.R_ne HO155.out BK152.out (by decide)))
                         have n3_ := Aside0.mk (hb)
                         have n4_ := Aside0.mk (ho)
                         clear HO_6
                         clear HO_9
                         clear BK152
                         clear HB
                         clear HO155
                         have HO_6 := n0_
                         have HO_9 := n1_
                         have BK152 := n2_
                         have HB := n3_
                         have HO158 := n4_
                         clear n0_ n1_ n2_ n3_ n4_
                         clear ho hb hg hat
                         obtain ⟨Ao69, co69, eo69⟩ := Kd.R_slice HO158.out
                         (first | subst eo69 | (injection eo69 with f1_ f2_ f3_; have f4_ := f1_.symm; have f5_ := f3_.symm; clear f1_ f2_ f3_; subst f4_; subst f5_))
                         refine hK.out _ _ ⟨bZ BK152.out 0, bZ BK152.out 1, bZ BK152.out 2, bZ BK152.out 3⟩ (fun hHeld => ?_)
                         clear hK K
                         refine norm_ (a' := ?_) ?_ ?_
                         rotate_left
                         ·show Act.put _ (some 52) _ = _
                          simp only [Act.put, List.setIfInBounds_toArray, List.set_cons_zero, List.set_cons_succ, i64_w, i32_w]
                          rfl
                         refine pur_ 6 55 (bs 9 127) (any_of HT_.out kR) ?_
                         refine one_ (i := 7) (N := some 13) (bs 9 255) rfl rfl (one_of HT_.out (by kernel_rfl)) (by decide) (fun K hK => ?_)
                         refine box_step ?hg (N := 13) ?hd (cs := #[.slice none 0 0, .int .i64 0, .int .i64 0, .int .i64 0]) (t := 99) ?hr ?_; (case hd => rfl); (case hg => rfl); (case hr => first | (go_simp; done) | (go_simp; rfl))
                         intro gb159 hg w70 hbox hb
                         have n0_ := Aside0.mk (Kd.R_below (lR HO_6.out) hb)
                         have n1_ := Aside0.mk (Kd.S_below (Kd.S_elderB (lS HO_9.out) gb159 (Nat.le_of_eq hg.symm)) hb)
                         have n2_ := Aside0.mk (Kd.R_below (lR HO158.out) hb)
                         have n3_ := Aside0.mk (blk_below (lK BK152.out) hb)
                         have n4_ := Aside0.mk (below_step lB hb)
                         have n5_ := Aside0.mk (hbox)
                         have n6_ := lG w hg
                         have n7_ := lG w hg
                         have n8_ := Aside0.mk ((by rw [hg]; exact Nat.ne_of_lt (blk_lt (lK BK152.out)) : gb152 ≠ gb159))
                         have n9_ := Aside0.mk ((by rw [hg]; exact Nat.ne_of_gt (blk_lt (lK BK152.out)) : gb159 ≠ gb152))
                         clear HO_6
                         clear HO_9
                         clear HO158
                         clear BK152
                         clear HB
                         have HO_6 := n0_
                         have HO_9 := n1_
                         have HO158 := n2_
                         have BK152 := n3_
                         have HB := n4_
                         have BK159 := n5_
                         have GW159 := n6_
                         have GE159 := n7_
                         have NB152_159 := n8_
                         have NB159_152 := n9_
                         clear n0_ n1_ n2_ n3_ n4_ n5_ n6_ n7_ n8_ n9_
                         clear hb hbox hg
                         refine hK.out _ _ ⟨bZ BK152.out 0, bZ BK152.out 1, bZ BK152.out 2, bZ BK152.out 3⟩ (fun hHeld => ?_)
                         clear hK K
                         refine norm_ (a' := ?_) ?_ ?_
                         rotate_left
                         ·show Act.put _ (some 13) _ = _
                          simp only [Act.put, List.setIfInBounds_toArray, List.set_cons_zero, List.set_cons_succ, i64_w, i32_w]
                          rfl
                         exact norm_ (by simp only [putAll, Act.put, List.setIfInBounds_toArray, List.set_cons_zero, List.set_cons_succ]) (hCont (v154, .slice Ao69 y156.length co69, gb159) _ ⟨hHeld, (lR HO158.out), (lR HO_6.out), (by (with_reducible repeat (first | apply Kd.S_alloc | apply Kd.S_drewN | apply Kd.S_drew)); exact Kd.S_mono HO_9.out (fun _ hk => ⟨hk.1.2, ⟨hk.1.1, hk.2⟩⟩)), (lK BK152.out), (lK BK159.out), GW159.out, GE159.out, NB152_159.out, NB159_152.out, lB⟩)
                        ·skip
                         refine box_step ?hg (N := 13) ?hd (cs := #[.slice none 0 0, .int .i64 0, .int .i64 0, .int .i64 0]) (t := 99) ?hr ?_; (case hd => rfl); (case hg => rfl); (case hr => first | (go_simp; done) | (go_simp; rfl))
                         intro gb159 hg w68 hbox hb
                         have n0_ := Aside0.mk (Kd.R_below (lR HO_6.out) hb)
                         have n1_ := Aside0.mk (Kd.S_below (Kd.S_elderB (lS HO_9.out) gb159 (Nat.le_of_eq hg.symm)) hb)
                         have n2_ := Aside0.mk (Kd.R_below (lR HO155.out) hb)
                         have n3_ := Aside0.mk (blk_below (lK BK152.out) hb)
                         have n4_ := Aside0.mk (below_step lB hb)
                         have n5_ := Aside0.mk (hbox)
                         have n6_ := lG w hg
                         have n7_ := lG w hg
                         have n8_ := Aside0.mk ((by rw [hg]; exact Nat.ne_of_lt (blk_lt (lK BK152.out)) : gb152 ≠ gb159))
                         have n9_ := Aside0.mk ((by rw [hg]; exact Nat.ne_of_gt (blk_lt (lK BK152.out)) : gb159 ≠ gb152))
                         clear HO_6
                         clear HO_9
                         clear HO155
                         clear BK152
                         clear HB
                         have HO_6 := n0_
                         have HO_9 := n1_
                         have HO155 := n2_
                         have BK152 := n3_
                         have HB := n4_
                         have BK159 := n5_
                         have GW159 := n6_
                         have GE159 := n7_
                         have NB152_159 := n8_
                         have NB159_152 := n9_
                         clear n0_ n1_ n2_ n3_ n4_ n5_ n6_ n7_ n8_ n9_
                         clear hb hbox hg
                         refine hK.out _ _ ⟨bZ BK152.out 0, bZ BK152.out 1, bZ BK152.out 2, bZ BK152.out 3⟩ (fun hHeld => ?_)
                         clear hK K
                         refine norm_ (a' := ?_) ?_ ?_
                         rotate_left
                         ·show Act.put _ (some 13) _ = _
                          simp only [Act.put, List.setIfInBounds_toArray, List.set_cons_zero, List.set_cons_succ, i64_w, i32_w]
                          rfl
                         refine one_ (i := 3) (N := some 52) (bs 9 191) rfl rfl (one_of HT_.out (by kernel_rfl)) (by decide) (fun K hK => ?_)
                         refine Kd.R_append_rows_step k130 (w0 := w) w.heap.size (by rfl) (.tmp 49) (.tmp 51) 97 130 (.agg #[(.int .i64 0), (.int .i64 0), (.int .i64 0), (.int .i64 0), (.int .i64 0)]) 40 rfl Try.underlying97 info130 rfl (by decide) (by omega) v154 y153 ((rd_T99 l0 (rd l1 x41_3)).f0) _ _ _ (fun _ => True) (fun _ => False) rfl rfl ?aO ?aR (fun _ _ h => h) (fun _ h => h.elim) ?aF ?aB ?aS ?aL ?_
                         (case aR => exact lC (Kd.C_below HR151_0.out HB.out))
                         (case aB => exact lB)
                         (case aF => exact (fun _ _ => trivial))
                         (case aO => exact (lR HO155.out))
                         (case aS => exact (below_size lB))
                         (case aL => have := LMc27.out; omega)
                         intro v157 w69 ho hb hg hat
                         rw [← Ny156.out] at ho
                         have n0_ := Aside0.mk (Kd.R_over' (lR HO_6.out) (Kd.R_typed (lR HO155.out)) (by decide) hg)
                         have n1_ := Aside0.mk (Kd.S_after (ok := (fun k_ => k_ ≠ gb152 ∧ k_ ≠ gb159)) (by (with_reducible repeat (first | apply Kd.S_alloc | apply Kd.S_drewN | apply Kd.S_drew)); exact Kd.S_mono HO_9.out (fun _ hk => ⟨⟨hk.1.1, hk.2⟩, hk.1.2⟩)) hg hat)
                         have n2_ := Aside0.mk (blk_grown (lK BK152.out) hg (Kd.R_ne HO155.out BK152.out (by decide)))
                         have n3_ := Aside0.mk (blk_grown (lK BK159.out) hg (Kd.R_ne HO155.out BK159.out (by decide)))
                         have n4_ := Aside0.mk (hb)
                         have n5_ := Aside0.mk (ho)
                         clear HO_6
                         clear HO_9
                         clear BK152
                         clear BK159
                         clear HB
                         clear HO155
                         have HO_6 := n0_
                         have HO_9 := n1_
                         have BK152 := n2_
                         have BK159 := n3_
                         have HB := n4_
                         have HO158 := n5_
                         clear n0_ n1_ n2_ n3_ n4_ n5_
                         clear ho hb hg hat
                         obtain ⟨Ao70, co70, eo70⟩ := Kd.R_slice HO158.out
                         (first | subst eo70 | (injection eo70 with f1_ f2_ f3_; have f4_ := f1_.symm; have f5_ := f3_.symm; clear f1_ f2_ f3_; subst f4_; subst f5_))
                         refine hK.out _ _ ⟨bZ BK152.out 0, bZ BK152.out 1, bZ BK152.out 2, bZ BK152.out 3⟩ (fun hHeld => ?_)
                         clear hK K
                         refine norm_ (a' := ?_) ?_ ?_
                         rotate_left
                         ·show Act.put _ (some 52) _ = _
                          simp only [Act.put, List.setIfInBounds_toArray, List.set_cons_zero, List.set_cons_succ, i64_w, i32_w]
                          rfl
                         refine pur_ 6 55 (bs 9 255) (any_of HT_.out kR) ?_
                         exact norm_ (by simp only [putAll, Act.put, List.setIfInBounds_toArray, List.set_cons_zero, List.set_cons_succ]) (hCont (v154, .slice Ao70 y156.length co70, gb159) _ ⟨hHeld, (lR HO158.out), (lR HO_6.out), (by (with_reducible repeat (first | apply Kd.S_alloc | apply Kd.S_drewN | apply Kd.S_drew)); exact Kd.S_mono HO_9.out (fun _ hk => ⟨hk.2, ⟨hk.1.1, hk.1.2⟩⟩)), (lK BK152.out), (lK BK159.out), GW159.out, GE159.out, NB152_159.out, NB159_152.out, lB⟩)
                       ·skip
                        refine box_step ?hg (N := 13) ?hd (cs := #[.slice none 0 0, .int .i64 0, .int .i64 0, .int .i64 0]) (t := 99) ?hr ?_; (case hd => rfl); (case hg => rfl); (case hr => first | (go_simp; done) | (go_simp; rfl))
                        intro gb159 hg w66 hbox hb
                        have n0_ := Aside0.mk (Kd.R_below (lR HO_6.out) hb)
                        have n1_ := Aside0.mk (Kd.S_below (Kd.S_elderB (lS HO_9.out) gb159 (Nat.le_of_eq hg.symm)) hb)
                        have n2_ := Aside0.mk (blk_below (lK BK152.out) hb)
                        have n3_ := Aside0.mk (below_step lB hb)
                        have n4_ := Aside0.mk (hbox)
                        have n5_ := lG w hg
                        have n6_ := lG w hg
                        have n7_ := Aside0.mk ((by rw [hg]; exact Nat.ne_of_lt (blk_lt (lK BK152.out)) : gb152 ≠ gb159))
                        have n8_ := Aside0.mk ((by rw [hg]; exact Nat.ne_of_gt (blk_lt (lK BK152.out)) : gb159 ≠ gb152))
                        clear HO_6
                        clear HO_9
                        clear BK152
                        clear HB
                        have HO_6 := n0_
                        have HO_9 := n1_
                        have BK152 := n2_
                        have HB := n3_
                        have BK159 := n4_
                        have GW159 := n5_
                        have GE159 := n6_
                        have NB152_159 := n7_
                        have NB159_152 := n8_
                        clear n0_ n1_ n2_ n3_ n4_ n5_ n6_ n7_ n8_
                        clear hb hbox hg
                        refine hK.out _ _ ⟨bZ BK152.out 0, bZ BK152.out 1, bZ BK152.out 2, bZ BK152.out 3⟩ (fun hHeld => ?_)
                        clear hK K
                        refine norm_ (a' := ?_) ?_ ?_
                        rotate_left
                        ·show Act.put _ (some 13) _ = _
                         simp only [Act.put, List.setIfInBounds_toArray, List.set_cons_zero, List.set_cons_succ, i64_w, i32_w]
                         rfl
                        refine one_ (i := 0) (N := some 49) (bs 9 183) rfl rfl (one_of HT_.out (by kernel_rfl)) (by decide) (fun K hK => ?_)
                        refine Kd.R_lit_step k130 _ 130 ?hg (N := 49) ?hd (xs := ([] : List (S130))) (inner := []) (ok := fun _ => True) (okp := fun _ => True) ?hr ?hp (fun _ hk => hk) trivial (Below.refl _ _) (Nat.le_refl _) (by simp) ?_; (case hd => rfl); (case hg => rfl); (case hr => first | (go_simp; done) | (go_simp; rfl)); (case hp => exact (Reps.none _ _))
                        intro v154 w67 ho68 hb hg_ hnew_
                        clear hg_ hnew_
                        (first | rw [← Ny153.out] at ho68 | (simp only [Int.reduceToNat] at ho68; rw [← Ny153.out] at ho68))
                        have n0_ := Aside0.mk (Kd.R_below (lR HO_6.out) hb)
                        have n1_ := Aside0.mk (Kd.S_elder' (lS HO_9.out) (Kd.R_base ho68) hb)
                        have n2_ := Aside0.mk (Kd.R_lower ho68 (below_size lB))
                        have n3_ := Aside0.mk (blk_below (lK BK152.out) hb)
                        have n4_ := Aside0.mk (blk_below (lK BK159.out) hb)
                        have n5_ := Aside0.mk (below_step lB hb)
                        clear HO_6
                        clear HO_9
                        clear BK152
                        clear BK159
                        clear HB
                        have HO_6 := n0_
                        have HO_9 := n1_
                        have HO155 := n2_
                        have BK152 := n3_
                        have BK159 := n4_
                        have HB := n5_
                        clear n0_ n1_ n2_ n3_ n4_ n5_
                        clear hb ho68
                        refine hK.out _ _ ⟨bZ BK152.out 0, bZ BK152.out 1, bZ BK152.out 2, bZ BK152.out 3⟩ (fun hHeld => ?_)
                        clear hK K
                        refine norm_ (a' := ?_) ?_ ?_
                        rotate_left
                        ·show Act.put _ (some 49) _ = _
                         simp only [Act.put, List.setIfInBounds_toArray, List.set_cons_zero, List.set_cons_succ, i64_w, i32_w]
                         rfl
                        refine one_ (i := 3) (N := some 52) (bs 9 191) rfl rfl (one_of HT_.out (by kernel_rfl)) (by decide) (fun K hK => ?_)
                        refine Kd.R_append_rows_step k130 (w0 := w) w.heap.size (by rfl) (.tmp 49) (.tmp 51) 97 130 (.agg #[(.int .i64 0), (.int .i64 0), (.int .i64 0), (.int .i64 0), (.int .i64 0)]) 40 rfl Try.underlying97 info130 rfl (by decide) (by omega) v154 y153 ((rd_T99 l0 (rd l1 x41_3)).f0) _ _ _ (fun _ => True) (fun _ => False) rfl rfl ?aO ?aR (fun _ _ h => h) (fun _ h => h.elim) ?aF ?aB ?aS ?aL ?_
                        (case aR => exact lC (Kd.C_below HR151_0.out HB.out))
                        (case aB => exact lB)
                        (case aF => exact (fun _ _ => trivial))
                        (case aO => exact (lR HO155.out))
                        (case aS => exact (below_size lB))
                        (case aL => have := LMc27.out; omega)
                        intro v157 w69 ho hb hg hat
                        rw [← Ny156.out] at ho
                        have n0_ := Aside0.mk (Kd.R_over' (lR HO_6.out) (Kd.R_typed (lR HO155.out)) (by decide) hg)
                        have n1_ := Aside0.mk (Kd.S_after (ok := (fun k_ => k_ ≠ gb152 ∧ k_ ≠ gb159)) (lS HO_9.out) hg hat)
                        have n2_ := Aside0.mk (blk_grown (lK BK152.out) hg (Kd.R_ne HO155.out BK152.out (by decide)))
                        have n3_ := Aside0.mk (blk_grown (lK BK159.out) hg (Kd.R_ne HO155.out BK159.out (by decide)))
                        have n4_ := Aside0.mk (hb)
                        have n5_ := Aside0.mk (ho)
                        clear HO_6
                        clear HO_9
                        clear BK152
                        clear BK159
                        clear HB
                        clear HO155
                        have HO_6 := n0_
                        have HO_9 := n1_
                        have BK152 := n2_
                        have BK159 := n3_
                        have HB := n4_
                        have HO158 := n5_
                        clear n0_ n1_ n2_ n3_ n4_ n5_
                        clear ho hb hg hat
                        obtain ⟨Ao70, co70, eo70⟩ := Kd.R_slice HO158.out
                        (first | subst eo70 | (injection eo70 with f1_ f2_ f3_; have f4_ := f1_.symm; have f5_ := f3_.symm; clear f1_ f2_ f3_; subst f4_; subst f5_))
                        refine hK.out _ _ ⟨bZ BK152.out 0, bZ BK152.out 1, bZ BK152.out 2, bZ BK152.out 3⟩ (fun hHeld => ?_)
                        clear hK K
                        refine norm_ (a' := ?_) ?_ ?_
                        rotate_left
                        ·show Act.put _ (some 52) _ = _
                         simp only [Act.put, List.setIfInBounds_toArray, List.set_cons_zero, List.set_cons_succ, i64_w, i32_w]
                         rfl
                        refine pur_ 6 55 (bs 9 255) (any_of HT_.out kR) ?_
                        exact norm_ (by simp only [putAll, Act.put, List.setIfInBounds_toArray, List.set_cons_zero, List.set_cons_succ]) (hCont (v154, .slice Ao70 y156.length co70, gb159) _ ⟨hHeld, (lR HO158.out), (lR HO_6.out), (by (with_reducible repeat (first | apply Kd.S_alloc | apply Kd.S_drewN | apply Kd.S_drew)); exact Kd.S_mono HO_9.out (fun _ hk => ⟨hk.2, ⟨hk.1.1, hk.1.2⟩⟩)), (lK BK152.out), (lK BK159.out), GW159.out, GE159.out, NB152_159.out, NB159_152.out, lB⟩)
                      rintro ⟨v154, v157, gb159⟩ w71 ⟨hS_, h0_, h1_, h2_, h3_, h4_, h5_, h6_, h7_, h8_, h9_⟩
                      have n0_ : Aside0 (Kd.R k130 130 w71 w.heap.size (fun _ => True) v157 y156) := ⟨h0_⟩
                      have n1_ : Aside0 (Kd.R (Kd.int .i64) 3 w71 w.heap.size (fun _ => True) v146 x6_2) := ⟨h1_⟩
                      have n2_ : Aside0 (Kd.S k99 99 w71 w.heap.size (fun k_ => some k_ ≠ (v157 : Value).ownBlock ∧ k_ ≠ gb152 ∧ k_ ≠ gb159) u9 x9_3) := ⟨h2_⟩
                      have n3_ : Aside0 (w71.heap[gb152]? = some (.cells #[.slice A151_0 ((rd_T99 l0 (rd l1 x41_3)).f0).length c151_0, .int .i64 ((rd_T99 l0 (rd l1 x41_3)).f1), .int .i64 ((rd_T99 l0 (rd l1 x41_3)).f2), .int .i64 ((rd_T99 l0 (rd l1 x41_3)).f3)] 99 (0, 0))) := ⟨h3_⟩
                      have n4_ : Aside0 (w71.heap[gb159]? = some (.cells #[.slice none 0 0, .int .i64 0, .int .i64 0, .int .i64 0] 99 (0, 0))) := ⟨h4_⟩
                      have n5_ : Aside0 (w.heap.size ≤ gb159) := ⟨h5_⟩
                      have n6_ : Aside0 (w.heap.size ≤ gb159) := ⟨h6_⟩
                      have n7_ : Aside0 (gb152 ≠ gb159) := ⟨h7_⟩
                      have n8_ : Aside0 (gb159 ≠ gb152) := ⟨h8_⟩
                      have n9_ : Aside0 (Below w.heap.size w w71) := ⟨h9_⟩
                      clear HO_6
                      clear HO_9
                      clear BK152
                      clear HB
                      clear h0_ h1_ h2_ h3_ h4_ h5_ h6_ h7_ h8_ h9_
                      have HO158 := n0_
                      have HO_6 := n1_
                      have HO_9 := n2_
                      have BK152 := n3_
                      have BK159 := n4_
                      have GW159 := n5_
                      have GE159 := n6_
                      have NB152_159 := n7_
                      have NB159_152 := n8_
                      have HB := n9_
                      clear n0_ n1_ n2_ n3_ n4_ n5_ n6_ n7_ n8_ n9_
                      have hHeld : w71.cell? ⟨gb152, 0, none⟩ = some (.slice A151_0 ((rd_T99 l0 (rd l1 x41_3)).f0).length c151_0) ∧ w71.cell? ⟨gb152, 1, none⟩ = some (.int .i64 ((rd_T99 l0 (rd l1 x41_3)).f1)) ∧ w71.cell? ⟨gb152, 2, none⟩ = some (.int .i64 ((rd_T99 l0 (rd l1 x41_3)).f2)) ∧ w71.cell? ⟨gb152, 3, none⟩ = some (.int .i64 ((rd_T99 l0 (rd l1 x41_3)).f3)) := hS_
                      obtain ⟨Ao72, co72, eo72⟩ := Kd.R_slice HO158.out
                      (first | subst eo72 | (injection eo72 with f1_ f2_ f3_; have f4_ := f1_.symm; have f5_ := f3_.symm; clear f1_ f2_ f3_; subst f4_; subst f5_))
                      refine norm_ (a' := ?_) ?_ ?_
                      rotate_left
                      ·simp only [putAll, Act.put, List.setIfInBounds_toArray, List.set_cons_zero, List.set_cons_succ]
                       rfl
                      refine one_ (i := 8) (N := none) (bs 9 511) rfl rfl (one_of HT_.out (by kernel_rfl)) (by decide) (fun K hK => ?_)
                      have hs73 : w71.cell? ⟨gb159, 0, none⟩ = some (.slice none 0 0) := bZ BK159.out 0
                      have hfs73 := blk_frozen BK159.out 0
                      have hns73_0 := NB152_159.out
                      have hms73_0 := NB159_152.out
                      have hs74 : w71.cell? ⟨gb159, 1, none⟩ = some (.int .i64 0) := bZ BK159.out 1
                      have hfs74 := blk_frozen BK159.out 1
                      have hns74_0 := NB152_159.out
                      have hms74_0 := NB159_152.out
                      have hs75 : w71.cell? ⟨gb159, 2, none⟩ = some (.int .i64 0) := bZ BK159.out 2
                      have hfs75 := blk_frozen BK159.out 2
                      have hns75_0 := NB152_159.out
                      have hms75_0 := NB159_152.out
                      have hs76 : w71.cell? ⟨gb159, 3, none⟩ = some (.int .i64 0) := bZ BK159.out 3
                      have hfs76 := blk_frozen BK159.out 3
                      have hns76_0 := NB152_159.out
                      have hms76_0 := NB159_152.out
                      refine skip_ (w1 := ?_) (by rfl) rfl ?_ ?_
                      rotate_left
                      ·go_simp
                       rfl
                      refine hK.out _ _ ⟨((cell_far (p := ⟨gb159, _, none⟩) NB152_159.out _).trans (((cell_far (p := ⟨gb159, _, none⟩) NB152_159.out _).trans (((cell_far (p := ⟨gb159, _, none⟩) NB152_159.out _).trans (((cell_far (p := ⟨gb159, _, none⟩) NB152_159.out _).trans (hHeld.1)))))))), ((cell_far (p := ⟨gb159, _, none⟩) NB152_159.out _).trans (((cell_far (p := ⟨gb159, _, none⟩) NB152_159.out _).trans (((cell_far (p := ⟨gb159, _, none⟩) NB152_159.out _).trans (((cell_far (p := ⟨gb159, _, none⟩) NB152_159.out _).trans (hHeld.2.1)))))))), ((cell_far (p := ⟨gb159, _, none⟩) NB152_159.out _).trans (((cell_far (p := ⟨gb159, _, none⟩) NB152_159.out _).trans (((cell_far (p := ⟨gb159, _, none⟩) NB152_159.out _).trans (((cell_far (p := ⟨gb159, _, none⟩) NB152_159.out _).trans (hHeld.2.2.1)))))))), ((cell_far (p := ⟨gb159, _, none⟩) NB152_159.out _).trans (((cell_far (p := ⟨gb159, _, none⟩) NB152_159.out _).trans (((cell_far (p := ⟨gb159, _, none⟩) NB152_159.out _).trans (((cell_far (p := ⟨gb159, _, none⟩) NB152_159.out _).trans (hHeld.2.2.2))))))))⟩ (fun hHeld => ?_)
                      clear hK K
                      refine done_ (done_of HT_.out (by kernel_rfl)) ?_
                      have n0_ : Aside0 (Kd.R (Kd.int .i64) 3 ((((w71.setCell ⟨gb159, 0, none⟩ (.slice Ao72 y156.length co72)).setCell ⟨gb159, 1, none⟩ (.int .i64 ((rd_T99 l0 (rd l1 x41_3)).f1))).setCell ⟨gb159, 2, none⟩ (.int .i64 (-1))).setCell ⟨gb159, 3, none⟩ (.int .i64 (-1))) w.heap.size (fun _ => True) v146 x6_2) := ⟨by (with_reducible repeat (first | apply Kd.R_alloc | apply Kd.R_drewN | apply Kd.R_drew)); exact Kd.R_mono (Kd.R_far (p := ⟨gb159, 3, none⟩) (Kd.R_far (p := ⟨gb159, 2, none⟩) (Kd.R_far (p := ⟨gb159, 1, none⟩) (Kd.R_far (p := ⟨gb159, 0, none⟩) (Kd.R_types HO_6.out BK159.out (by decide)) (fun _ hk => hk.2) (.slice Ao72 y156.length co72)) (fun _ hk => hk.2) (.int .i64 ((rd_T99 l0 (rd l1 x41_3)).f1))) (fun _ hk => hk.2) (.int .i64 (-1))) (fun _ hk => hk.2) (.int .i64 (-1))) (fun _ hk => trivial)⟩
                      have n1_ : Aside0 (Kd.S k99 99 ((((w71.setCell ⟨gb159, 0, none⟩ (.slice Ao72 y156.length co72)).setCell ⟨gb159, 1, none⟩ (.int .i64 ((rd_T99 l0 (rd l1 x41_3)).f1))).setCell ⟨gb159, 2, none⟩ (.int .i64 (-1))).setCell ⟨gb159, 3, none⟩ (.int .i64 (-1))) w.heap.size (fun k_ => some k_ ≠ (.slice Ao72 y156.length co72 : Value).ownBlock ∧ k_ ≠ gb152 ∧ k_ ≠ gb159) u9 x9_3) := ⟨by (with_reducible repeat (first | apply Kd.S_alloc | apply Kd.S_drewN | apply Kd.S_drew)); exact Kd.S_mono (Kd.S_far (p := ⟨gb159, 3, none⟩) (Kd.S_far (p := ⟨gb159, 2, none⟩) (Kd.S_far (p := ⟨gb159, 1, none⟩) (Kd.S_far (p := ⟨gb159, 0, none⟩) (Kd.S_mono HO_9.out (fun k_ hk => (⟨hk, hk.2.2⟩ : _ ∧ k_ ≠ gb159))) (fun _ hk => hk.2) (.slice Ao72 y156.length co72)) (fun _ hk => hk.2) (.int .i64 ((rd_T99 l0 (rd l1 x41_3)).f1))) (fun _ hk => hk.2) (.int .i64 (-1))) (fun _ hk => hk.2) (.int .i64 (-1))) (fun _ hk => ⟨hk.1.1, ⟨hk.1.2.1, hk.1.2.2⟩⟩)⟩
                      have n2_ : Aside0 (Kd.R k130 130 ((((w71.setCell ⟨gb159, 0, none⟩ (.slice Ao72 y156.length co72)).setCell ⟨gb159, 1, none⟩ (.int .i64 ((rd_T99 l0 (rd l1 x41_3)).f1))).setCell ⟨gb159, 2, none⟩ (.int .i64 (-1))).setCell ⟨gb159, 3, none⟩ (.int .i64 (-1))) w.heap.size (fun _ => True) (.slice Ao72 y156.length co72) y156) := ⟨by (with_reducible repeat (first | apply Kd.R_alloc | apply Kd.R_drewN | apply Kd.R_drew)); exact Kd.R_mono (Kd.R_far (p := ⟨gb159, 3, none⟩) (Kd.R_far (p := ⟨gb159, 2, none⟩) (Kd.R_far (p := ⟨gb159, 1, none⟩) (Kd.R_far (p := ⟨gb159, 0, none⟩) (Kd.R_types HO158.out BK159.out (by decide)) (fun _ hk => hk.2) (.slice Ao72 y156.length co72)) (fun _ hk => hk.2) (.int .i64 ((rd_T99 l0 (rd l1 x41_3)).f1))) (fun _ hk => hk.2) (.int .i64 (-1))) (fun _ hk => hk.2) (.int .i64 (-1))) (fun _ hk => trivial)⟩
                      have n3_ : Aside0 (((((w71.setCell ⟨gb159, 0, none⟩ (.slice Ao72 y156.length co72)).setCell ⟨gb159, 1, none⟩ (.int .i64 ((rd_T99 l0 (rd l1 x41_3)).f1))).setCell ⟨gb159, 2, none⟩ (.int .i64 (-1))).setCell ⟨gb159, 3, none⟩ (.int .i64 (-1))).heap[gb152]? = some (.cells #[.slice A151_0 ((rd_T99 l0 (rd l1 x41_3)).f0).length c151_0, .int .i64 ((rd_T99 l0 (rd l1 x41_3)).f1), .int .i64 ((rd_T99 l0 (rd l1 x41_3)).f2), .int .i64 ((rd_T99 l0 (rd l1 x41_3)).f3)] 99 (0, 0))) := ⟨lJ BK152.out⟩
                      have n4_ : Aside0 (((((w71.setCell ⟨gb159, 0, none⟩ (.slice Ao72 y156.length co72)).setCell ⟨gb159, 1, none⟩ (.int .i64 ((rd_T99 l0 (rd l1 x41_3)).f1))).setCell ⟨gb159, 2, none⟩ (.int .i64 (-1))).setCell ⟨gb159, 3, none⟩ (.int .i64 (-1))).heap[gb159]? = some (.cells #[.slice Ao72 y156.length co72, .int .i64 ((rd_T99 l0 (rd l1 x41_3)).f1), .int .i64 (-1), .int .i64 (-1)] 99 (0, 0))) := ⟨by (with_reducible repeat first | apply bN | apply bD | apply bA); refine blk_put (cs := #[.slice Ao72 y156.length co72, .int .i64 ((rd_T99 l0 (rd l1 x41_3)).f1), .int .i64 (-1), .int .i64 0]) ?_ 3 _ rfl; (with_reducible repeat first | apply bN | apply bD | apply bA); refine blk_put (cs := #[.slice Ao72 y156.length co72, .int .i64 ((rd_T99 l0 (rd l1 x41_3)).f1), .int .i64 0, .int .i64 0]) ?_ 2 _ rfl; (with_reducible repeat first | apply bN | apply bD | apply bA); refine blk_put (cs := #[.slice Ao72 y156.length co72, .int .i64 0, .int .i64 0, .int .i64 0]) ?_ 1 _ rfl; (with_reducible repeat first | apply bN | apply bD | apply bA); refine blk_put (cs := #[.slice none 0 0, .int .i64 0, .int .i64 0, .int .i64 0]) ?_ 0 _ rfl; (with_reducible repeat first | apply bN | apply bD | apply bA); exact BK159.out⟩
                      have n5_ : Aside0 (Below w.heap.size w ((((w71.setCell ⟨gb159, 0, none⟩ (.slice Ao72 y156.length co72)).setCell ⟨gb159, 1, none⟩ (.int .i64 ((rd_T99 l0 (rd l1 x41_3)).f1))).setCell ⟨gb159, 2, none⟩ (.int .i64 (-1))).setCell ⟨gb159, 3, none⟩ (.int .i64 (-1)))) := ⟨lB⟩
                      (try clear HO_6)
                      (try clear HO_9)
                      (try clear HO158)
                      (try clear BK152)
                      (try clear BK159)
                      (try clear HB)
                      generalize ((((w71.setCell ⟨gb159, 0, none⟩ (.slice Ao72 y156.length co72)).setCell ⟨gb159, 1, none⟩ (.int .i64 ((rd_T99 l0 (rd l1 x41_3)).f1))).setCell ⟨gb159, 2, none⟩ (.int .i64 (-1))).setCell ⟨gb159, 3, none⟩ (.int .i64 (-1))) = w77 at n0_ n1_ n2_ n3_ n4_ n5_ ⊢
                      have HO_6 := n0_
                      have HO_9 := n1_
                      have HO158 := n2_
                      have BK152 := n3_
                      have BK159 := n4_
                      have HB := n5_
                      clear n0_ n1_ n2_ n3_ n4_ n5_
                      have hnb78 := NB152_159.out
                      have hnc78 := NB159_152.out
                      obtain ⟨hcz79_0, hfz79_0, hcz79_1, hfz79_1, hcz79_2, hfz79_2, hcz79_3, hfz79_3⟩ := bk4 BK152.out
                      obtain ⟨Ao80, co80, eo80⟩ := Kd.R_slice HO_6.out
                      subst eo80
                      have p160 : 0 ≤ (((rd_T99 l0 (rd l1 x41_3)).f2) : Int) := lD
                      have q160 : ((rd_T99 l0 (rd l1 x41_3)).f2) < (x6_2.length : Int) := lD
                      obtain ⟨ad160, e160, hx160_0⟩ := Kd.at_int (Kd.R_reads' HO_6.out).2.2 ((rd_T99 l0 (rd l1 x41_3)).f2) p160 q160
                      cases e160
                      replace p160 := eq_true p160
                      replace q160 := eq_true q160
                      obtain ⟨hcz81_0, hfz81_0, hcz81_1, hfz81_1, hcz81_2, hfz81_2, hcz81_3, hfz81_3⟩ := bk4 BK159.out
                      try go_wp2_with (first | ((with_reducible refine gate_store (t := 3) (p := 64) rfl ?_); refine store_event (t := 3) (p := 64) (v := ?vo_w82) (w1 := (w77.setCell ⟨gb159, 2, none⟩ (.int .i64 (rd x6_2 ((rd_T99 l0 (rd l1 x41_3)).f2))))) ?hg ?ho ?hn ?hr ?_; (case ho => rfl); (case hg => rfl); (case hn => rfl); (case hr => first | (go_simp; done) | (go_simp; rfl)); intro w82 hw; have n0_ : Aside0 (Kd.R (Kd.int .i64) 3 w82 w.heap.size (fun _ => True) (.slice (some ad160) x6_2.length co80) x6_2) := ⟨(by rw [hw]; exact (by (with_reducible repeat (first | apply Kd.R_alloc | apply Kd.R_drewN | apply Kd.R_drew)); exact Kd.R_mono (Kd.R_far (p := ⟨gb159, 2, none⟩) (Kd.R_types HO_6.out BK159.out (by decide)) (fun _ hk => hk.2) (.int .i64 (rd x6_2 ((rd_T99 l0 (rd l1 x41_3)).f2)))) (fun _ hk => trivial)))⟩; have n1_ : Aside0 (Kd.S k99 99 w82 w.heap.size (fun k_ => some k_ ≠ (.slice Ao72 y156.length co72 : Value).ownBlock ∧ k_ ≠ gb152 ∧ k_ ≠ gb159) u9 x9_3) := ⟨(by rw [hw]; exact (by (with_reducible repeat (first | apply Kd.S_alloc | apply Kd.S_drewN | apply Kd.S_drew)); exact Kd.S_mono (Kd.S_far (p := ⟨gb159, 2, none⟩) (Kd.S_mono HO_9.out (fun k_ hk => (⟨hk, hk.2.2⟩ : _ ∧ k_ ≠ gb159))) (fun _ hk => hk.2) (.int .i64 (rd x6_2 ((rd_T99 l0 (rd l1 x41_3)).f2)))) (fun _ hk => ⟨hk.1.1, ⟨hk.1.2.1, hk.1.2.2⟩⟩)))⟩; have n2_ : Aside0 (Kd.R k130 130 w82 w.heap.size (fun _ => True) (.slice Ao72 y156.length co72) y156) := ⟨(by rw [hw]; exact (by (with_reducible repeat (first | apply Kd.R_alloc | apply Kd.R_drewN | apply Kd.R_drew)); exact Kd.R_mono (Kd.R_far (p := ⟨gb159, 2, none⟩) (Kd.R_types HO158.out BK159.out (by decide)) (fun _ hk => hk.2) (.int .i64 (rd x6_2 ((rd_T99 l0 (rd l1 x41_3)).f2)))) (fun _ hk => trivial)))⟩; have n3_ : Aside0 (w82.heap[gb152]? = some (.cells #[.slice A151_0 ((rd_T99 l0 (rd l1 x41_3)).f0).length c151_0, .int .i64 ((rd_T99 l0 (rd l1 x41_3)).f1), .int .i64 ((rd_T99 l0 (rd l1 x41_3)).f2), .int .i64 ((rd_T99 l0 (rd l1 x41_3)).f3)] 99 (0, 0))) := ⟨(by rw [hw]; exact (lJ BK152.out))⟩; have n4_ : Aside0 (w82.heap[gb159]? = some (.cells #[.slice Ao72 y156.length co72, .int .i64 ((rd_T99 l0 (rd l1 x41_3)).f1), .int .i64 (rd x6_2 ((rd_T99 l0 (rd l1 x41_3)).f2)), .int .i64 (-1)] 99 (0, 0))) := ⟨(by rw [hw]; exact (by (with_reducible repeat first | apply bN | apply bD | apply bA); refine blk_put (cs := #[.slice Ao72 y156.length co72, .int .i64 ((rd_T99 l0 (rd l1 x41_3)).f1), .int .i64 (-1), .int .i64 (-1)]) ?_ 2 _ rfl; (with_reducible repeat first | apply bN | apply bD | apply bA); exact BK159.out))⟩; have n5_ : Aside0 (Below w.heap.size w w82) := ⟨(by rw [hw]; exact lB)⟩; clear hw; clear HO_6; clear HO_9; clear HO158; clear BK152; clear BK159; clear HB; have HO_6 := n0_; have HO_9 := n1_; have HO158 := n2_; have BK152 := n3_; have BK159 := n4_; have HB := n5_; clear n0_ n1_ n2_ n3_ n4_ n5_; obtain ⟨hcz83_0, hfz83_0, hcz83_1, hfz83_1, hcz83_2, hfz83_2, hcz83_3, hfz83_3⟩ := bk4 BK152.out; obtain ⟨hcz84_0, hfz84_0, hcz84_1, hfz84_1, hcz84_2, hfz84_2, hcz84_3, hfz84_3⟩ := bk4 BK159.out) | ((with_reducible refine gate_builtin (b := .append) (xs := #[.tmp 74, .tmp 76]) rfl ?_); (try (refine gate_guard (by rfl) ?_; dsimp only)); at_builtin; refine Kd.S_append k99 (w0 := w) w.heap.size rfl (.tmp 74) (.tmp 76) 57 99 (.agg #[(.slice none 0 0), (.int .i64 0), (.int .i64 0), (.int .i64 0)]) 48 rfl Try.underlying57 info99 rfl (by decide) (by omega) u9 x9_3 (⟨y156, (rd_T99 l0 (rd l1 x41_3)).f1, rd x6_2 ((rd_T99 l0 (rd l1 x41_3)).f2), (-1)⟩ : S99) [.slice Ao72 y156.length co72, .int .i64 ((rd_T99 l0 (rd l1 x41_3)).f1), .int .i64 (rd x6_2 ((rd_T99 l0 (rd l1 x41_3)).f2)), .int .i64 (-1)] (fun k_ => k_ ≠ gb152 ∧ k_ ≠ gb159) (fun k_ => some k_ = (.slice Ao72 y156.length co72 : Value).ownBlock) rfl rfl ?aP (fun k_ hk_ => ((Kd.R_mono (ok' := fun k_ => ((fun k_ => k_ ≠ gb152 ∧ k_ ≠ gb159)) k_ ∧ some k_ ≠ (u9 : Value).ownBlock) (Kd.R_types (Kd.R_types (Kd.R_apart' (HO158.out) (Kd.S_typed HO_9.out) (by decide)) BK152.out (by decide)) BK159.out (by decide)) (fun k_ hk => ⟨⟨hk.1.2, hk.2⟩, hk.1.1.2⟩))).1 k_ hk_.symm) ?aF ?aO ?aB ?aS ?aL ?_; (case aP => exact k99_mkM _ _ _ (⟨y156, (rd_T99 l0 (rd l1 x41_3)).f1, rd x6_2 ((rd_T99 l0 (rd l1 x41_3)).f2), (-1)⟩ : S99) (Kd.R_mono (Kd.R_tight rfl (Kd.R_mono (ok' := fun k_ => ((fun k_ => k_ ≠ gb152 ∧ k_ ≠ gb159)) k_ ∧ some k_ ≠ (u9 : Value).ownBlock) (Kd.R_types (Kd.R_types (Kd.R_apart' (HO158.out) (Kd.S_typed HO_9.out) (by decide)) BK152.out (by decide)) BK159.out (by decide)) (fun k_ hk => ⟨⟨hk.1.2, hk.2⟩, hk.1.1.2⟩))) (fun _ h_ => h_))); (case aB => exact lB); (case aF => exact (fun k_ hk => ⟨Kd.freshB (lK BK152.out) k_ hk, Kd.freshB (lK BK159.out) k_ hk⟩)); (case aO => exact (by (with_reducible repeat (first | apply Kd.S_alloc | apply Kd.S_drewN | apply Kd.S_drew)); exact Kd.S_mono HO_9.out (fun k_ hk => ⟨⟨hk.2.1, hk.2.2⟩, fun e_ => hk.1 e_⟩))); (case aS => exact (below_size lB)); (case aL => have := LMc61.out; omega); intro v166 w85 ho hb hg hat; rw [← Ny165.out] at ho; have n0_ := Aside0.mk (Kd.R_over' (lR HO_6.out) (Kd.S_typed (lS HO_9.out)) (by decide) hg); have n1_ := Aside0.mk (blk_grown (lK BK152.out) hg (Kd.S_away HO_9.out (fun _ hk => hk.2.1))); have n2_ := Aside0.mk (blk_grown (lK BK159.out) hg (Kd.S_away HO_9.out (fun _ hk => hk.2.2))); have n3_ := Aside0.mk (hb); have n4_ := Aside0.mk (ho); clear HO_6; clear BK152; clear BK159; clear HB; clear HO_9; clear HO158; have HO_6 := n0_; have BK152 := n1_; have BK159 := n2_; have HB := n3_; have HO167 := n4_; clear n0_ n1_ n2_ n3_ n4_; clear ho hb hg hat))
                      go_roundg k3
                      case measure => have := HJ2.out; have := HK2.out; have := HK3.out; omega
                      case rel => exact ⟨(y165), (wrap64 (x41_3 + 1)), lF, H', ⟨by have := HJ2.out; have := HK2.out; have := HK3.out; omega⟩, ⟨lR HO_6.out⟩, ⟨by (with_reducible repeat (first | apply Kd.S_alloc | apply Kd.S_drewN | apply Kd.S_drew)); exact Kd.S_mono HO167.out (fun _ hk => trivial)⟩, ⟨lB⟩⟩
                     ·rw [if_neg c61] at H
                      exact absurd H (by simp)
                   ·rw [if_neg c30] at H
                    exact absurd H (by simp)
                  ·rw [if_neg c29] at H
                   exact absurd H (by simp)
                 ·rw [if_neg c28] at H
                  have c28b0 : decide (0 ≤ ((rd_T99 l0 (rd l1 x41_3)).f2)) = false := decide_eq_false c28
                  clear c28
                  by_cases c86 : ((rd_T99 l0 (rd l1 x41_3)).f3) ≥ 0
                  ·rw [if_pos c86] at H
                   have c86b0 : decide (0 ≤ ((rd_T99 l0 (rd l1 x41_3)).f3)) = true := decide_eq_true c86
                   clear c86
                   by_cases c87 : 0 ≤ ((rd_T99 l0 (rd l1 x41_3)).f3)
                   ·rw [if_pos c87] at H
                    have c87b0 : decide (0 ≤ ((rd_T99 l0 (rd l1 x41_3)).f3)) = true := decide_eq_true c87
                    clear c87
                    by_cases c88 : ((rd_T99 l0 (rd l1 x41_3)).f3) < (x6_2.length : Int)
                    ·rw [if_pos c88] at H
                     have c88b0 : decide (((rd_T99 l0 (rd l1 x41_3)).f3) < (x6_2.length : Int)) = true := decide_eq_true c88
                     clear c88
                     by_cases c89 : x9_3.length < 2932031007402
                     ·rw [if_pos c89] at H
                      have LMc89 := Aside0.mk c89
                      clear c89
                      obtain ⟨y169, hy169⟩ : ∃ y_ : List (S99), y_ = (x9_3 ++ [(⟨y156, (rd_T99 l0 (rd l1 x41_3)).f1, (-1), rd x6_2 ((rd_T99 l0 (rd l1 x41_3)).f3)⟩ : S99)]) := ⟨_, rfl⟩
                      replace H : (spec_LayFlow.l1 k3 l0 x6_2 y169 l1 (l1.length : Int) (wrap64 (x41_3 + 1))) = some (r1, r2) := by first | (rw [hy169]; with_reducible exact H) | (have H2_ := (Option.bind_some _ _).symm.trans H; rw [hy169]; with_reducible exact H2_) | (have H2_ := (Option.bind_some _ _).symm.trans H; with_reducible exact H2_) | with_reducible exact H | (rw [hy169]; exact H) | exact H
                      have Ny169 := Aside0.mk hy169
                      clear hy169
                      have H' := Aside0.mk H
                      clear H
                      have p150 : 0 ≤ (x41_3 : Int) := lD
                      have q150 : x41_3 < (l1.length : Int) := lD
                      obtain ⟨ad150, e150, hx150_0⟩ := Kd.at_int HR1.out x41_3 p150 q150
                      cases e150
                      replace hx150_0 := pw_cell_below HB.out hx150_0
                      replace p150 := eq_true p150
                      replace q150 := eq_true q150
                      have p151 : 0 ≤ ((rd l1 x41_3) : Int) := lD
                      have q151 : (rd l1 x41_3) < (l0.length : Int) := lD
                      obtain ⟨ad151, A151_0, c151_0, e151, hx151_0, hx151_1, hx151_2, hx151_3, hl151_0, hi151_0⟩ := at_T99 HR0.out (rd l1 x41_3) p151 q151
                      cases e151
                      replace hx151_0 := pw_cell_below HB.out hx151_0
                      replace hx151_1 := pw_cell_below HB.out hx151_1
                      replace hx151_2 := pw_cell_below HB.out hx151_2
                      replace hx151_3 := pw_cell_below HB.out hx151_3
                      have HR151_0 := Aside0.mk hi151_0
                      have HC151_0 := Aside0.mk hl151_0
                      clear hi151_0 hl151_0
                      replace p151 := eq_true p151
                      replace q151 := eq_true q151
                      try go_wp2_with (first | ((with_reducible refine gate_dst (N := 12) rfl ?_); (try (refine gate_guard (by rfl) ?_; dsimp only)); refine bxe 12 #[.slice none 0 0, .int .i64 0, .int .i64 0, .int .i64 0] 99 ?_; intro gb152 hg w90 hbox hb; have n0_ := Aside0.mk (Kd.R_below (lR HO_6.out) hb); have n1_ := Aside0.mk (Kd.S_below (Kd.S_elderB (lS HO_9.out) gb152 (Nat.le_of_eq hg.symm)) hb); have n2_ := Aside0.mk (below_step lB hb); have n3_ := Aside0.mk (hbox); have n4_ := lG w hg; have n5_ := lG w hg; clear HO_6; clear HO_9; clear HB; have HO_6 := n0_; have HO_9 := n1_; have HB := n2_; have BK152 := n3_; have GW152 := n4_; have GE152 := n5_; clear n0_ n1_ n2_ n3_ n4_ n5_; clear hb hbox hg; obtain ⟨hcz91_0, hfz91_0, hcz91_1, hfz91_1, hcz91_2, hfz91_2, hcz91_3, hfz91_3⟩ := bk4 BK152.out))
                      have n0_ : Aside0 (Kd.R (Kd.int .i64) 3 ((((w90.setCell ⟨gb152, 0, none⟩ (.slice A151_0 ((rd_T99 l0 (rd l1 x41_3)).f0).length c151_0)).setCell ⟨gb152, 1, none⟩ (.int .i64 ((rd_T99 l0 (rd l1 x41_3)).f1))).setCell ⟨gb152, 2, none⟩ (.int .i64 ((rd_T99 l0 (rd l1 x41_3)).f2))).setCell ⟨gb152, 3, none⟩ (.int .i64 ((rd_T99 l0 (rd l1 x41_3)).f3))) w.heap.size (fun _ => True) v146 x6_2) := ⟨by (with_reducible repeat (first | apply Kd.R_alloc | apply Kd.R_drewN | apply Kd.R_drew)); exact Kd.R_mono (Kd.R_far (p := ⟨gb152, 3, none⟩) (Kd.R_far (p := ⟨gb152, 2, none⟩) (Kd.R_far (p := ⟨gb152, 1, none⟩) (Kd.R_far (p := ⟨gb152, 0, none⟩) (Kd.R_types HO_6.out BK152.out (by decide)) (fun _ hk => hk.2) (.slice A151_0 ((rd_T99 l0 (rd l1 x41_3)).f0).length c151_0)) (fun _ hk => hk.2) (.int .i64 ((rd_T99 l0 (rd l1 x41_3)).f1))) (fun _ hk => hk.2) (.int .i64 ((rd_T99 l0 (rd l1 x41_3)).f2))) (fun _ hk => hk.2) (.int .i64 ((rd_T99 l0 (rd l1 x41_3)).f3))) (fun _ hk => trivial)⟩
                      have n1_ : Aside0 (Kd.S k99 99 ((((w90.setCell ⟨gb152, 0, none⟩ (.slice A151_0 ((rd_T99 l0 (rd l1 x41_3)).f0).length c151_0)).setCell ⟨gb152, 1, none⟩ (.int .i64 ((rd_T99 l0 (rd l1 x41_3)).f1))).setCell ⟨gb152, 2, none⟩ (.int .i64 ((rd_T99 l0 (rd l1 x41_3)).f2))).setCell ⟨gb152, 3, none⟩ (.int .i64 ((rd_T99 l0 (rd l1 x41_3)).f3))) w.heap.size (fun k_ => k_ ≠ gb152) u9 x9_3) := ⟨by (with_reducible repeat (first | apply Kd.S_alloc | apply Kd.S_drewN | apply Kd.S_drew)); exact Kd.S_mono (Kd.S_far (p := ⟨gb152, 3, none⟩) (Kd.S_far (p := ⟨gb152, 2, none⟩) (Kd.S_far (p := ⟨gb152, 1, none⟩) (Kd.S_far (p := ⟨gb152, 0, none⟩) (Kd.S_mono HO_9.out (fun k_ hk => (⟨hk, hk.2⟩ : _ ∧ k_ ≠ gb152))) (fun _ hk => hk.2) (.slice A151_0 ((rd_T99 l0 (rd l1 x41_3)).f0).length c151_0)) (fun _ hk => hk.2) (.int .i64 ((rd_T99 l0 (rd l1 x41_3)).f1))) (fun _ hk => hk.2) (.int .i64 ((rd_T99 l0 (rd l1 x41_3)).f2))) (fun _ hk => hk.2) (.int .i64 ((rd_T99 l0 (rd l1 x41_3)).f3))) (fun _ hk => hk.1.2)⟩
                      have n2_ : Aside0 (((((w90.setCell ⟨gb152, 0, none⟩ (.slice A151_0 ((rd_T99 l0 (rd l1 x41_3)).f0).length c151_0)).setCell ⟨gb152, 1, none⟩ (.int .i64 ((rd_T99 l0 (rd l1 x41_3)).f1))).setCell ⟨gb152, 2, none⟩ (.int .i64 ((rd_T99 l0 (rd l1 x41_3)).f2))).setCell ⟨gb152, 3, none⟩ (.int .i64 ((rd_T99 l0 (rd l1 x41_3)).f3))).heap[gb152]? = some (.cells #[.slice A151_0 ((rd_T99 l0 (rd l1 x41_3)).f0).length c151_0, .int .i64 ((rd_T99 l0 (rd l1 x41_3)).f1), .int .i64 ((rd_T99 l0 (rd l1 x41_3)).f2), .int .i64 ((rd_T99 l0 (rd l1 x41_3)).f3)] 99 (0, 0))) := ⟨by (with_reducible repeat first | apply bN | apply bD | apply bA); refine blk_put (cs := #[.slice A151_0 ((rd_T99 l0 (rd l1 x41_3)).f0).length c151_0, .int .i64 ((rd_T99 l0 (rd l1 x41_3)).f1), .int .i64 ((rd_T99 l0 (rd l1 x41_3)).f2), .int .i64 0]) ?_ 3 _ rfl; (with_reducible repeat first | apply bN | apply bD | apply bA); refine blk_put (cs := #[.slice A151_0 ((rd_T99 l0 (rd l1 x41_3)).f0).length c151_0, .int .i64 ((rd_T99 l0 (rd l1 x41_3)).f1), .int .i64 0, .int .i64 0]) ?_ 2 _ rfl; (with_reducible repeat first | apply bN | apply bD | apply bA); refine blk_put (cs := #[.slice A151_0 ((rd_T99 l0 (rd l1 x41_3)).f0).length c151_0, .int .i64 0, .int .i64 0, .int .i64 0]) ?_ 1 _ rfl; (with_reducible repeat first | apply bN | apply bD | apply bA); refine blk_put (cs := #[.slice none 0 0, .int .i64 0, .int .i64 0, .int .i64 0]) ?_ 0 _ rfl; (with_reducible repeat first | apply bN | apply bD | apply bA); exact BK152.out⟩
                      have n3_ : Aside0 (Below w.heap.size w ((((w90.setCell ⟨gb152, 0, none⟩ (.slice A151_0 ((rd_T99 l0 (rd l1 x41_3)).f0).length c151_0)).setCell ⟨gb152, 1, none⟩ (.int .i64 ((rd_T99 l0 (rd l1 x41_3)).f1))).setCell ⟨gb152, 2, none⟩ (.int .i64 ((rd_T99 l0 (rd l1 x41_3)).f2))).setCell ⟨gb152, 3, none⟩ (.int .i64 ((rd_T99 l0 (rd l1 x41_3)).f3)))) := ⟨lB⟩
                      (try clear HO_6)
                      (try clear HO_9)
                      (try clear BK152)
                      (try clear HB)
                      generalize ((((w90.setCell ⟨gb152, 0, none⟩ (.slice A151_0 ((rd_T99 l0 (rd l1 x41_3)).f0).length c151_0)).setCell ⟨gb152, 1, none⟩ (.int .i64 ((rd_T99 l0 (rd l1 x41_3)).f1))).setCell ⟨gb152, 2, none⟩ (.int .i64 ((rd_T99 l0 (rd l1 x41_3)).f2))).setCell ⟨gb152, 3, none⟩ (.int .i64 ((rd_T99 l0 (rd l1 x41_3)).f3))) = w92 at n0_ n1_ n2_ n3_ ⊢
                      have HO_6 := n0_
                      have HO_9 := n1_
                      have BK152 := n2_
                      have HB := n3_
                      clear n0_ n1_ n2_ n3_
                      have n0_ := Aside0.mk (Kd.R_drew HO_6.out)
                      have n1_ := Aside0.mk (Kd.S_drew HO_9.out)
                      have n2_ := Aside0.mk (blk_drew BK152.out)
                      have n3_ := Aside0.mk (below_drew1 HB.out)
                      clear HO_6
                      clear HO_9
                      clear BK152
                      clear HB
                      have HO_6 := n0_
                      have HO_9 := n1_
                      have BK152 := n2_
                      have HB := n3_
                      clear n0_ n1_ n2_ n3_
                      refine start_ (n := 9) (S := fun w' => w'.cell? ⟨gb152, 0, none⟩ = some (.slice A151_0 ((rd_T99 l0 (rd l1 x41_3)).f0).length c151_0) ∧ w'.cell? ⟨gb152, 1, none⟩ = some (.int .i64 ((rd_T99 l0 (rd l1 x41_3)).f1)) ∧ w'.cell? ⟨gb152, 2, none⟩ = some (.int .i64 ((rd_T99 l0 (rd l1 x41_3)).f2)) ∧ w'.cell? ⟨gb152, 3, none⟩ = some (.int .i64 ((rd_T99 l0 (rd l1 x41_3)).f3))) (ds := []) (bs 9 0) kR rfl kR ⟨bZ BK152.out 0, bZ BK152.out 1, bZ BK152.out 2, bZ BK152.out 3⟩ (fun hHeld => ?_); refine with_tabW spec_LayFlow.tab14 spec_LayFlow.bits14 (fun HT_ HW_ => ?_)
                      generalize w92.drew = w93 at HO_6 HO_9 BK152 HB hHeld ⊢
                      refine pur_ 1 50 (bs 9 2) (any_of HT_.out kR) ?_
                      refine pur_ 4 53 (bs 9 18) (any_of HT_.out kR) ?_
                      refine tak_ 2 51 (bs 9 22) (take_ofW HT_.out HW_.out kR) hHeld ?_
                      refine tak_ 5 54 (bs 9 54) (take_ofW HT_.out HW_.out kR) hHeld ?_
                      refine join_ (σ := Value × Value × Nat) 1 #[true, true, true, true, true, true, true, true, false] (fun s_ => [(49, s_.1), (52, s_.2.1), (13, .pointer (some ⟨s_.2.2, 0, none⟩)), (55, .agg #[s_.2.1, .int .i64 ((rd_T99 l0 (rd l1 x41_3)).f1), .int .i64 (-1), .int .i64 (-1)])]) (fun s_ w' => (w'.cell? ⟨gb152, 0, none⟩ = some (.slice A151_0 ((rd_T99 l0 (rd l1 x41_3)).f0).length c151_0) ∧ w'.cell? ⟨gb152, 1, none⟩ = some (.int .i64 ((rd_T99 l0 (rd l1 x41_3)).f1)) ∧ w'.cell? ⟨gb152, 2, none⟩ = some (.int .i64 ((rd_T99 l0 (rd l1 x41_3)).f2)) ∧ w'.cell? ⟨gb152, 3, none⟩ = some (.int .i64 ((rd_T99 l0 (rd l1 x41_3)).f3))) ∧ (Kd.R k130 130 w' w.heap.size (fun _ => True) s_.2.1 y156) ∧ (Kd.R (Kd.int .i64) 3 w' w.heap.size (fun _ => True) v146 x6_2) ∧ (Kd.S k99 99 w' w.heap.size (fun k_ => some k_ ≠ (s_.2.1 : Value).ownBlock ∧ k_ ≠ gb152 ∧ k_ ≠ s_.2.2) u9 x9_3) ∧ (w'.heap[gb152]? = some (.cells #[.slice A151_0 ((rd_T99 l0 (rd l1 x41_3)).f0).length c151_0, .int .i64 ((rd_T99 l0 (rd l1 x41_3)).f1), .int .i64 ((rd_T99 l0 (rd l1 x41_3)).f2), .int .i64 ((rd_T99 l0 (rd l1 x41_3)).f3)] 99 (0, 0))) ∧ (w'.heap[s_.2.2]? = some (.cells #[.slice none 0 0, .int .i64 0, .int .i64 0, .int .i64 0] 99 (0, 0))) ∧ (w.heap.size ≤ s_.2.2) ∧ (w.heap.size ≤ s_.2.2) ∧ (gb152 ≠ s_.2.2) ∧ (s_.2.2 ≠ gb152) ∧ (Below w.heap.size w w')) ?_ ?_
                      rotate_left
                      ·intro hCont
                       refine two_ (i := 0) (j := 7) (Ni := some 49) (Nj := some 13) (bs 9 55) (bs 9 182) rfl rfl rfl rfl (two_of HT_.out (by kernel_rfl)) (by decide) (by decide) (fun K hK => ?_) (fun K hK => ?_)
                       ·skip
                        refine Kd.R_lit_step k130 _ 130 ?hg (N := 49) ?hd (xs := ([] : List (S130))) (inner := []) (ok := fun _ => True) (okp := fun _ => True) ?hr ?hp (fun _ hk => hk) trivial (Below.refl _ _) (Nat.le_refl _) (by simp) ?_; (case hd => rfl); (case hg => rfl); (case hr => first | (go_simp; done) | (go_simp; rfl)); (case hp => exact (Reps.none _ _))
                        intro v154 w94 ho95 hb hg_ hnew_
                        clear hg_ hnew_
                        (first | rw [← Ny153.out] at ho95 | (simp only [Int.reduceToNat] at ho95; rw [← Ny153.out] at ho95))
                        have n0_ := Aside0.mk (Kd.R_below (lR HO_6.out) hb)
                        have n1_ := Aside0.mk (Kd.S_elder' (lS HO_9.out) (Kd.R_base ho95) hb)
                        have n2_ := Aside0.mk (Kd.R_lower ho95 (below_size lB))
                        have n3_ := Aside0.mk (blk_below (lK BK152.out) hb)
                        have n4_ := Aside0.mk (below_step lB hb)
                        clear HO_6
                        clear HO_9
                        clear BK152
                        clear HB
                        have HO_6 := n0_
                        have HO_9 := n1_
                        have HO155 := n2_
                        have BK152 := n3_
                        have HB := n4_
                        clear n0_ n1_ n2_ n3_ n4_
                        clear hb ho95
                        refine hK.out _ _ ⟨bZ BK152.out 0, bZ BK152.out 1, bZ BK152.out 2, bZ BK152.out 3⟩ (fun hHeld => ?_)
                        clear hK K
                        refine norm_ (a' := ?_) ?_ ?_
                        rotate_left
                        ·show Act.put _ (some 49) _ = _
                         simp only [Act.put, List.setIfInBounds_toArray, List.set_cons_zero, List.set_cons_succ, i64_w, i32_w]
                         rfl
                        refine two_ (i := 3) (j := 7) (Ni := some 52) (Nj := some 13) (bs 9 63) (bs 9 183) rfl rfl rfl rfl (two_of HT_.out (by kernel_rfl)) (by decide) (by decide) (fun K hK => ?_) (fun K hK => ?_)
                        ·skip
                         refine Kd.R_append_rows_step k130 (w0 := w) w.heap.size (by rfl) (.tmp 49) (.tmp 51) 97 130 (.agg #[(.int .i64 0), (.int .i64 0), (.int .i64 0), (.int .i64 0), (.int .i64 0)]) 40 rfl Try.underlying97 info130 rfl (by decide) (by omega) v154 y153 ((rd_T99 l0 (rd l1 x41_3)).f0) _ _ _ (fun _ => True) (fun _ => False) rfl rfl ?aO ?aR (fun _ _ h => h) (fun _ h => h.elim) ?aF ?aB ?aS ?aL ?_
                         (case aR => exact lC (Kd.C_below HR151_0.out HB.out))
                         (case aB => exact lB)
                         (case aF => exact (fun _ _ => trivial))
                         (case aO => exact (lR HO155.out))
                         (case aS => exact (below_size lB))
                         (case aL => have := LMc27.out; omega)
                         intro v157 w96 ho hb hg hat
                         rw [← Ny156.out] at ho
                         have n0_ := Aside0.mk (Kd.R_over' (lR HO_6.out) (Kd.R_typed (lR HO155.out)) (by decide) hg)
                         have n1_ := Aside0.mk (Kd.S_after (ok := (fun k_ => k_ ≠ gb152)) (lS HO_9.out) hg hat)
                         have n2_ := Aside0.mk (blk_grown (lK BK152.out) hg (Kd.R_ne HO155.out BK152.out (by decide)))
                         have n3_ := Aside0.mk (hb)
                         have n4_ := Aside0.mk (ho)
                         clear HO_6
                         clear HO_9
                         clear BK152
                         clear HB
                         clear HO155
                         have HO_6 := n0_
                         have HO_9 := n1_
                         have BK152 := n2_
                         have HB := n3_
                         have HO158 := n4_
                         clear n0_ n1_ n2_ n3_ n4_
                         clear ho hb hg hat
                         obtain ⟨Ao97, co97, eo97⟩ := Kd.R_slice HO158.out
                         (first | subst eo97 | (injection eo97 with f1_ f2_ f3_; have f4_ := f1_.symm; have f5_ := f3_.symm; clear f1_ f2_ f3_; subst f4_; subst f5_))
                         refine hK.out _ _ ⟨bZ BK152.out 0, bZ BK152.out 1, bZ BK152.out 2, bZ BK152.out 3⟩ (fun hHeld => ?_)
                         clear hK K
                         refine norm_ (a' := ?_) ?_ ?_
                         rotate_left
                         ·show Act.put _ (some 52) _ = _
                          simp only [Act.put, List.setIfInBounds_toArray, List.set_cons_zero, List.set_cons_succ, i64_w, i32_w]
                          rfl
                         refine pur_ 6 55 (bs 9 127) (any_of HT_.out kR) ?_
                         refine one_ (i := 7) (N := some 13) (bs 9 255) rfl rfl (one_of HT_.out (by kernel_rfl)) (by decide) (fun K hK => ?_)
                         refine box_step ?hg (N := 13) ?hd (cs := #[.slice none 0 0, .int .i64 0, .int .i64 0, .int .i64 0]) (t := 99) ?hr ?_; (case hd => rfl); (case hg => rfl); (case hr => first | (go_simp; done) | (go_simp; rfl))
                         intro gb159 hg w98 hbox hb
                         have n0_ := Aside0.mk (Kd.R_below (lR HO_6.out) hb)
                         have n1_ := Aside0.mk (Kd.S_below (Kd.S_elderB (lS HO_9.out) gb159 (Nat.le_of_eq hg.symm)) hb)
                         have n2_ := Aside0.mk (Kd.R_below (lR HO158.out) hb)
                         have n3_ := Aside0.mk (blk_below (lK BK152.out) hb)
                         have n4_ := Aside0.mk (below_step lB hb)
                         have n5_ := Aside0.mk (hbox)
                         have n6_ := lG w hg
                         have n7_ := lG w hg
                         have n8_ := Aside0.mk ((by rw [hg]; exact Nat.ne_of_lt (blk_lt (lK BK152.out)) : gb152 ≠ gb159))
                         have n9_ := Aside0.mk ((by rw [hg]; exact Nat.ne_of_gt (blk_lt (lK BK152.out)) : gb159 ≠ gb152))
                         clear HO_6
                         clear HO_9
                         clear HO158
                         clear BK152
                         clear HB
                         have HO_6 := n0_
                         have HO_9 := n1_
                         have HO158 := n2_
                         have BK152 := n3_
                         have HB := n4_
                         have BK159 := n5_
                         have GW159 := n6_
                         have GE159 := n7_
                         have NB152_159 := n8_
                         have NB159_152 := n9_
                         clear n0_ n1_ n2_ n3_ n4_ n5_ n6_ n7_ n8_ n9_
                         clear hb hbox hg
                         refine hK.out _ _ ⟨bZ BK152.out 0, bZ BK152.out 1, bZ BK152.out 2, bZ BK152.out 3⟩ (fun hHeld => ?_)
                         clear hK K
                         refine norm_ (a' := ?_) ?_ ?_
                         rotate_left
                         ·show Act.put _ (some 13) _ = _
                          simp only [Act.put, List.setIfInBounds_toArray, List.set_cons_zero, List.set_cons_succ, i64_w, i32_w]
                          rfl
                         exact norm_ (by simp only [putAll, Act.put, List.setIfInBounds_toArray, List.set_cons_zero, List.set_cons_succ]) (hCont (v154, .slice Ao97 y156.length co97, gb159) _ ⟨hHeld, (lR HO158.out), (lR HO_6.out), (by (with_reducible repeat (first | apply Kd.S_alloc | apply Kd.S_drewN | apply Kd.S_drew)); exact Kd.S_mono HO_9.out (fun _ hk => ⟨hk.1.2, ⟨hk.1.1, hk.2⟩⟩)), (lK BK152.out), (lK BK159.out), GW159.out, GE159.out, NB152_159.out, NB159_152.out, lB⟩)
                        ·skip
                         refine box_step ?hg (N := 13) ?hd (cs := #[.slice none 0 0, .int .i64 0, .int .i64 0, .int .i64 0]) (t := 99) ?hr ?_; (case hd => rfl); (case hg => rfl); (case hr => first | (go_simp; done) | (go_simp; rfl))
                         intro gb159 hg w96 hbox hb
                         have n0_ := Aside0.mk (Kd.R_below (lR HO_6.out) hb)
                         have n1_ := Aside0.mk (Kd.S_below (Kd.S_elderB (lS HO_9.out) gb159 (Nat.le_of_eq hg.symm)) hb)
                         have n2_ := Aside0.mk (Kd.R_below (lR HO155.out) hb)
                         have n3_ := Aside0.mk (blk_below (lK BK152.out) hb)
                         have n4_ := Aside0.mk (below_step lB hb)
                         have n5_ := Aside0.mk (hbox)
                         have n6_ := lG w hg
                         have n7_ := lG w hg
                         have n8_ := Aside0.mk ((by rw [hg]; exact Nat.ne_of_lt (blk_lt (lK BK152.out)) : gb152 ≠ gb159))
                         have n9_ := Aside0.mk ((by rw [hg]; exact Nat.ne_of_gt (blk_lt (lK BK152.out)) : gb159 ≠ gb152))
                         clear HO_6
                         clear HO_9
                         clear HO155
                         clear BK152
                         clear HB
                         have HO_6 := n0_
                         have HO_9 := n1_
                         have HO155 := n2_
                         have BK152 := n3_
                         have HB := n4_
                         have BK159 := n5_
                         have GW159 := n6_
                         have GE159 := n7_
                         have NB152_159 := n8_
                         have NB159_152 := n9_
                         clear n0_ n1_ n2_ n3_ n4_ n5_ n6_ n7_ n8_ n9_
                         clear hb hbox hg
                         refine hK.out _ _ ⟨bZ BK152.out 0, bZ BK152.out 1, bZ BK152.out 2, bZ BK152.out 3⟩ (fun hHeld => ?_)
                         clear hK K
                         refine norm_ (a' := ?_) ?_ ?_
                         rotate_left
                         ·show Act.put _ (some 13) _ = _
                          simp only [Act.put, List.setIfInBounds_toArray, List.set_cons_zero, List.set_cons_succ, i64_w, i32_w]
                          rfl
                         refine one_ (i := 3) (N := some 52) (bs 9 191) rfl rfl (one_of HT_.out (by kernel_rfl)) (by decide) (fun K hK => ?_)
                         refine Kd.R_append_rows_step k130 (w0 := w) w.heap.size (by rfl) (.tmp 49) (.tmp 51) 97 130 (.agg #[(.int .i64 0), (.int .i64 0), (.int .i64 0), (.int .i64 0), (.int .i64 0)]) 40 rfl Try.underlying97 info130 rfl (by decide) (by omega) v154 y153 ((rd_T99 l0 (rd l1 x41_3)).f0) _ _ _ (fun _ => True) (fun _ => False) rfl rfl ?aO ?aR (fun _ _ h => h) (fun _ h => h.elim) ?aF ?aB ?aS ?aL ?_
                         (case aR => exact lC (Kd.C_below HR151_0.out HB.out))
                         (case aB => exact lB)
                         (case aF => exact (fun _ _ => trivial))
                         (case aO => exact (lR HO155.out))
                         (case aS => exact (below_size lB))
                         (case aL => have := LMc27.out; omega)
                         intro v157 w97 ho hb hg hat
                         rw [← Ny156.out] at ho
                         have n0_ := Aside0.mk (Kd.R_over' (lR HO_6.out) (Kd.R_typed (lR HO155.out)) (by decide) hg)
                         have n1_ := Aside0.mk (Kd.S_after (ok := (fun k_ => k_ ≠ gb152 ∧ k_ ≠ gb159)) (by (with_reducible repeat (first | apply Kd.S_alloc | apply Kd.S_drewN | apply Kd.S_drew)); exact Kd.S_mono HO_9.out (fun _ hk => ⟨⟨hk.1.1, hk.2⟩, hk.1.2⟩)) hg hat)
                         have n2_ := Aside0.mk (blk_grown (lK BK152.out) hg (Kd.R_ne HO155.out BK152.out (by decide)))
                         have n3_ := Aside0.mk (blk_grown (lK BK159.out) hg (Kd.R_ne HO155.out BK159.out (by decide)))
                         have n4_ := Aside0.mk (hb)
                         have n5_ := Aside0.mk (ho)
                         clear HO_6
                         clear HO_9
                         clear BK152
                         clear BK159
                         clear HB
                         clear HO155
                         have HO_6 := n0_
                         have HO_9 := n1_
                         have BK152 := n2_
                         have BK159 := n3_
                         have HB := n4_
                         have HO158 := n5_
                         clear n0_ n1_ n2_ n3_ n4_ n5_
                         clear ho hb hg hat
                         obtain ⟨Ao98, co98, eo98⟩ := Kd.R_slice HO158.out
                         (first | subst eo98 | (injection eo98 with f1_ f2_ f3_; have f4_ := f1_.symm; have f5_ := f3_.symm; clear f1_ f2_ f3_; subst f4_; subst f5_))
                         refine hK.out _ _ ⟨bZ BK152.out 0, bZ BK152.out 1, bZ BK152.out 2, bZ BK152.out 3⟩ (fun hHeld => ?_)
                         clear hK K
                         refine norm_ (a' := ?_) ?_ ?_
                         rotate_left
                         ·show Act.put _ (some 52) _ = _
                          simp only [Act.put, List.setIfInBounds_toArray, List.set_cons_zero, List.set_cons_succ, i64_w, i32_w]
                          rfl
                         refine pur_ 6 55 (bs 9 255) (any_of HT_.out kR) ?_
                         exact norm_ (by simp only [putAll, Act.put, List.setIfInBounds_toArray, List.set_cons_zero, List.set_cons_succ]) (hCont (v154, .slice Ao98 y156.length co98, gb159) _ ⟨hHeld, (lR HO158.out), (lR HO_6.out), (by (with_reducible repeat (first | apply Kd.S_alloc | apply Kd.S_drewN | apply Kd.S_drew)); exact Kd.S_mono HO_9.out (fun _ hk => ⟨hk.2, ⟨hk.1.1, hk.1.2⟩⟩)), (lK BK152.out), (lK BK159.out), GW159.out, GE159.out, NB152_159.out, NB159_152.out, lB⟩)
                       ·skip
                        refine box_step ?hg (N := 13) ?hd (cs := #[.slice none 0 0, .int .i64 0, .int .i64 0, .int .i64 0]) (t := 99) ?hr ?_; (case hd => rfl); (case hg => rfl); (case hr => first | (go_simp; done) | (go_simp; rfl))
                        intro gb159 hg w94 hbox hb
                        have n0_ := Aside0.mk (Kd.R_below (lR HO_6.out) hb)
                        have n1_ := Aside0.mk (Kd.S_below (Kd.S_elderB (lS HO_9.out) gb159 (Nat.le_of_eq hg.symm)) hb)
                        have n2_ := Aside0.mk (blk_below (lK BK152.out) hb)
                        have n3_ := Aside0.mk (below_step lB hb)
                        have n4_ := Aside0.mk (hbox)
                        have n5_ := lG w hg
                        have n6_ := lG w hg
                        have n7_ := Aside0.mk ((by rw [hg]; exact Nat.ne_of_lt (blk_lt (lK BK152.out)) : gb152 ≠ gb159))
                        have n8_ := Aside0.mk ((by rw [hg]; exact Nat.ne_of_gt (blk_lt (lK BK152.out)) : gb159 ≠ gb152))
                        clear HO_6
                        clear HO_9
                        clear BK152
                        clear HB
                        have HO_6 := n0_
                        have HO_9 := n1_
                        have BK152 := n2_
                        have HB := n3_
                        have BK159 := n4_
                        have GW159 := n5_
                        have GE159 := n6_
                        have NB152_159 := n7_
                        have NB159_152 := n8_
                        clear n0_ n1_ n2_ n3_ n4_ n5_ n6_ n7_ n8_
                        clear hb hbox hg
                        refine hK.out _ _ ⟨bZ BK152.out 0, bZ BK152.out 1, bZ BK152.out 2, bZ BK152.out 3⟩ (fun hHeld => ?_)
                        clear hK K
                        refine norm_ (a' := ?_) ?_ ?_
                        rotate_left
                        ·show Act.put _ (some 13) _ = _
                         simp only [Act.put, List.setIfInBounds_toArray, List.set_cons_zero, List.set_cons_succ, i64_w, i32_w]
                         rfl
                        refine one_ (i := 0) (N := some 49) (bs 9 183) rfl rfl (one_of HT_.out (by kernel_rfl)) (by decide) (fun K hK => ?_)
                        refine Kd.R_lit_step k130 _ 130 ?hg (N := 49) ?hd (xs := ([] : List (S130))) (inner := []) (ok := fun _ => True) (okp := fun _ => True) ?hr ?hp (fun _ hk => hk) trivial (Below.refl _ _) (Nat.le_refl _) (by simp) ?_; (case hd => rfl); (case hg => rfl); (case hr => first | (go_simp; done) | (go_simp; rfl)); (case hp => exact (Reps.none _ _))
                        intro v154 w95 ho96 hb hg_ hnew_
                        clear hg_ hnew_
                        (first | rw [← Ny153.out] at ho96 | (simp only [Int.reduceToNat] at ho96; rw [← Ny153.out] at ho96))
                        have n0_ := Aside0.mk (Kd.R_below (lR HO_6.out) hb)
                        have n1_ := Aside0.mk (Kd.S_elder' (lS HO_9.out) (Kd.R_base ho96) hb)
                        have n2_ := Aside0.mk (Kd.R_lower ho96 (below_size lB))
                        have n3_ := Aside0.mk (blk_below (lK BK152.out) hb)
                        have n4_ := Aside0.mk (blk_below (lK BK159.out) hb)
                        have n5_ := Aside0.mk (below_step lB hb)
                        clear HO_6
                        clear HO_9
                        clear BK152
                        clear BK159
                        clear HB
                        have HO_6 := n0_
                        have HO_9 := n1_
                        have HO155 := n2_
                        have BK152 := n3_
                        have BK159 := n4_
                        have HB := n5_
                        clear n0_ n1_ n2_ n3_ n4_ n5_
                        clear hb ho96
                        refine hK.out _ _ ⟨bZ BK152.out 0, bZ BK152.out 1, bZ BK152.out 2, bZ BK152.out 3⟩ (fun hHeld => ?_)
                        clear hK K
                        refine norm_ (a' := ?_) ?_ ?_
                        rotate_left
                        ·show Act.put _ (some 49) _ = _
                         simp only [Act.put, List.setIfInBounds_toArray, List.set_cons_zero, List.set_cons_succ, i64_w, i32_w]
                         rfl
                        refine one_ (i := 3) (N := some 52) (bs 9 191) rfl rfl (one_of HT_.out (by kernel_rfl)) (by decide) (fun K hK => ?_)
                        refine Kd.R_append_rows_step k130 (w0 := w) w.heap.size (by rfl) (.tmp 49) (.tmp 51) 97 130 (.agg #[(.int .i64 0), (.int .i64 0), (.int .i64 0), (.int .i64 0), (.int .i64 0)]) 40 rfl Try.underlying97 info130 rfl (by decide) (by omega) v154 y153 ((rd_T99 l0 (rd l1 x41_3)).f0) _ _ _ (fun _ => True) (fun _ => False) rfl rfl ?aO ?aR (fun _ _ h => h) (fun _ h => h.elim) ?aF ?aB ?aS ?aL ?_
                        (case aR => exact lC (Kd.C_below HR151_0.out HB.out))
                        (case aB => exact lB)
                        (case aF => exact (fun _ _ => trivial))
                        (case aO => exact (lR HO155.out))
                        (case aS => exact (below_size lB))
                        (case aL => have := LMc27.out; omega)
                        intro v157 w97 ho hb hg hat
                        rw [← Ny156.out] at ho
                        have n0_ := Aside0.mk (Kd.R_over' (lR HO_6.out) (Kd.R_typed (lR HO155.out)) (by decide) hg)
                        have n1_ := Aside0.mk (Kd.S_after (ok := (fun k_ => k_ ≠ gb152 ∧ k_ ≠ gb159)) (lS HO_9.out) hg hat)
                        have n2_ := Aside0.mk (blk_grown (lK BK152.out) hg (Kd.R_ne HO155.out BK152.out (by decide)))
                        have n3_ := Aside0.mk (blk_grown (lK BK159.out) hg (Kd.R_ne HO155.out BK159.out (by decide)))
                        have n4_ := Aside0.mk (hb)
                        have n5_ := Aside0.mk (ho)
                        clear HO_6
                        clear HO_9
                        clear BK152
                        clear BK159
                        clear HB
                        clear HO155
                        have HO_6 := n0_
                        have HO_9 := n1_
                        have BK152 := n2_
                        have BK159 := n3_
                        have HB := n4_
                        have HO158 := n5_
                        clear n0_ n1_ n2_ n3_ n4_ n5_
                        clear ho hb hg hat
                        obtain ⟨Ao98, co98, eo98⟩ := Kd.R_slice HO158.out
                        (first | subst eo98 | (injection eo98 with f1_ f2_ f3_; have f4_ := f1_.symm; have f5_ := f3_.symm; clear f1_ f2_ f3_; subst f4_; subst f5_))
                        refine hK.out _ _ ⟨bZ BK152.out 0, bZ BK152.out 1, bZ BK152.out 2, bZ BK152.out 3⟩ (fun hHeld => ?_)
                        clear hK K
                        refine norm_ (a' := ?_) ?_ ?_
                        rotate_left
                        ·show Act.put _ (some 52) _ = _
                         simp only [Act.put, List.setIfInBounds_toArray, List.set_cons_zero, List.set_cons_succ, i64_w, i32_w]
                         rfl
                        refine pur_ 6 55 (bs 9 255) (any_of HT_.out kR) ?_
                        exact norm_ (by simp only [putAll, Act.put, List.setIfInBounds_toArray, List.set_cons_zero, List.set_cons_succ]) (hCont (v154, .slice Ao98 y156.length co98, gb159) _ ⟨hHeld, (lR HO158.out), (lR HO_6.out), (by (with_reducible repeat (first | apply Kd.S_alloc | apply Kd.S_drewN | apply Kd.S_drew)); exact Kd.S_mono HO_9.out (fun _ hk => ⟨hk.2, ⟨hk.1.1, hk.1.2⟩⟩)), (lK BK152.out), (lK BK159.out), GW159.out, GE159.out, NB152_159.out, NB159_152.out, lB⟩)
                      rintro ⟨v154, v157, gb159⟩ w99 ⟨hS_, h0_, h1_, h2_, h3_, h4_, h5_, h6_, h7_, h8_, h9_⟩
                      have n0_ : Aside0 (Kd.R k130 130 w99 w.heap.size (fun _ => True) v157 y156) := ⟨h0_⟩
                      have n1_ : Aside0 (Kd.R (Kd.int .i64) 3 w99 w.heap.size (fun _ => True) v146 x6_2) := ⟨h1_⟩
                      have n2_ : Aside0 (Kd.S k99 99 w99 w.heap.size (fun k_ => some k_ ≠ (v157 : Value).ownBlock ∧ k_ ≠ gb152 ∧ k_ ≠ gb159) u9 x9_3) := ⟨h2_⟩
                      have n3_ : Aside0 (w99.heap[gb152]? = some (.cells #[.slice A151_0 ((rd_T99 l0 (rd l1 x41_3)).f0).length c151_0, .int .i64 ((rd_T99 l0 (rd l1 x41_3)).f1), .int .i64 ((rd_T99 l0 (rd l1 x41_3)).f2), .int .i64 ((rd_T99 l0 (rd l1 x41_3)).f3)] 99 (0, 0))) := ⟨h3_⟩
                      have n4_ : Aside0 (w99.heap[gb159]? = some (.cells #[.slice none 0 0, .int .i64 0, .int .i64 0, .int .i64 0] 99 (0, 0))) := ⟨h4_⟩
                      have n5_ : Aside0 (w.heap.size ≤ gb159) := ⟨h5_⟩
                      have n6_ : Aside0 (w.heap.size ≤ gb159) := ⟨h6_⟩
                      have n7_ : Aside0 (gb152 ≠ gb159) := ⟨h7_⟩
                      have n8_ : Aside0 (gb159 ≠ gb152) := ⟨h8_⟩
                      have n9_ : Aside0 (Below w.heap.size w w99) := ⟨h9_⟩
                      clear HO_6
                      clear HO_9
                      clear BK152
                      clear HB
                      clear h0_ h1_ h2_ h3_ h4_ h5_ h6_ h7_ h8_ h9_
                      have HO158 := n0_
                      have HO_6 := n1_
                      have HO_9 := n2_
                      have BK152 := n3_
                      have BK159 := n4_
                      have GW159 := n5_
                      have GE159 := n6_
                      have NB152_159 := n7_
                      have NB159_152 := n8_
                      have HB := n9_
                      clear n0_ n1_ n2_ n3_ n4_ n5_ n6_ n7_ n8_ n9_
                      have hHeld : w99.cell? ⟨gb152, 0, none⟩ = some (.slice A151_0 ((rd_T99 l0 (rd l1 x41_3)).f0).length c151_0) ∧ w99.cell? ⟨gb152, 1, none⟩ = some (.int .i64 ((rd_T99 l0 (rd l1 x41_3)).f1)) ∧ w99.cell? ⟨gb152, 2, none⟩ = some (.int .i64 ((rd_T99 l0 (rd l1 x41_3)).f2)) ∧ w99.cell? ⟨gb152, 3, none⟩ = some (.int .i64 ((rd_T99 l0 (rd l1 x41_3)).f3)) := hS_
                      obtain ⟨Ao100, co100, eo100⟩ := Kd.R_slice HO158.out
                      (first | subst eo100 | (injection eo100 with f1_ f2_ f3_; have f4_ := f1_.symm; have f5_ := f3_.symm; clear f1_ f2_ f3_; subst f4_; subst f5_))
                      refine norm_ (a' := ?_) ?_ ?_
                      rotate_left
                      ·simp only [putAll, Act.put, List.setIfInBounds_toArray, List.set_cons_zero, List.set_cons_succ]
                       rfl
                      refine one_ (i := 8) (N := none) (bs 9 511) rfl rfl (one_of HT_.out (by kernel_rfl)) (by decide) (fun K hK => ?_)
                      have hs101 : w99.cell? ⟨gb159, 0, none⟩ = some (.slice none 0 0) := bZ BK159.out 0
                      have hfs101 := blk_frozen BK159.out 0
                      have hns101_0 := NB152_159.out
                      have hms101_0 := NB159_152.out
                      have hs102 : w99.cell? ⟨gb159, 1, none⟩ = some (.int .i64 0) := bZ BK159.out 1
                      have hfs102 := blk_frozen BK159.out 1
                      have hns102_0 := NB152_159.out
                      have hms102_0 := NB159_152.out
                      have hs103 : w99.cell? ⟨gb159, 2, none⟩ = some (.int .i64 0) := bZ BK159.out 2
                      have hfs103 := blk_frozen BK159.out 2
                      have hns103_0 := NB152_159.out
                      have hms103_0 := NB159_152.out
                      have hs104 : w99.cell? ⟨gb159, 3, none⟩ = some (.int .i64 0) := bZ BK159.out 3
                      have hfs104 := blk_frozen BK159.out 3
                      have hns104_0 := NB152_159.out
                      have hms104_0 := NB159_152.out
                      refine skip_ (w1 := ?_) (by rfl) rfl ?_ ?_
                      rotate_left
                      ·go_simp
                       rfl
                      refine hK.out _ _ ⟨((cell_far (p := ⟨gb159, _, none⟩) NB152_159.out _).trans (((cell_far (p := ⟨gb159, _, none⟩) NB152_159.out _).trans (((cell_far (p := ⟨gb159, _, none⟩) NB152_159.out _).trans (((cell_far (p := ⟨gb159, _, none⟩) NB152_159.out _).trans (hHeld.1)))))))), ((cell_far (p := ⟨gb159, _, none⟩) NB152_159.out _).trans (((cell_far (p := ⟨gb159, _, none⟩) NB152_159.out _).trans (((cell_far (p := ⟨gb159, _, none⟩) NB152_159.out _).trans (((cell_far (p := ⟨gb159, _, none⟩) NB152_159.out _).trans (hHeld.2.1)))))))), ((cell_far (p := ⟨gb159, _, none⟩) NB152_159.out _).trans (((cell_far (p := ⟨gb159, _, none⟩) NB152_159.out _).trans (((cell_far (p := ⟨gb159, _, none⟩) NB152_159.out _).trans (((cell_far (p := ⟨gb159, _, none⟩) NB152_159.out _).trans (hHeld.2.2.1)))))))), ((cell_far (p := ⟨gb159, _, none⟩) NB152_159.out _).trans (((cell_far (p := ⟨gb159, _, none⟩) NB152_159.out _).trans (((cell_far (p := ⟨gb159, _, none⟩) NB152_159.out _).trans (((cell_far (p := ⟨gb159, _, none⟩) NB152_159.out _).trans (hHeld.2.2.2))))))))⟩ (fun hHeld => ?_)
                      clear hK K
                      refine done_ (done_of HT_.out (by kernel_rfl)) ?_
                      have n0_ : Aside0 (Kd.R (Kd.int .i64) 3 ((((w99.setCell ⟨gb159, 0, none⟩ (.slice Ao100 y156.length co100)).setCell ⟨gb159, 1, none⟩ (.int .i64 ((rd_T99 l0 (rd l1 x41_3)).f1))).setCell ⟨gb159, 2, none⟩ (.int .i64 (-1))).setCell ⟨gb159, 3, none⟩ (.int .i64 (-1))) w.heap.size (fun _ => True) v146 x6_2) := ⟨by (with_reducible repeat (first | apply Kd.R_alloc | apply Kd.R_drewN | apply Kd.R_drew)); exact Kd.R_mono (Kd.R_far (p := ⟨gb159, 3, none⟩) (Kd.R_far (p := ⟨gb159, 2, none⟩) (Kd.R_far (p := ⟨gb159, 1, none⟩) (Kd.R_far (p := ⟨gb159, 0, none⟩) (Kd.R_types HO_6.out BK159.out (by decide)) (fun _ hk => hk.2) (.slice Ao100 y156.length co100)) (fun _ hk => hk.2) (.int .i64 ((rd_T99 l0 (rd l1 x41_3)).f1))) (fun _ hk => hk.2) (.int .i64 (-1))) (fun _ hk => hk.2) (.int .i64 (-1))) (fun _ hk => trivial)⟩
                      have n1_ : Aside0 (Kd.S k99 99 ((((w99.setCell ⟨gb159, 0, none⟩ (.slice Ao100 y156.length co100)).setCell ⟨gb159, 1, none⟩ (.int .i64 ((rd_T99 l0 (rd l1 x41_3)).f1))).setCell ⟨gb159, 2, none⟩ (.int .i64 (-1))).setCell ⟨gb159, 3, none⟩ (.int .i64 (-1))) w.heap.size (fun k_ => some k_ ≠ (.slice Ao100 y156.length co100 : Value).ownBlock ∧ k_ ≠ gb152 ∧ k_ ≠ gb159) u9 x9_3) := ⟨by (with_reducible repeat (first | apply Kd.S_alloc | apply Kd.S_drewN | apply Kd.S_drew)); exact Kd.S_mono (Kd.S_far (p := ⟨gb159, 3, none⟩) (Kd.S_far (p := ⟨gb159, 2, none⟩) (Kd.S_far (p := ⟨gb159, 1, none⟩) (Kd.S_far (p := ⟨gb159, 0, none⟩) (Kd.S_mono HO_9.out (fun k_ hk => (⟨hk, hk.2.2⟩ : _ ∧ k_ ≠ gb159))) (fun _ hk => hk.2) (.slice Ao100 y156.length co100)) (fun _ hk => hk.2) (.int .i64 ((rd_T99 l0 (rd l1 x41_3)).f1))) (fun _ hk => hk.2) (.int .i64 (-1))) (fun _ hk => hk.2) (.int .i64 (-1))) (fun _ hk => ⟨hk.1.1, ⟨hk.1.2.1, hk.1.2.2⟩⟩)⟩
                      have n2_ : Aside0 (Kd.R k130 130 ((((w99.setCell ⟨gb159, 0, none⟩ (.slice Ao100 y156.length co100)).setCell ⟨gb159, 1, none⟩ (.int .i64 ((rd_T99 l0 (rd l1 x41_3)).f1))).setCell ⟨gb159, 2, none⟩ (.int .i64 (-1))).setCell ⟨gb159, 3, none⟩ (.int .i64 (-1))) w.heap.size (fun _ => True) (.slice Ao100 y156.length co100) y156) := ⟨by (with_reducible repeat (first | apply Kd.R_alloc | apply Kd.R_drewN | apply Kd.R_drew)); exact Kd.R_mono (Kd.R_far (p := ⟨gb159, 3, none⟩) (Kd.R_far (p := ⟨gb159, 2, none⟩) (Kd.R_far (p := ⟨gb159, 1, none⟩) (Kd.R_far (p := ⟨gb159, 0, none⟩) (Kd.R_types HO158.out BK159.out (by decide)) (fun _ hk => hk.2) (.slice Ao100 y156.length co100)) (fun _ hk => hk.2) (.int .i64 ((rd_T99 l0 (rd l1 x41_3)).f1))) (fun _ hk => hk.2) (.int .i64 (-1))) (fun _ hk => hk.2) (.int .i64 (-1))) (fun _ hk => trivial)⟩
                      have n3_ : Aside0 (((((w99.setCell ⟨gb159, 0, none⟩ (.slice Ao100 y156.length co100)).setCell ⟨gb159, 1, none⟩ (.int .i64 ((rd_T99 l0 (rd l1 x41_3)).f1))).setCell ⟨gb159, 2, none⟩ (.int .i64 (-1))).setCell ⟨gb159, 3, none⟩ (.int .i64 (-1))).heap[gb152]? = some (.cells #[.slice A151_0 ((rd_T99 l0 (rd l1 x41_3)).f0).length c151_0, .int .i64 ((rd_T99 l0 (rd l1 x41_3)).f1), .int .i64 ((rd_T99 l0 (rd l1 x41_3)).f2), .int .i64 ((rd_T99 l0 (rd l1 x41_3)).f3)] 99 (0, 0))) := ⟨lJ BK152.out⟩
                      have n4_ : Aside0 (((((w99.setCell ⟨gb159, 0, none⟩ (.slice Ao100 y156.length co100)).setCell ⟨gb159, 1, none⟩ (.int .i64 ((rd_T99 l0 (rd l1 x41_3)).f1))).setCell ⟨gb159, 2, none⟩ (.int .i64 (-1))).setCell ⟨gb159, 3, none⟩ (.int .i64 (-1))).heap[gb159]? = some (.cells #[.slice Ao100 y156.length co100, .int .i64 ((rd_T99 l0 (rd l1 x41_3)).f1), .int .i64 (-1), .int .i64 (-1)] 99 (0, 0))) := ⟨by (with_reducible repeat first | apply bN | apply bD | apply bA); refine blk_put (cs := #[.slice Ao100 y156.length co100, .int .i64 ((rd_T99 l0 (rd l1 x41_3)).f1), .int .i64 (-1), .int .i64 0]) ?_ 3 _ rfl; (with_reducible repeat first | apply bN | apply bD | apply bA); refine blk_put (cs := #[.slice Ao100 y156.length co100, .int .i64 ((rd_T99 l0 (rd l1 x41_3)).f1), .int .i64 0, .int .i64 0]) ?_ 2 _ rfl; (with_reducible repeat first | apply bN | apply bD | apply bA); refine blk_put (cs := #[.slice Ao100 y156.length co100, .int .i64 0, .int .i64 0, .int .i64 0]) ?_ 1 _ rfl; (with_reducible repeat first | apply bN | apply bD | apply bA); refine blk_put (cs := #[.slice none 0 0, .int .i64 0, .int .i64 0, .int .i64 0]) ?_ 0 _ rfl; (with_reducible repeat first | apply bN | apply bD | apply bA); exact BK159.out⟩
                      have n5_ : Aside0 (Below w.heap.size w ((((w99.setCell ⟨gb159, 0, none⟩ (.slice Ao100 y156.length co100)).setCell ⟨gb159, 1, none⟩ (.int .i64 ((rd_T99 l0 (rd l1 x41_3)).f1))).setCell ⟨gb159, 2, none⟩ (.int .i64 (-1))).setCell ⟨gb159, 3, none⟩ (.int .i64 (-1)))) := ⟨lB⟩
                      (try clear HO_6)
                      (try clear HO_9)
                      (try clear HO158)
                      (try clear BK152)
                      (try clear BK159)
                      (try clear HB)
                      generalize ((((w99.setCell ⟨gb159, 0, none⟩ (.slice Ao100 y156.length co100)).setCell ⟨gb159, 1, none⟩ (.int .i64 ((rd_T99 l0 (rd l1 x41_3)).f1))).setCell ⟨gb159, 2, none⟩ (.int .i64 (-1))).setCell ⟨gb159, 3, none⟩ (.int .i64 (-1))) = w105 at n0_ n1_ n2_ n3_ n4_ n5_ ⊢
                      have HO_6 := n0_
                      have HO_9 := n1_
                      have HO158 := n2_
                      have BK152 := n3_
                      have BK159 := n4_
                      have HB := n5_
                      clear n0_ n1_ n2_ n3_ n4_ n5_
                      have hnb106 := NB152_159.out
                      have hnc106 := NB159_152.out
                      obtain ⟨hcz107_0, hfz107_0, hcz107_1, hfz107_1, hcz107_2, hfz107_2, hcz107_3, hfz107_3⟩ := bk4 BK152.out
                      obtain ⟨Ao108, co108, eo108⟩ := Kd.R_slice HO_6.out
                      subst eo108
                      have p168 : 0 ≤ (((rd_T99 l0 (rd l1 x41_3)).f3) : Int) := lD
                      have q168 : ((rd_T99 l0 (rd l1 x41_3)).f3) < (x6_2.length : Int) := lD
                      obtain ⟨ad168, e168, hx168_0⟩ := Kd.at_int (Kd.R_reads' HO_6.out).2.2 ((rd_T99 l0 (rd l1 x41_3)).f3) p168 q168
                      cases e168
                      replace p168 := eq_true p168
                      replace q168 := eq_true q168
                      obtain ⟨hcz109_0, hfz109_0, hcz109_1, hfz109_1, hcz109_2, hfz109_2, hcz109_3, hfz109_3⟩ := bk4 BK159.out
                      try go_wp2_with (first | ((with_reducible refine gate_store (t := 3) (p := 73) rfl ?_); refine store_event (t := 3) (p := 73) (v := ?vo_w110) (w1 := (w105.setCell ⟨gb159, 3, none⟩ (.int .i64 (rd x6_2 ((rd_T99 l0 (rd l1 x41_3)).f3))))) ?hg ?ho ?hn ?hr ?_; (case ho => rfl); (case hg => rfl); (case hn => rfl); (case hr => first | (go_simp; done) | (go_simp; rfl)); intro w110 hw; have n0_ : Aside0 (Kd.R (Kd.int .i64) 3 w110 w.heap.size (fun _ => True) (.slice (some ad168) x6_2.length co108) x6_2) := ⟨(by rw [hw]; exact (by (with_reducible repeat (first | apply Kd.R_alloc | apply Kd.R_drewN | apply Kd.R_drew)); exact Kd.R_mono (Kd.R_far (p := ⟨gb159, 3, none⟩) (Kd.R_types HO_6.out BK159.out (by decide)) (fun _ hk => hk.2) (.int .i64 (rd x6_2 ((rd_T99 l0 (rd l1 x41_3)).f3)))) (fun _ hk => trivial)))⟩; have n1_ : Aside0 (Kd.S k99 99 w110 w.heap.size (fun k_ => some k_ ≠ (.slice Ao100 y156.length co100 : Value).ownBlock ∧ k_ ≠ gb152 ∧ k_ ≠ gb159) u9 x9_3) := ⟨(by rw [hw]; exact (by (with_reducible repeat (first | apply Kd.S_alloc | apply Kd.S_drewN | apply Kd.S_drew)); exact Kd.S_mono (Kd.S_far (p := ⟨gb159, 3, none⟩) (Kd.S_mono HO_9.out (fun k_ hk => (⟨hk, hk.2.2⟩ : _ ∧ k_ ≠ gb159))) (fun _ hk => hk.2) (.int .i64 (rd x6_2 ((rd_T99 l0 (rd l1 x41_3)).f3)))) (fun _ hk => ⟨hk.1.1, ⟨hk.1.2.1, hk.1.2.2⟩⟩)))⟩; have n2_ : Aside0 (Kd.R k130 130 w110 w.heap.size (fun _ => True) (.slice Ao100 y156.length co100) y156) := ⟨(by rw [hw]; exact (by (with_reducible repeat (first | apply Kd.R_alloc | apply Kd.R_drewN | apply Kd.R_drew)); exact Kd.R_mono (Kd.R_far (p := ⟨gb159, 3, none⟩) (Kd.R_types HO158.out BK159.out (by decide)) (fun _ hk => hk.2) (.int .i64 (rd x6_2 ((rd_T99 l0 (rd l1 x41_3)).f3)))) (fun _ hk => trivial)))⟩; have n3_ : Aside0 (w110.heap[gb152]? = some (.cells #[.slice A151_0 ((rd_T99 l0 (rd l1 x41_3)).f0).length c151_0, .int .i64 ((rd_T99 l0 (rd l1 x41_3)).f1), .int .i64 ((rd_T99 l0 (rd l1 x41_3)).f2), .int .i64 ((rd_T99 l0 (rd l1 x41_3)).f3)] 99 (0, 0))) := ⟨(by rw [hw]; exact (lJ BK152.out))⟩; have n4_ : Aside0 (w110.heap[gb159]? = some (.cells #[.slice Ao100 y156.length co100, .int .i64 ((rd_T99 l0 (rd l1 x41_3)).f1), .int .i64 (-1), .int .i64 (rd x6_2 ((rd_T99 l0 (rd l1 x41_3)).f3))] 99 (0, 0))) := ⟨(by rw [hw]; exact (by (with_reducible repeat first | apply bN | apply bD | apply bA); refine blk_put (cs := #[.slice Ao100 y156.length co100, .int .i64 ((rd_T99 l0 (rd l1 x41_3)).f1), .int .i64 (-1), .int .i64 (-1)]) ?_ 3 _ rfl; (with_reducible repeat first | apply bN | apply bD | apply bA); exact BK159.out))⟩; have n5_ : Aside0 (Below w.heap.size w w110) := ⟨(by rw [hw]; exact lB)⟩; clear hw; clear HO_6; clear HO_9; clear HO158; clear BK152; clear BK159; clear HB; have HO_6 := n0_; have HO_9 := n1_; have HO158 := n2_; have BK152 := n3_; have BK159 := n4_; have HB := n5_; clear n0_ n1_ n2_ n3_ n4_ n5_; obtain ⟨hcz111_0, hfz111_0, hcz111_1, hfz111_1, hcz111_2, hfz111_2, hcz111_3, hfz111_3⟩ := bk4 BK159.out) | ((with_reducible refine gate_builtin (b := .append) (xs := #[.tmp 74, .tmp 76]) rfl ?_); (try (refine gate_guard (by rfl) ?_; dsimp only)); at_builtin; refine Kd.S_append k99 (w0 := w) w.heap.size rfl (.tmp 74) (.tmp 76) 57 99 (.agg #[(.slice none 0 0), (.int .i64 0), (.int .i64 0), (.int .i64 0)]) 48 rfl Try.underlying57 info99 rfl (by decide) (by omega) u9 x9_3 (⟨y156, (rd_T99 l0 (rd l1 x41_3)).f1, (-1), rd x6_2 ((rd_T99 l0 (rd l1 x41_3)).f3)⟩ : S99) [.slice Ao100 y156.length co100, .int .i64 ((rd_T99 l0 (rd l1 x41_3)).f1), .int .i64 (-1), .int .i64 (rd x6_2 ((rd_T99 l0 (rd l1 x41_3)).f3))] (fun k_ => k_ ≠ gb152 ∧ k_ ≠ gb159) (fun k_ => some k_ = (.slice Ao100 y156.length co100 : Value).ownBlock) rfl rfl ?aP (fun k_ hk_ => ((Kd.R_mono (ok' := fun k_ => ((fun k_ => k_ ≠ gb152 ∧ k_ ≠ gb159)) k_ ∧ some k_ ≠ (u9 : Value).ownBlock) (Kd.R_types (Kd.R_types (Kd.R_apart' (HO158.out) (Kd.S_typed HO_9.out) (by decide)) BK152.out (by decide)) BK159.out (by decide)) (fun k_ hk => ⟨⟨hk.1.2, hk.2⟩, hk.1.1.2⟩))).1 k_ hk_.symm) ?aF ?aO ?aB ?aS ?aL ?_; (case aP => exact k99_mkM _ _ _ (⟨y156, (rd_T99 l0 (rd l1 x41_3)).f1, (-1), rd x6_2 ((rd_T99 l0 (rd l1 x41_3)).f3)⟩ : S99) (Kd.R_mono (Kd.R_tight rfl (Kd.R_mono (ok' := fun k_ => ((fun k_ => k_ ≠ gb152 ∧ k_ ≠ gb159)) k_ ∧ some k_ ≠ (u9 : Value).ownBlock) (Kd.R_types (Kd.R_types (Kd.R_apart' (HO158.out) (Kd.S_typed HO_9.out) (by decide)) BK152.out (by decide)) BK159.out (by decide)) (fun k_ hk => ⟨⟨hk.1.2, hk.2⟩, hk.1.1.2⟩))) (fun _ h_ => h_))); (case aB => exact lB); (case aF => exact (fun k_ hk => ⟨Kd.freshB (lK BK152.out) k_ hk, Kd.freshB (lK BK159.out) k_ hk⟩)); (case aO => exact (by (with_reducible repeat (first | apply Kd.S_alloc | apply Kd.S_drewN | apply Kd.S_drew)); exact Kd.S_mono HO_9.out (fun k_ hk => ⟨⟨hk.2.1, hk.2.2⟩, fun e_ => hk.1 e_⟩))); (case aS => exact (below_size lB)); (case aL => have := LMc89.out; omega); intro v170 w112 ho hb hg hat; rw [← Ny169.out] at ho; have n0_ := Aside0.mk (Kd.R_over' (lR HO_6.out) (Kd.S_typed (lS HO_9.out)) (by decide) hg); have n1_ := Aside0.mk (blk_grown (lK BK152.out) hg (Kd.S_away HO_9.out (fun _ hk => hk.2.1))); have n2_ := Aside0.mk (blk_grown (lK BK159.out) hg (Kd.S_away HO_9.out (fun _ hk => hk.2.2))); have n3_ := Aside0.mk (hb); have n4_ := Aside0.mk (ho); clear HO_6; clear BK152; clear BK159; clear HB; clear HO_9; clear HO158; have HO_6 := n0_; have BK152 := n1_; have BK159 := n2_; have HB := n3_; have HO171 := n4_; clear n0_ n1_ n2_ n3_ n4_; clear ho hb hg hat))
                      go_roundg k3
                      case measure => have := HJ2.out; have := HK2.out; have := HK3.out; omega
                      case rel => exact ⟨(y169), (wrap64 (x41_3 + 1)), lF, H', ⟨by have := HJ2.out; have := HK2.out; have := HK3.out; omega⟩, ⟨lR HO_6.out⟩, ⟨by (with_reducible repeat (first | apply Kd.S_alloc | apply Kd.S_drewN | apply Kd.S_drew)); exact Kd.S_mono HO171.out (fun _ hk => trivial)⟩, ⟨lB⟩⟩
                     ·rw [if_neg c89] at H
                      exact absurd H (by simp)
                    ·rw [if_neg c88] at H
                     exact absurd H (by simp)
                   ·rw [if_neg c87] at H
                    exact absurd H (by simp)
                  ·rw [if_neg c86] at H
                   have c86b0 : decide (0 ≤ ((rd_T99 l0 (rd l1 x41_3)).f3)) = false := decide_eq_false c86
                   clear c86
                   by_cases c113 : x9_3.length < 2932031007402
                   ·rw [if_pos c113] at H
                    have LMc113 := Aside0.mk c113
                    clear c113
                    obtain ⟨y172, hy172⟩ : ∃ y_ : List (S99), y_ = (x9_3 ++ [(⟨y156, (rd_T99 l0 (rd l1 x41_3)).f1, (-1), (-1)⟩ : S99)]) := ⟨_, rfl⟩
                    replace H : (spec_LayFlow.l1 k3 l0 x6_2 y172 l1 (l1.length : Int) (wrap64 (x41_3 + 1))) = some (r1, r2) := by first | (rw [hy172]; with_reducible exact H) | (have H2_ := (Option.bind_some _ _).symm.trans H; rw [hy172]; with_reducible exact H2_) | (have H2_ := (Option.bind_some _ _).symm.trans H; with_reducible exact H2_) | with_reducible exact H | (rw [hy172]; exact H) | exact H
                    have Ny172 := Aside0.mk hy172
                    clear hy172
                    have H' := Aside0.mk H
                    clear H
                    have p150 : 0 ≤ (x41_3 : Int) := lD
                    have q150 : x41_3 < (l1.length : Int) := lD
                    obtain ⟨ad150, e150, hx150_0⟩ := Kd.at_int HR1.out x41_3 p150 q150
                    cases e150
                    replace hx150_0 := pw_cell_below HB.out hx150_0
                    replace p150 := eq_true p150
                    replace q150 := eq_true q150
                    have p151 : 0 ≤ ((rd l1 x41_3) : Int) := lD
                    have q151 : (rd l1 x41_3) < (l0.length : Int) := lD
                    obtain ⟨ad151, A151_0, c151_0, e151, hx151_0, hx151_1, hx151_2, hx151_3, hl151_0, hi151_0⟩ := at_T99 HR0.out (rd l1 x41_3) p151 q151
                    cases e151
                    replace hx151_0 := pw_cell_below HB.out hx151_0
                    replace hx151_1 := pw_cell_below HB.out hx151_1
                    replace hx151_2 := pw_cell_below HB.out hx151_2
                    replace hx151_3 := pw_cell_below HB.out hx151_3
                    have HR151_0 := Aside0.mk hi151_0
                    have HC151_0 := Aside0.mk hl151_0
                    clear hi151_0 hl151_0
                    replace p151 := eq_true p151
                    replace q151 := eq_true q151
                    try go_wp2_with (first | ((with_reducible refine gate_dst (N := 12) rfl ?_); (try (refine gate_guard (by rfl) ?_; dsimp only)); refine bxe 12 #[.slice none 0 0, .int .i64 0, .int .i64 0, .int .i64 0] 99 ?_; intro gb152 hg w114 hbox hb; have n0_ := Aside0.mk (Kd.R_below (lR HO_6.out) hb); have n1_ := Aside0.mk (Kd.S_below (Kd.S_elderB (lS HO_9.out) gb152 (Nat.le_of_eq hg.symm)) hb); have n2_ := Aside0.mk (below_step lB hb); have n3_ := Aside0.mk (hbox); have n4_ := lG w hg; have n5_ := lG w hg; clear HO_6; clear HO_9; clear HB; have HO_6 := n0_; have HO_9 := n1_; have HB := n2_; have BK152 := n3_; have GW152 := n4_; have GE152 := n5_; clear n0_ n1_ n2_ n3_ n4_ n5_; clear hb hbox hg; obtain ⟨hcz115_0, hfz115_0, hcz115_1, hfz115_1, hcz115_2, hfz115_2, hcz115_3, hfz115_3⟩ := bk4 BK152.out))
                    have n0_ : Aside0 (Kd.R (Kd.int .i64) 3 ((((w114.setCell ⟨gb152, 0, none⟩ (.slice A151_0 ((rd_T99 l0 (rd l1 x41_3)).f0).length c151_0)).setCell ⟨gb152, 1, none⟩ (.int .i64 ((rd_T99 l0 (rd l1 x41_3)).f1))).setCell ⟨gb152, 2, none⟩ (.int .i64 ((rd_T99 l0 (rd l1 x41_3)).f2))).setCell ⟨gb152, 3, none⟩ (.int .i64 ((rd_T99 l0 (rd l1 x41_3)).f3))) w.heap.size (fun _ => True) v146 x6_2) := ⟨by (with_reducible repeat (first | apply Kd.R_alloc | apply Kd.R_drewN | apply Kd.R_drew)); exact Kd.R_mono (Kd.R_far (p := ⟨gb152, 3, none⟩) (Kd.R_far (p := ⟨gb152, 2, none⟩) (Kd.R_far (p := ⟨gb152, 1, none⟩) (Kd.R_far (p := ⟨gb152, 0, none⟩) (Kd.R_types HO_6.out BK152.out (by decide)) (fun _ hk => hk.2) (.slice A151_0 ((rd_T99 l0 (rd l1 x41_3)).f0).length c151_0)) (fun _ hk => hk.2) (.int .i64 ((rd_T99 l0 (rd l1 x41_3)).f1))) (fun _ hk => hk.2) (.int .i64 ((rd_T99 l0 (rd l1 x41_3)).f2))) (fun _ hk => hk.2) (.int .i64 ((rd_T99 l0 (rd l1 x41_3)).f3))) (fun _ hk => trivial)⟩
                    have n1_ : Aside0 (Kd.S k99 99 ((((w114.setCell ⟨gb152, 0, none⟩ (.slice A151_0 ((rd_T99 l0 (rd l1 x41_3)).f0).length c151_0)).setCell ⟨gb152, 1, none⟩ (.int .i64 ((rd_T99 l0 (rd l1 x41_3)).f1))).setCell ⟨gb152, 2, none⟩ (.int .i64 ((rd_T99 l0 (rd l1 x41_3)).f2))).setCell ⟨gb152, 3, none⟩ (.int .i64 ((rd_T99 l0 (rd l1 x41_3)).f3))) w.heap.size (fun k_ => k_ ≠ gb152) u9 x9_3) := ⟨by (with_reducible repeat (first | apply Kd.S_alloc | apply Kd.S_drewN | apply Kd.S_drew)); exact Kd.S_mono (Kd.S_far (p := ⟨gb152, 3, none⟩) (Kd.S_far (p := ⟨gb152, 2, none⟩) (Kd.S_far (p := ⟨gb152, 1, none⟩) (Kd.S_far (p := ⟨gb152, 0, none⟩) (Kd.S_mono HO_9.out (fun k_ hk => (⟨hk, hk.2⟩ : _ ∧ k_ ≠ gb152))) (fun _ hk => hk.2) (.slice A151_0 ((rd_T99 l0 (rd l1 x41_3)).f0).length c151_0)) (fun _ hk => hk.2) (.int .i64 ((rd_T99 l0 (rd l1 x41_3)).f1))) (fun _ hk => hk.2) (.int .i64 ((rd_T99 l0 (rd l1 x41_3)).f2))) (fun _ hk => hk.2) (.int .i64 ((rd_T99 l0 (rd l1 x41_3)).f3))) (fun _ hk => hk.1.2)⟩
                    have n2_ : Aside0 (((((w114.setCell ⟨gb152, 0, none⟩ (.slice A151_0 ((rd_T99 l0 (rd l1 x41_3)).f0).length c151_0)).setCell ⟨gb152, 1, none⟩ (.int .i64 ((rd_T99 l0 (rd l1 x41_3)).f1))).setCell ⟨gb152, 2, none⟩ (.int .i64 ((rd_T99 l0 (rd l1 x41_3)).f2))).setCell ⟨gb152, 3, none⟩ (.int .i64 ((rd_T99 l0 (rd l1 x41_3)).f3))).heap[gb152]? = some (.cells #[.slice A151_0 ((rd_T99 l0 (rd l1 x41_3)).f0).length c151_0, .int .i64 ((rd_T99 l0 (rd l1 x41_3)).f1), .int .i64 ((rd_T99 l0 (rd l1 x41_3)).f2), .int .i64 ((rd_T99 l0 (rd l1 x41_3)).f3)] 99 (0, 0))) := ⟨by (with_reducible repeat first | apply bN | apply bD | apply bA); refine blk_put (cs := #[.slice A151_0 ((rd_T99 l0 (rd l1 x41_3)).f0).length c151_0, .int .i64 ((rd_T99 l0 (rd l1 x41_3)).f1), .int .i64 ((rd_T99 l0 (rd l1 x41_3)).f2), .int .i64 0]) ?_ 3 _ rfl; (with_reducible repeat first | apply bN | apply bD | apply bA); refine blk_put (cs := #[.slice A151_0 ((rd_T99 l0 (rd l1 x41_3)).f0).length c151_0, .int .i64 ((rd_T99 l0 (rd l1 x41_3)).f1), .int .i64 0, .int .i64 0]) ?_ 2 _ rfl; (with_reducible repeat first | apply bN | apply bD | apply bA); refine blk_put (cs := #[.slice A151_0 ((rd_T99 l0 (rd l1 x41_3)).f0).length c151_0, .int .i64 0, .int .i64 0, .int .i64 0]) ?_ 1 _ rfl; (with_reducible repeat first | apply bN | apply bD | apply bA); refine blk_put (cs := #[.slice none 0 0, .int .i64 0, .int .i64 0, .int .i64 0]) ?_ 0 _ rfl; (with_reducible repeat first | apply bN | apply bD | apply bA); exact BK152.out⟩
                    have n3_ : Aside0 (Below w.heap.size w ((((w114.setCell ⟨gb152, 0, none⟩ (.slice A151_0 ((rd_T99 l0 (rd l1 x41_3)).f0).length c151_0)).setCell ⟨gb152, 1, none⟩ (.int .i64 ((rd_T99 l0 (rd l1 x41_3)).f1))).setCell ⟨gb152, 2, none⟩ (.int .i64 ((rd_T99 l0 (rd l1 x41_3)).f2))).setCell ⟨gb152, 3, none⟩ (.int .i64 ((rd_T99 l0 (rd l1 x41_3)).f3)))) := ⟨lB⟩
                    (try clear HO_6)
                    (try clear HO_9)
                    (try clear BK152)
                    (try clear HB)
                    generalize ((((w114.setCell ⟨gb152, 0, none⟩ (.slice A151_0 ((rd_T99 l0 (rd l1 x41_3)).f0).length c151_0)).setCell ⟨gb152, 1, none⟩ (.int .i64 ((rd_T99 l0 (rd l1 x41_3)).f1))).setCell ⟨gb152, 2, none⟩ (.int .i64 ((rd_T99 l0 (rd l1 x41_3)).f2))).setCell ⟨gb152, 3, none⟩ (.int .i64 ((rd_T99 l0 (rd l1 x41_3)).f3))) = w116 at n0_ n1_ n2_ n3_ ⊢
                    have HO_6 := n0_
                    have HO_9 := n1_
                    have BK152 := n2_
                    have HB := n3_
                    clear n0_ n1_ n2_ n3_
                    have n0_ := Aside0.mk (Kd.R_drew HO_6.out)
                    have n1_ := Aside0.mk (Kd.S_drew HO_9.out)
                    have n2_ := Aside0.mk (blk_drew BK152.out)
                    have n3_ := Aside0.mk (below_drew1 HB.out)
                    clear HO_6
                    clear HO_9
                    clear BK152
                    clear HB
                    have HO_6 := n0_
                    have HO_9 := n1_
                    have BK152 := n2_
                    have HB := n3_
                    clear n0_ n1_ n2_ n3_
                    refine start_ (n := 9) (S := fun w' => w'.cell? ⟨gb152, 0, none⟩ = some (.slice A151_0 ((rd_T99 l0 (rd l1 x41_3)).f0).length c151_0) ∧ w'.cell? ⟨gb152, 1, none⟩ = some (.int .i64 ((rd_T99 l0 (rd l1 x41_3)).f1)) ∧ w'.cell? ⟨gb152, 2, none⟩ = some (.int .i64 ((rd_T99 l0 (rd l1 x41_3)).f2)) ∧ w'.cell? ⟨gb152, 3, none⟩ = some (.int .i64 ((rd_T99 l0 (rd l1 x41_3)).f3))) (ds := []) (bs 9 0) kR rfl kR ⟨bZ BK152.out 0, bZ BK152.out 1, bZ BK152.out 2, bZ BK152.out 3⟩ (fun hHeld => ?_); refine with_tabW spec_LayFlow.tab14 spec_LayFlow.bits14 (fun HT_ HW_ => ?_)
                    generalize w116.drew = w117 at HO_6 HO_9 BK152 HB hHeld ⊢
                    refine pur_ 1 50 (bs 9 2) (any_of HT_.out kR) ?_
                    refine pur_ 4 53 (bs 9 18) (any_of HT_.out kR) ?_
                    refine tak_ 2 51 (bs 9 22) (take_ofW HT_.out HW_.out kR) hHeld ?_
                    refine tak_ 5 54 (bs 9 54) (take_ofW HT_.out HW_.out kR) hHeld ?_
                    refine join_ (σ := Value × Value × Nat) 1 #[true, true, true, true, true, true, true, true, false] (fun s_ => [(49, s_.1), (52, s_.2.1), (13, .pointer (some ⟨s_.2.2, 0, none⟩)), (55, .agg #[s_.2.1, .int .i64 ((rd_T99 l0 (rd l1 x41_3)).f1), .int .i64 (-1), .int .i64 (-1)])]) (fun s_ w' => (w'.cell? ⟨gb152, 0, none⟩ = some (.slice A151_0 ((rd_T99 l0 (rd l1 x41_3)).f0).length c151_0) ∧ w'.cell? ⟨gb152, 1, none⟩ = some (.int .i64 ((rd_T99 l0 (rd l1 x41_3)).f1)) ∧ w'.cell? ⟨gb152, 2, none⟩ = some (.int .i64 ((rd_T99 l0 (rd l1 x41_3)).f2)) ∧ w'.cell? ⟨gb152, 3, none⟩ = some (.int .i64 ((rd_T99 l0 (rd l1 x41_3)).f3))) ∧ (Kd.R k130 130 w' w.heap.size (fun _ => True) s_.2.1 y156) ∧ (Kd.R (Kd.int .i64) 3 w' w.heap.size (fun _ => True) v146 x6_2) ∧ (Kd.S k99 99 w' w.heap.size (fun k_ => some k_ ≠ (s_.2.1 : Value).ownBlock ∧ k_ ≠ gb152 ∧ k_ ≠ s_.2.2) u9 x9_3) ∧ (w'.heap[gb152]? = some (.cells #[.slice A151_0 ((rd_T99 l0 (rd l1 x41_3)).f0).length c151_0, .int .i64 ((rd_T99 l0 (rd l1 x41_3)).f1), .int .i64 ((rd_T99 l0 (rd l1 x41_3)).f2), .int .i64 ((rd_T99 l0 (rd l1 x41_3)).f3)] 99 (0, 0))) ∧ (w'.heap[s_.2.2]? = some (.cells #[.slice none 0 0, .int .i64 0, .int .i64 0, .int .i64 0] 99 (0, 0))) ∧ (w.heap.size ≤ s_.2.2) ∧ (w.heap.size ≤ s_.2.2) ∧ (gb152 ≠ s_.2.2) ∧ (s_.2.2 ≠ gb152) ∧ (Below w.heap.size w w')) ?_ ?_
                    rotate_left
                    ·intro hCont
                     refine two_ (i := 0) (j := 7) (Ni := some 49) (Nj := some 13) (bs 9 55) (bs 9 182) rfl rfl rfl rfl (two_of HT_.out (by kernel_rfl)) (by decide) (by decide) (fun K hK => ?_) (fun K hK => ?_)
                     ·skip
                      refine Kd.R_lit_step k130 _ 130 ?hg (N := 49) ?hd (xs := ([] : List (S130))) (inner := []) (ok := fun _ => True) (okp := fun _ => True) ?hr ?hp (fun _ hk => hk) trivial (Below.refl _ _) (Nat.le_refl _) (by simp) ?_; (case hd => rfl); (case hg => rfl); (case hr => first | (go_simp; done) | (go_simp; rfl)); (case hp => exact (Reps.none _ _))
                      intro v154 w118 ho119 hb hg_ hnew_
                      clear hg_ hnew_
                      (first | rw [← Ny153.out] at ho119 | (simp only [Int.reduceToNat] at ho119; rw [← Ny153.out] at ho119))
                      have n0_ := Aside0.mk (Kd.R_below (lR HO_6.out) hb)
                      have n1_ := Aside0.mk (Kd.S_elder' (lS HO_9.out) (Kd.R_base ho119) hb)
                      have n2_ := Aside0.mk (Kd.R_lower ho119 (below_size lB))
                      have n3_ := Aside0.mk (blk_below (lK BK152.out) hb)
                      have n4_ := Aside0.mk (below_step lB hb)
                      clear HO_6
                      clear HO_9
                      clear BK152
                      clear HB
                      have HO_6 := n0_
                      have HO_9 := n1_
                      have HO155 := n2_
                      have BK152 := n3_
                      have HB := n4_
                      clear n0_ n1_ n2_ n3_ n4_
                      clear hb ho119
                      refine hK.out _ _ ⟨bZ BK152.out 0, bZ BK152.out 1, bZ BK152.out 2, bZ BK152.out 3⟩ (fun hHeld => ?_)
                      clear hK K
                      refine norm_ (a' := ?_) ?_ ?_
                      rotate_left
                      ·show Act.put _ (some 49) _ = _
                       simp only [Act.put, List.setIfInBounds_toArray, List.set_cons_zero, List.set_cons_succ, i64_w, i32_w]
                       rfl
                      refine two_ (i := 3) (j := 7) (Ni := some 52) (Nj := some 13) (bs 9 63) (bs 9 183) rfl rfl rfl rfl (two_of HT_.out (by kernel_rfl)) (by decide) (by decide) (fun K hK => ?_) (fun K hK => ?_)
                      ·skip
                       refine Kd.R_append_rows_step k130 (w0 := w) w.heap.size (by rfl) (.tmp 49) (.tmp 51) 97 130 (.agg #[(.int .i64 0), (.int .i64 0), (.int .i64 0), (.int .i64 0), (.int .i64 0)]) 40 rfl Try.underlying97 info130 rfl (by decide) (by omega) v154 y153 ((rd_T99 l0 (rd l1 x41_3)).f0) _ _ _ (fun _ => True) (fun _ => False) rfl rfl ?aO ?aR (fun _ _ h => h) (fun _ h => h.elim) ?aF ?aB ?aS ?aL ?_
                       (case aR => exact lC (Kd.C_below HR151_0.out HB.out))
                       (case aB => exact lB)
                       (case aF => exact (fun _ _ => trivial))
                       (case aO => exact (lR HO155.out))
                       (case aS => exact (below_size lB))
                       (case aL => have := LMc27.out; omega)
                       intro v157 w120 ho hb hg hat
                       rw [← Ny156.out] at ho
                       have n0_ := Aside0.mk (Kd.R_over' (lR HO_6.out) (Kd.R_typed (lR HO155.out)) (by decide) hg)
                       have n1_ := Aside0.mk (Kd.S_after (ok := (fun k_ => k_ ≠ gb152)) (lS HO_9.out) hg hat)
                       have n2_ := Aside0.mk (blk_grown (lK BK152.out) hg (Kd.R_ne HO155.out BK152.out (by decide)))
                       have n3_ := Aside0.mk (hb)
                       have n4_ := Aside0.mk (ho)
                       clear HO_6
                       clear HO_9
                       clear BK152
                       clear HB
                       clear HO155
                       have HO_6 := n0_
                       have HO_9 := n1_
                       have BK152 := n2_
                       have HB := n3_
                       have HO158 := n4_
                       clear n0_ n1_ n2_ n3_ n4_
                       clear ho hb hg hat
                       obtain ⟨Ao121, co121, eo121⟩ := Kd.R_slice HO158.out
                       (first | subst eo121 | (injection eo121 with f1_ f2_ f3_; have f4_ := f1_.symm; have f5_ := f3_.symm; clear f1_ f2_ f3_; subst f4_; subst f5_))
                       refine hK.out _ _ ⟨bZ BK152.out 0, bZ BK152.out 1, bZ BK152.out 2, bZ BK152.out 3⟩ (fun hHeld => ?_)
                       clear hK K
                       refine norm_ (a' := ?_) ?_ ?_
                       rotate_left
                       ·show Act.put _ (some 52) _ = _
                        simp only [Act.put, List.setIfInBounds_toArray, List.set_cons_zero, List.set_cons_succ, i64_w, i32_w]
                        rfl
                       refine pur_ 6 55 (bs 9 127) (any_of HT_.out kR) ?_
                       refine one_ (i := 7) (N := some 13) (bs 9 255) rfl rfl (one_of HT_.out (by kernel_rfl)) (by decide) (fun K hK => ?_)
                       refine box_step ?hg (N := 13) ?hd (cs := #[.slice none 0 0, .int .i64 0, .int .i64 0, .int .i64 0]) (t := 99) ?hr ?_; (case hd => rfl); (case hg => rfl); (case hr => first | (go_simp; done) | (go_simp; rfl))
                       intro gb159 hg w122 hbox hb
                       have n0_ := Aside0.mk (Kd.R_below (lR HO_6.out) hb)
                       have n1_ := Aside0.mk (Kd.S_below (Kd.S_elderB (lS HO_9.out) gb159 (Nat.le_of_eq hg.symm)) hb)
                       have n2_ := Aside0.mk (Kd.R_below (lR HO158.out) hb)
                       have n3_ := Aside0.mk (blk_below (lK BK152.out) hb)
                       have n4_ := Aside0.mk (below_step lB hb)
                       have n5_ := Aside0.mk (hbox)
                       have n6_ := lG w hg
                       have n7_ := lG w hg
                       have n8_ := Aside0.mk ((by rw [hg]; exact Nat.ne_of_lt (blk_lt (lK BK152.out)) : gb152 ≠ gb159))
                       have n9_ := Aside0.mk ((by rw [hg]; exact Nat.ne_of_gt (blk_lt (lK BK152.out)) : gb159 ≠ gb152))
                       clear HO_6
                       clear HO_9
                       clear HO158
                       clear BK152
                       clear HB
                       have HO_6 := n0_
                       have HO_9 := n1_
                       have HO158 := n2_
                       have BK152 := n3_
                       have HB := n4_
                       have BK159 := n5_
                       have GW159 := n6_
                       have GE159 := n7_
                       have NB152_159 := n8_
                       have NB159_152 := n9_
                       clear n0_ n1_ n2_ n3_ n4_ n5_ n6_ n7_ n8_ n9_
                       clear hb hbox hg
                       refine hK.out _ _ ⟨bZ BK152.out 0, bZ BK152.out 1, bZ BK152.out 2, bZ BK152.out 3⟩ (fun hHeld => ?_)
                       clear hK K
                       refine norm_ (a' := ?_) ?_ ?_
                       rotate_left
                       ·show Act.put _ (some 13) _ = _
                        simp only [Act.put, List.setIfInBounds_toArray, List.set_cons_zero, List.set_cons_succ, i64_w, i32_w]
                        rfl
                       exact norm_ (by simp only [putAll, Act.put, List.setIfInBounds_toArray, List.set_cons_zero, List.set_cons_succ]) (hCont (v154, .slice Ao121 y156.length co121, gb159) _ ⟨hHeld, (lR HO158.out), (lR HO_6.out), (by (with_reducible repeat (first | apply Kd.S_alloc | apply Kd.S_drewN | apply Kd.S_drew)); exact Kd.S_mono HO_9.out (fun _ hk => ⟨hk.1.2, ⟨hk.1.1, hk.2⟩⟩)), (lK BK152.out), (lK BK159.out), GW159.out, GE159.out, NB152_159.out, NB159_152.out, lB⟩)
                      ·skip
                       refine box_step ?hg (N := 13) ?hd (cs := #[.slice none 0 0, .int .i64 0, .int .i64 0, .int .i64 0]) (t := 99) ?hr ?_; (case hd => rfl); (case hg => rfl); (case hr => first | (go_simp; done) | (go_simp; rfl))
                       intro gb159 hg w120 hbox hb
                       have n0_ := Aside0.mk (Kd.R_below (lR HO_6.out) hb)
                       have n1_ := Aside0.mk (Kd.S_below (Kd.S_elderB (lS HO_9.out) gb159 (Nat.le_of_eq hg.symm)) hb)
                       have n2_ := Aside0.mk (Kd.R_below (lR HO155.out) hb)
                       have n3_ := Aside0.mk (blk_below (lK BK152.out) hb)
                       have n4_ := Aside0.mk (below_step lB hb)
                       have n5_ := Aside0.mk (hbox)
                       have n6_ := lG w hg
                       have n7_ := lG w hg
                       have n8_ := Aside0.mk ((by rw [hg]; exact Nat.ne_of_lt (blk_lt (lK BK152.out)) : gb152 ≠ gb159))
                       have n9_ := Aside0.mk ((by rw [hg]; exact Nat.ne_of_gt (blk_lt (lK BK152.out)) : gb159 ≠ gb152))
                       clear HO_6
                       clear HO_9
                       clear HO155
                       clear BK152
                       clear HB
                       have HO_6 := n0_
                       have HO_9 := n1_
                       have HO155 := n2_
                       have BK152 := n3_
                       have HB := n4_
                       have BK159 := n5_
                       have GW159 := n6_
                       have GE159 := n7_
                       have NB152_159 := n8_
                       have NB159_152 := n9_
                       clear n0_ n1_ n2_ n3_ n4_ n5_ n6_ n7_ n8_ n9_
                       clear hb hbox hg
                       refine hK.out _ _ ⟨bZ BK152.out 0, bZ BK152.out 1, bZ BK152.out 2, bZ BK152.out 3⟩ (fun hHeld => ?_)
                       clear hK K
                       refine norm_ (a' := ?_) ?_ ?_
                       rotate_left
                       ·show Act.put _ (some 13) _ = _
                        simp only [Act.put, List.setIfInBounds_toArray, List.set_cons_zero, List.set_cons_succ, i64_w, i32_w]
                        rfl
                       refine one_ (i := 3) (N := some 52) (bs 9 191) rfl rfl (one_of HT_.out (by kernel_rfl)) (by decide) (fun K hK => ?_)
                       refine Kd.R_append_rows_step k130 (w0 := w) w.heap.size (by rfl) (.tmp 49) (.tmp 51) 97 130 (.agg #[(.int .i64 0), (.int .i64 0), (.int .i64 0), (.int .i64 0), (.int .i64 0)]) 40 rfl Try.underlying97 info130 rfl (by decide) (by omega) v154 y153 ((rd_T99 l0 (rd l1 x41_3)).f0) _ _ _ (fun _ => True) (fun _ => False) rfl rfl ?aO ?aR (fun _ _ h => h) (fun _ h => h.elim) ?aF ?aB ?aS ?aL ?_
                       (case aR => exact lC (Kd.C_below HR151_0.out HB.out))
                       (case aB => exact lB)
                       (case aF => exact (fun _ _ => trivial))
                       (case aO => exact (lR HO155.out))
                       (case aS => exact (below_size lB))
                       (case aL => have := LMc27.out; omega)
                       intro v157 w121 ho hb hg hat
                       rw [← Ny156.out] at ho
                       have n0_ := Aside0.mk (Kd.R_over' (lR HO_6.out) (Kd.R_typed (lR HO155.out)) (by decide) hg)
                       have n1_ := Aside0.mk (Kd.S_after (ok := (fun k_ => k_ ≠ gb152 ∧ k_ ≠ gb159)) (by (with_reducible repeat (first | apply Kd.S_alloc | apply Kd.S_drewN | apply Kd.S_drew)); exact Kd.S_mono HO_9.out (fun _ hk => ⟨⟨hk.1.1, hk.2⟩, hk.1.2⟩)) hg hat)
                       have n2_ := Aside0.mk (blk_grown (lK BK152.out) hg (Kd.R_ne HO155.out BK152.out (by decide)))
                       have n3_ := Aside0.mk (blk_grown (lK BK159.out) hg (Kd.R_ne HO155.out BK159.out (by decide)))
                       have n4_ := Aside0.mk (hb)
                       have n5_ := Aside0.mk (ho)
                       clear HO_6
                       clear HO_9
                       clear BK152
                       clear BK159
                       clear HB
                       clear HO155
                       have HO_6 := n0_
                       have HO_9 := n1_
                       have BK152 := n2_
                       have BK159 := n3_
                       have HB := n4_
                       have HO158 := n5_
                       clear n0_ n1_ n2_ n3_ n4_ n5_
                       clear ho hb hg hat
                       obtain ⟨Ao122, co122, eo122⟩ := Kd.R_slice HO158.out
                       (first | subst eo122 | (injection eo122 with f1_ f2_ f3_; have f4_ := f1_.symm; have f5_ := f3_.symm; clear f1_ f2_ f3_; subst f4_; subst f5_))
                       refine hK.out _ _ ⟨bZ BK152.out 0, bZ BK152.out 1, bZ BK152.out 2, bZ BK152.out 3⟩ (fun hHeld => ?_)
                       clear hK K
                       refine norm_ (a' := ?_) ?_ ?_
                       rotate_left
                       ·show Act.put _ (some 52) _ = _
                        simp only [Act.put, List.setIfInBounds_toArray, List.set_cons_zero, List.set_cons_succ, i64_w, i32_w]
                        rfl
                       refine pur_ 6 55 (bs 9 255) (any_of HT_.out kR) ?_
                       exact norm_ (by simp only [putAll, Act.put, List.setIfInBounds_toArray, List.set_cons_zero, List.set_cons_succ]) (hCont (v154, .slice Ao122 y156.length co122, gb159) _ ⟨hHeld, (lR HO158.out), (lR HO_6.out), (by (with_reducible repeat (first | apply Kd.S_alloc | apply Kd.S_drewN | apply Kd.S_drew)); exact Kd.S_mono HO_9.out (fun _ hk => ⟨hk.2, ⟨hk.1.1, hk.1.2⟩⟩)), (lK BK152.out), (lK BK159.out), GW159.out, GE159.out, NB152_159.out, NB159_152.out, lB⟩)
                     ·skip
                      refine box_step ?hg (N := 13) ?hd (cs := #[.slice none 0 0, .int .i64 0, .int .i64 0, .int .i64 0]) (t := 99) ?hr ?_; (case hd => rfl); (case hg => rfl); (case hr => first | (go_simp; done) | (go_simp; rfl))
                      intro gb159 hg w118 hbox hb
                      have n0_ := Aside0.mk (Kd.R_below (lR HO_6.out) hb)
                      have n1_ := Aside0.mk (Kd.S_below (Kd.S_elderB (lS HO_9.out) gb159 (Nat.le_of_eq hg.symm)) hb)
                      have n2_ := Aside0.mk (blk_below (lK BK152.out) hb)
                      have n3_ := Aside0.mk (below_step lB hb)
                      have n4_ := Aside0.mk (hbox)
                      have n5_ := lG w hg
                      have n6_ := lG w hg
                      have n7_ := Aside0.mk ((by rw [hg]; exact Nat.ne_of_lt (blk_lt (lK BK152.out)) : gb152 ≠ gb159))
                      have n8_ := Aside0.mk ((by rw [hg]; exact Nat.ne_of_gt (blk_lt (lK BK152.out)) : gb159 ≠ gb152))
                      clear HO_6
                      clear HO_9
                      clear BK152
                      clear HB
                      have HO_6 := n0_
                      have HO_9 := n1_
                      have BK152 := n2_
                      have HB := n3_
                      have BK159 := n4_
                      have GW159 := n5_
                      have GE159 := n6_
                      have NB152_159 := n7_
                      have NB159_152 := n8_
                      clear n0_ n1_ n2_ n3_ n4_ n5_ n6_ n7_ n8_
                      clear hb hbox hg
                      refine hK.out _ _ ⟨bZ BK152.out 0, bZ BK152.out 1, bZ BK152.out 2, bZ BK152.out 3⟩ (fun hHeld => ?_)
                      clear hK K
                      refine norm_ (a' := ?_) ?_ ?_
                      rotate_left
                      ·show Act.put _ (some 13) _ = _
                       simp only [Act.put, List.setIfInBounds_toArray, List.set_cons_zero, List.set_cons_succ, i64_w, i32_w]
                       rfl
                      refine one_ (i := 0) (N := some 49) (bs 9 183) rfl rfl (one_of HT_.out (by kernel_rfl)) (by decide) (fun K hK => ?_)
                      refine Kd.R_lit_step k130 _ 130 ?hg (N := 49) ?hd (xs := ([] : List (S130))) (inner := []) (ok := fun _ => True) (okp := fun _ => True) ?hr ?hp (fun _ hk => hk) trivial (Below.refl _ _) (Nat.le_refl _) (by simp) ?_; (case hd => rfl); (case hg => rfl); (case hr => first | (go_simp; done) | (go_simp; rfl)); (case hp => exact (Reps.none _ _))
                      intro v154 w119 ho120 hb hg_ hnew_
                      clear hg_ hnew_
                      (first | rw [← Ny153.out] at ho120 | (simp only [Int.reduceToNat] at ho120; rw [← Ny153.out] at ho120))
                      have n0_ := Aside0.mk (Kd.R_below (lR HO_6.out) hb)
                      have n1_ := Aside0.mk (Kd.S_elder' (lS HO_9.out) (Kd.R_base ho120) hb)
                      have n2_ := Aside0.mk (Kd.R_lower ho120 (below_size lB))
                      have n3_ := Aside0.mk (blk_below (lK BK152.out) hb)
                      have n4_ := Aside0.mk (blk_below (lK BK159.out) hb)
                      have n5_ := Aside0.mk (below_step lB hb)
                      clear HO_6
                      clear HO_9
                      clear BK152
                      clear BK159
                      clear HB
                      have HO_6 := n0_
                      have HO_9 := n1_
                      have HO155 := n2_
                      have BK152 := n3_
                      have BK159 := n4_
                      have HB := n5_
                      clear n0_ n1_ n2_ n3_ n4_ n5_
                      clear hb ho120
                      refine hK.out _ _ ⟨bZ BK152.out 0, bZ BK152.out 1, bZ BK152.out 2, bZ BK152.out 3⟩ (fun hHeld => ?_)
                      clear hK K
                      refine norm_ (a' := ?_) ?_ ?_
                      rotate_left
                      ·show Act.put _ (some 49) _ = _
                       simp only [Act.put, List.setIfInBounds_toArray, List.set_cons_zero, List.set_cons_succ, i64_w, i32_w]
                       rfl
                      refine one_ (i := 3) (N := some 52) (bs 9 191) rfl rfl (one_of HT_.out (by kernel_rfl)) (by decide) (fun K hK => ?_)
                      refine Kd.R_append_rows_step k130 (w0 := w) w.heap.size (by rfl) (.tmp 49) (.tmp 51) 97 130 (.agg #[(.int .i64 0), (.int .i64 0), (.int .i64 0), (.int .i64 0), (.int .i64 0)]) 40 rfl Try.underlying97 info130 rfl (by decide) (by omega) v154 y153 ((rd_T99 l0 (rd l1 x41_3)).f0) _ _ _ (fun _ => True) (fun _ => False) rfl rfl ?aO ?aR (fun _ _ h => h) (fun _ h => h.elim) ?aF ?aB ?aS ?aL ?_
                      (case aR => exact lC (Kd.C_below HR151_0.out HB.out))
                      (case aB => exact lB)
                      (case aF => exact (fun _ _ => trivial))
                      (case aO => exact (lR HO155.out))
                      (case aS => exact (below_size lB))
                      (case aL => have := LMc27.out; omega)
                      intro v157 w121 ho hb hg hat
                      rw [← Ny156.out] at ho
                      have n0_ := Aside0.mk (Kd.R_over' (lR HO_6.out) (Kd.R_typed (lR HO155.out)) (by decide) hg)
                      have n1_ := Aside0.mk (Kd.S_after (ok := (fun k_ => k_ ≠ gb152 ∧ k_ ≠ gb159)) (lS HO_9.out) hg hat)
                      have n2_ := Aside0.mk (blk_grown (lK BK152.out) hg (Kd.R_ne HO155.out BK152.out (by decide)))
                      have n3_ := Aside0.mk (blk_grown (lK BK159.out) hg (Kd.R_ne HO155.out BK159.out (by decide)))
                      have n4_ := Aside0.mk (hb)
                      have n5_ := Aside0.mk (ho)
                      clear HO_6
                      clear HO_9
                      clear BK152
                      clear BK159
                      clear HB
                      clear HO155
                      have HO_6 := n0_
                      have HO_9 := n1_
                      have BK152 := n2_
                      have BK159 := n3_
                      have HB := n4_
                      have HO158 := n5_
                      clear n0_ n1_ n2_ n3_ n4_ n5_
                      clear ho hb hg hat
                      obtain ⟨Ao122, co122, eo122⟩ := Kd.R_slice HO158.out
                      (first | subst eo122 | (injection eo122 with f1_ f2_ f3_; have f4_ := f1_.symm; have f5_ := f3_.symm; clear f1_ f2_ f3_; subst f4_; subst f5_))
                      refine hK.out _ _ ⟨bZ BK152.out 0, bZ BK152.out 1, bZ BK152.out 2, bZ BK152.out 3⟩ (fun hHeld => ?_)
                      clear hK K
                      refine norm_ (a' := ?_) ?_ ?_
                      rotate_left
                      ·show Act.put _ (some 52) _ = _
                       simp only [Act.put, List.setIfInBounds_toArray, List.set_cons_zero, List.set_cons_succ, i64_w, i32_w]
                       rfl
                      refine pur_ 6 55 (bs 9 255) (any_of HT_.out kR) ?_
                      exact norm_ (by simp only [putAll, Act.put, List.setIfInBounds_toArray, List.set_cons_zero, List.set_cons_succ]) (hCont (v154, .slice Ao122 y156.length co122, gb159) _ ⟨hHeld, (lR HO158.out), (lR HO_6.out), (by (with_reducible repeat (first | apply Kd.S_alloc | apply Kd.S_drewN | apply Kd.S_drew)); exact Kd.S_mono HO_9.out (fun _ hk => ⟨hk.2, ⟨hk.1.1, hk.1.2⟩⟩)), (lK BK152.out), (lK BK159.out), GW159.out, GE159.out, NB152_159.out, NB159_152.out, lB⟩)
                    rintro ⟨v154, v157, gb159⟩ w123 ⟨hS_, h0_, h1_, h2_, h3_, h4_, h5_, h6_, h7_, h8_, h9_⟩
                    have n0_ : Aside0 (Kd.R k130 130 w123 w.heap.size (fun _ => True) v157 y156) := ⟨h0_⟩
                    have n1_ : Aside0 (Kd.R (Kd.int .i64) 3 w123 w.heap.size (fun _ => True) v146 x6_2) := ⟨h1_⟩
                    have n2_ : Aside0 (Kd.S k99 99 w123 w.heap.size (fun k_ => some k_ ≠ (v157 : Value).ownBlock ∧ k_ ≠ gb152 ∧ k_ ≠ gb159) u9 x9_3) := ⟨h2_⟩
                    have n3_ : Aside0 (w123.heap[gb152]? = some (.cells #[.slice A151_0 ((rd_T99 l0 (rd l1 x41_3)).f0).length c151_0, .int .i64 ((rd_T99 l0 (rd l1 x41_3)).f1), .int .i64 ((rd_T99 l0 (rd l1 x41_3)).f2), .int .i64 ((rd_T99 l0 (rd l1 x41_3)).f3)] 99 (0, 0))) := ⟨h3_⟩
                    have n4_ : Aside0 (w123.heap[gb159]? = some (.cells #[.slice none 0 0, .int .i64 0, .int .i64 0, .int .i64 0] 99 (0, 0))) := ⟨h4_⟩
                    have n5_ : Aside0 (w.heap.size ≤ gb159) := ⟨h5_⟩
                    have n6_ : Aside0 (w.heap.size ≤ gb159) := ⟨h6_⟩
                    have n7_ : Aside0 (gb152 ≠ gb159) := ⟨h7_⟩
                    have n8_ : Aside0 (gb159 ≠ gb152) := ⟨h8_⟩
                    have n9_ : Aside0 (Below w.heap.size w w123) := ⟨h9_⟩
                    clear HO_6
                    clear HO_9
                    clear BK152
                    clear HB
                    clear h0_ h1_ h2_ h3_ h4_ h5_ h6_ h7_ h8_ h9_
                    have HO158 := n0_
                    have HO_6 := n1_
                    have HO_9 := n2_
                    have BK152 := n3_
                    have BK159 := n4_
                    have GW159 := n5_
                    have GE159 := n6_
                    have NB152_159 := n7_
                    have NB159_152 := n8_
                    have HB := n9_
                    clear n0_ n1_ n2_ n3_ n4_ n5_ n6_ n7_ n8_ n9_
                    have hHeld : w123.cell? ⟨gb152, 0, none⟩ = some (.slice A151_0 ((rd_T99 l0 (rd l1 x41_3)).f0).length c151_0) ∧ w123.cell? ⟨gb152, 1, none⟩ = some (.int .i64 ((rd_T99 l0 (rd l1 x41_3)).f1)) ∧ w123.cell? ⟨gb152, 2, none⟩ = some (.int .i64 ((rd_T99 l0 (rd l1 x41_3)).f2)) ∧ w123.cell? ⟨gb152, 3, none⟩ = some (.int .i64 ((rd_T99 l0 (rd l1 x41_3)).f3)) := hS_
                    obtain ⟨Ao124, co124, eo124⟩ := Kd.R_slice HO158.out
                    (first | subst eo124 | (injection eo124 with f1_ f2_ f3_; have f4_ := f1_.symm; have f5_ := f3_.symm; clear f1_ f2_ f3_; subst f4_; subst f5_))
                    refine norm_ (a' := ?_) ?_ ?_
                    rotate_left
                    ·simp only [putAll, Act.put, List.setIfInBounds_toArray, List.set_cons_zero, List.set_cons_succ]
                     rfl
                    refine one_ (i := 8) (N := none) (bs 9 511) rfl rfl (one_of HT_.out (by kernel_rfl)) (by decide) (fun K hK => ?_)
                    have hs125 : w123.cell? ⟨gb159, 0, none⟩ = some (.slice none 0 0) := bZ BK159.out 0
                    have hfs125 := blk_frozen BK159.out 0
                    have hns125_0 := NB152_159.out
                    have hms125_0 := NB159_152.out
                    have hs126 : w123.cell? ⟨gb159, 1, none⟩ = some (.int .i64 0) := bZ BK159.out 1
                    have hfs126 := blk_frozen BK159.out 1
                    have hns126_0 := NB152_159.out
                    have hms126_0 := NB159_152.out
                    have hs127 : w123.cell? ⟨gb159, 2, none⟩ = some (.int .i64 0) := bZ BK159.out 2
                    have hfs127 := blk_frozen BK159.out 2
                    have hns127_0 := NB152_159.out
                    have hms127_0 := NB159_152.out
                    have hs128 : w123.cell? ⟨gb159, 3, none⟩ = some (.int .i64 0) := bZ BK159.out 3
                    have hfs128 := blk_frozen BK159.out 3
                    have hns128_0 := NB152_159.out
                    have hms128_0 := NB159_152.out
                    refine skip_ (w1 := ?_) (by rfl) rfl ?_ ?_
                    rotate_left
                    ·go_simp
                     rfl
                    refine hK.out _ _ ⟨((cell_far (p := ⟨gb159, _, none⟩) NB152_159.out _).trans (((cell_far (p := ⟨gb159, _, none⟩) NB152_159.out _).trans (((cell_far (p := ⟨gb159, _, none⟩) NB152_159.out _).trans (((cell_far (p := ⟨gb159, _, none⟩) NB152_159.out _).trans (hHeld.1)))))))), ((cell_far (p := ⟨gb159, _, none⟩) NB152_159.out _).trans (((cell_far (p := ⟨gb159, _, none⟩) NB152_159.out _).trans (((cell_far (p := ⟨gb159, _, none⟩) NB152_159.out _).trans (((cell_far (p := ⟨gb159, _, none⟩) NB152_159.out _).trans (hHeld.2.1)))))))), ((cell_far (p := ⟨gb159, _, none⟩) NB152_159.out _).trans (((cell_far (p := ⟨gb159, _, none⟩) NB152_159.out _).trans (((cell_far (p := ⟨gb159, _, none⟩) NB152_159.out _).trans (((cell_far (p := ⟨gb159, _, none⟩) NB152_159.out _).trans (hHeld.2.2.1)))))))), ((cell_far (p := ⟨gb159, _, none⟩) NB152_159.out _).trans (((cell_far (p := ⟨gb159, _, none⟩) NB152_159.out _).trans (((cell_far (p := ⟨gb159, _, none⟩) NB152_159.out _).trans (((cell_far (p := ⟨gb159, _, none⟩) NB152_159.out _).trans (hHeld.2.2.2))))))))⟩ (fun hHeld => ?_)
                    clear hK K
                    refine done_ (done_of HT_.out (by kernel_rfl)) ?_
                    have n0_ : Aside0 (Kd.R (Kd.int .i64) 3 ((((w123.setCell ⟨gb159, 0, none⟩ (.slice Ao124 y156.length co124)).setCell ⟨gb159, 1, none⟩ (.int .i64 ((rd_T99 l0 (rd l1 x41_3)).f1))).setCell ⟨gb159, 2, none⟩ (.int .i64 (-1))).setCell ⟨gb159, 3, none⟩ (.int .i64 (-1))) w.heap.size (fun _ => True) v146 x6_2) := ⟨by (with_reducible repeat (first | apply Kd.R_alloc | apply Kd.R_drewN | apply Kd.R_drew)); exact Kd.R_mono (Kd.R_far (p := ⟨gb159, 3, none⟩) (Kd.R_far (p := ⟨gb159, 2, none⟩) (Kd.R_far (p := ⟨gb159, 1, none⟩) (Kd.R_far (p := ⟨gb159, 0, none⟩) (Kd.R_types HO_6.out BK159.out (by decide)) (fun _ hk => hk.2) (.slice Ao124 y156.length co124)) (fun _ hk => hk.2) (.int .i64 ((rd_T99 l0 (rd l1 x41_3)).f1))) (fun _ hk => hk.2) (.int .i64 (-1))) (fun _ hk => hk.2) (.int .i64 (-1))) (fun _ hk => trivial)⟩
                    have n1_ : Aside0 (Kd.S k99 99 ((((w123.setCell ⟨gb159, 0, none⟩ (.slice Ao124 y156.length co124)).setCell ⟨gb159, 1, none⟩ (.int .i64 ((rd_T99 l0 (rd l1 x41_3)).f1))).setCell ⟨gb159, 2, none⟩ (.int .i64 (-1))).setCell ⟨gb159, 3, none⟩ (.int .i64 (-1))) w.heap.size (fun k_ => some k_ ≠ (.slice Ao124 y156.length co124 : Value).ownBlock ∧ k_ ≠ gb152 ∧ k_ ≠ gb159) u9 x9_3) := ⟨by (with_reducible repeat (first | apply Kd.S_alloc | apply Kd.S_drewN | apply Kd.S_drew)); exact Kd.S_mono (Kd.S_far (p := ⟨gb159, 3, none⟩) (Kd.S_far (p := ⟨gb159, 2, none⟩) (Kd.S_far (p := ⟨gb159, 1, none⟩) (Kd.S_far (p := ⟨gb159, 0, none⟩) (Kd.S_mono HO_9.out (fun k_ hk => (⟨hk, hk.2.2⟩ : _ ∧ k_ ≠ gb159))) (fun _ hk => hk.2) (.slice Ao124 y156.length co124)) (fun _ hk => hk.2) (.int .i64 ((rd_T99 l0 (rd l1 x41_3)).f1))) (fun _ hk => hk.2) (.int .i64 (-1))) (fun _ hk => hk.2) (.int .i64 (-1))) (fun _ hk => ⟨hk.1.1, ⟨hk.1.2.1, hk.1.2.2⟩⟩)⟩
                    have n2_ : Aside0 (Kd.R k130 130 ((((w123.setCell ⟨gb159, 0, none⟩ (.slice Ao124 y156.length co124)).setCell ⟨gb159, 1, none⟩ (.int .i64 ((rd_T99 l0 (rd l1 x41_3)).f1))).setCell ⟨gb159, 2, none⟩ (.int .i64 (-1))).setCell ⟨gb159, 3, none⟩ (.int .i64 (-1))) w.heap.size (fun _ => True) (.slice Ao124 y156.length co124) y156) := ⟨by (with_reducible repeat (first | apply Kd.R_alloc | apply Kd.R_drewN | apply Kd.R_drew)); exact Kd.R_mono (Kd.R_far (p := ⟨gb159, 3, none⟩) (Kd.R_far (p := ⟨gb159, 2, none⟩) (Kd.R_far (p := ⟨gb159, 1, none⟩) (Kd.R_far (p := ⟨gb159, 0, none⟩) (Kd.R_types HO158.out BK159.out (by decide)) (fun _ hk => hk.2) (.slice Ao124 y156.length co124)) (fun _ hk => hk.2) (.int .i64 ((rd_T99 l0 (rd l1 x41_3)).f1))) (fun _ hk => hk.2) (.int .i64 (-1))) (fun _ hk => hk.2) (.int .i64 (-1))) (fun _ hk => trivial)⟩
                    have n3_ : Aside0 (((((w123.setCell ⟨gb159, 0, none⟩ (.slice Ao124 y156.length co124)).setCell ⟨gb159, 1, none⟩ (.int .i64 ((rd_T99 l0 (rd l1 x41_3)).f1))).setCell ⟨gb159, 2, none⟩ (.int .i64 (-1))).setCell ⟨gb159, 3, none⟩ (.int .i64 (-1))).heap[gb152]? = some (.cells #[.slice A151_0 ((rd_T99 l0 (rd l1 x41_3)).f0).length c151_0, .int .i64 ((rd_T99 l0 (rd l1 x41_3)).f1), .int .i64 ((rd_T99 l0 (rd l1 x41_3)).f2), .int .i64 ((rd_T99 l0 (rd l1 x41_3)).f3)] 99 (0, 0))) := ⟨lJ BK152.out⟩
                    have n4_ : Aside0 (((((w123.setCell ⟨gb159, 0, none⟩ (.slice Ao124 y156.length co124)).setCell ⟨gb159, 1, none⟩ (.int .i64 ((rd_T99 l0 (rd l1 x41_3)).f1))).setCell ⟨gb159, 2, none⟩ (.int .i64 (-1))).setCell ⟨gb159, 3, none⟩ (.int .i64 (-1))).heap[gb159]? = some (.cells #[.slice Ao124 y156.length co124, .int .i64 ((rd_T99 l0 (rd l1 x41_3)).f1), .int .i64 (-1), .int .i64 (-1)] 99 (0, 0))) := ⟨by (with_reducible repeat first | apply bN | apply bD | apply bA); refine blk_put (cs := #[.slice Ao124 y156.length co124, .int .i64 ((rd_T99 l0 (rd l1 x41_3)).f1), .int .i64 (-1), .int .i64 0]) ?_ 3 _ rfl; (with_reducible repeat first | apply bN | apply bD | apply bA); refine blk_put (cs := #[.slice Ao124 y156.length co124, .int .i64 ((rd_T99 l0 (rd l1 x41_3)).f1), .int .i64 0, .int .i64 0]) ?_ 2 _ rfl; (with_reducible repeat first | apply bN | apply bD | apply bA); refine blk_put (cs := #[.slice Ao124 y156.length co124, .int .i64 0, .int .i64 0, .int .i64 0]) ?_ 1 _ rfl; (with_reducible repeat first | apply bN | apply bD | apply bA); refine blk_put (cs := #[.slice none 0 0, .int .i64 0, .int .i64 0, .int .i64 0]) ?_ 0 _ rfl; (with_reducible repeat first | apply bN | apply bD | apply bA); exact BK159.out⟩
                    have n5_ : Aside0 (Below w.heap.size w ((((w123.setCell ⟨gb159, 0, none⟩ (.slice Ao124 y156.length co124)).setCell ⟨gb159, 1, none⟩ (.int .i64 ((rd_T99 l0 (rd l1 x41_3)).f1))).setCell ⟨gb159, 2, none⟩ (.int .i64 (-1))).setCell ⟨gb159, 3, none⟩ (.int .i64 (-1)))) := ⟨lB⟩
                    (try clear HO_6)
                    (try clear HO_9)
                    (try clear HO158)
                    (try clear BK152)
                    (try clear BK159)
                    (try clear HB)
                    generalize ((((w123.setCell ⟨gb159, 0, none⟩ (.slice Ao124 y156.length co124)).setCell ⟨gb159, 1, none⟩ (.int .i64 ((rd_T99 l0 (rd l1 x41_3)).f1))).setCell ⟨gb159, 2, none⟩ (.int .i64 (-1))).setCell ⟨gb159, 3, none⟩ (.int .i64 (-1))) = w129 at n0_ n1_ n2_ n3_ n4_ n5_ ⊢
                    have HO_6 := n0_
                    have HO_9 := n1_
                    have HO158 := n2_
                    have BK152 := n3_
                    have BK159 := n4_
                    have HB := n5_
                    clear n0_ n1_ n2_ n3_ n4_ n5_
                    have hnb130 := NB152_159.out
                    have hnc130 := NB159_152.out
                    obtain ⟨hcz131_0, hfz131_0, hcz131_1, hfz131_1, hcz131_2, hfz131_2, hcz131_3, hfz131_3⟩ := bk4 BK152.out
                    obtain ⟨hcz132_0, hfz132_0, hcz132_1, hfz132_1, hcz132_2, hfz132_2, hcz132_3, hfz132_3⟩ := bk4 BK159.out
                    try go_wp2_with (first | ((with_reducible refine gate_builtin (b := .append) (xs := #[.tmp 74, .tmp 76]) rfl ?_); (try (refine gate_guard (by rfl) ?_; dsimp only)); at_builtin; refine Kd.S_append k99 (w0 := w) w.heap.size rfl (.tmp 74) (.tmp 76) 57 99 (.agg #[(.slice none 0 0), (.int .i64 0), (.int .i64 0), (.int .i64 0)]) 48 rfl Try.underlying57 info99 rfl (by decide) (by omega) u9 x9_3 (⟨y156, (rd_T99 l0 (rd l1 x41_3)).f1, (-1), (-1)⟩ : S99) [.slice Ao124 y156.length co124, .int .i64 ((rd_T99 l0 (rd l1 x41_3)).f1), .int .i64 (-1), .int .i64 (-1)] (fun k_ => k_ ≠ gb152 ∧ k_ ≠ gb159) (fun k_ => some k_ = (.slice Ao124 y156.length co124 : Value).ownBlock) rfl rfl ?aP (fun k_ hk_ => ((Kd.R_mono (ok' := fun k_ => ((fun k_ => k_ ≠ gb152 ∧ k_ ≠ gb159)) k_ ∧ some k_ ≠ (u9 : Value).ownBlock) (Kd.R_types (Kd.R_types (Kd.R_apart' (HO158.out) (Kd.S_typed HO_9.out) (by decide)) BK152.out (by decide)) BK159.out (by decide)) (fun k_ hk => ⟨⟨hk.1.2, hk.2⟩, hk.1.1.2⟩))).1 k_ hk_.symm) ?aF ?aO ?aB ?aS ?aL ?_; (case aP => exact k99_mkM _ _ _ (⟨y156, (rd_T99 l0 (rd l1 x41_3)).f1, (-1), (-1)⟩ : S99) (Kd.R_mono (Kd.R_tight rfl (Kd.R_mono (ok' := fun k_ => ((fun k_ => k_ ≠ gb152 ∧ k_ ≠ gb159)) k_ ∧ some k_ ≠ (u9 : Value).ownBlock) (Kd.R_types (Kd.R_types (Kd.R_apart' (HO158.out) (Kd.S_typed HO_9.out) (by decide)) BK152.out (by decide)) BK159.out (by decide)) (fun k_ hk => ⟨⟨hk.1.2, hk.2⟩, hk.1.1.2⟩))) (fun _ h_ => h_))); (case aB => exact lB); (case aF => exact (fun k_ hk => ⟨Kd.freshB (lK BK152.out) k_ hk, Kd.freshB (lK BK159.out) k_ hk⟩)); (case aO => exact (by (with_reducible repeat (first | apply Kd.S_alloc | apply Kd.S_drewN | apply Kd.S_drew)); exact Kd.S_mono HO_9.out (fun k_ hk => ⟨⟨hk.2.1, hk.2.2⟩, fun e_ => hk.1 e_⟩))); (case aS => exact (below_size lB)); (case aL => have := LMc113.out; omega); intro v173 w133 ho hb hg hat; rw [← Ny172.out] at ho; have n0_ := Aside0.mk (Kd.R_over' (lR HO_6.out) (Kd.S_typed (lS HO_9.out)) (by decide) hg); have n1_ := Aside0.mk (blk_grown (lK BK152.out) hg (Kd.S_away HO_9.out (fun _ hk => hk.2.1))); have n2_ := Aside0.mk (blk_grown (lK BK159.out) hg (Kd.S_away HO_9.out (fun _ hk => hk.2.2))); have n3_ := Aside0.mk (hb); have n4_ := Aside0.mk (ho); clear HO_6; clear BK152; clear BK159; clear HB; clear HO_9; clear HO158; have HO_6 := n0_; have BK152 := n1_; have BK159 := n2_; have HB := n3_; have HO174 := n4_; clear n0_ n1_ n2_ n3_ n4_; clear ho hb hg hat))
                    go_roundg k3
                    case measure => have := HJ2.out; have := HK2.out; have := HK3.out; omega
                    case rel => exact ⟨(y172), (wrap64 (x41_3 + 1)), lF, H', ⟨by have := HJ2.out; have := HK2.out; have := HK3.out; omega⟩, ⟨lR HO_6.out⟩, ⟨by (with_reducible repeat (first | apply Kd.S_alloc | apply Kd.S_drewN | apply Kd.S_drew)); exact Kd.S_mono HO174.out (fun _ hk => trivial)⟩, ⟨lB⟩⟩
                   ·rw [if_neg c113] at H
                    exact absurd H (by simp)
                ·rw [if_neg c27] at H
                 exact absurd H (by simp)
               ·rw [if_neg c26] at H
                exact absurd H (by simp)
              ·rw [if_neg c25] at H
               exact absurd H (by simp)
             ·rw [if_neg c24] at H
              exact absurd H (by simp)
            ·rw [if_neg c23] at H
             exact absurd H (by simp)
           ·rw [if_neg c22] at H
            have c22b0 : decide (x41_3 < (l1.length : Int)) = false := decide_eq_false c22
            clear c22
            simp only [Option.some.injEq, Prod.mk.injEq] at H
            obtain ⟨rfl, rfl⟩ := H
            go_wp2
            go_ret2
            exact ⟨_, lE, lS HO_9.out, lB⟩
     ·rw [if_neg c11] at H
      exact absurd H (by simp)
    ·rw [if_neg c10] at H
     exact absurd H (by simp)

end Go.Proofs.Ytpnhlccdhflogaa.Q
