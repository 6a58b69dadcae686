-- Written by the program wip/tools/pr.py of this claim's session, over the kit's print.py.
import Derived.Test.YtfdbdbihhgabpaaQx0
import Derived.Test.YtfdbdbihhgabpaaQx4
import Derived.Test.YtfdbdbihhgabpaaQx5
namespace Go.Proofs.Ytfdbdbihhgabpaa.Q
open Go.RowKit Go.Proofs.YtfdbdbihhgabpaaW.PrintWords Go.Proofs.YtfdbdbihhgabpaaW.PrintLast Go.Proofs.YtfdbdbihhgabpaaW.PrintMore
attribute [local go_sem] max2_int min2_int max_two min_two max_three min_three max_four min_four   -- for this text's walks alone
set_option linter.unusedVariables false
set_option linter.unusedSimpArgs false

/-! ### impl_IsCover: function 21 -/
mutual
def impl_IsCover.j0 : Nat → List Int → List (S57) → List (S63) → Bool → Option (Int × Bool × Bool)
 | 0, _, _, _, _ => none
 | k + 1, x0, x1, x2, x22 => if x22 = true then (some (0, false, false)) else (impl_IsCover.l0 k x0 x1 0 (([0] : List Int)) x2 (x2.length : Int) 0)
def impl_IsCover.l0 : Nat → List Int → List (S57) → Int → List Int → List (S63) → Int → Int → Option (Int × Bool × Bool)
 | 0, _, _, _, _, _, _, _ => none
 | k + 1, x0, x1, x9, x10, x24, x25, x26 => if x26 < x25 then (if 0 ≤ x26 then (if x26 < (x24.length : Int) then (if (x10.length : Int) = 0 then (impl_IsCover.j2 k x0 x1 x9 x10 x24 x25 x26 true ((rd_T63 x24 x26).f0) ((rd_T63 x24 x26).f1)) else (if 0 < (x10.length : Int) then (if ((rd_T63 x24 x26).f0) = (rd x10 0) then ((impl_in.f ((rd_T63 x24 x26).f1) 0 (wrap64 ((x1.length : Int) - 1))).bind fun t528 => (impl_IsCover.j2 k x0 x1 x9 x10 x24 x25 x26 (!t528) ((rd_T63 x24 x26).f0) ((rd_T63 x24 x26).f1))) else (impl_IsCover.j2 k x0 x1 x9 x10 x24 x25 x26 true ((rd_T63 x24 x26).f0) ((rd_T63 x24 x26).f1))) else (none))) else (none)) else (none)) else (if (x10.length : Int) > 0 then (some (0, false, true)) else (some (x9, true, true)))
def impl_IsCover.j2 : Nat → List Int → List (S57) → Int → List Int → List (S63) → Int → Int → Bool → Int → Int → Option (Int × Bool × Bool)
 | 0, _, _, _, _, _, _, _, _, _, _ => none
 | k + 1, x0, x1, x9, x10, x24, x25, x26, x49, x527000, x527001 => if x49 = true then (some (0, false, true)) else (if 0 ≤ x527001 then (if x527001 < (x1.length : Int) then ((impl_fits.f k x0 x527000 ((rd_T57 x1 x527001).f0) ((rd_T57 x1 x527001).f1)).bind fun bt530 => (if bt530.2 = true then (if 1 ≤ (x10.length : Int) then ((some (x10.drop 1 : List Int)).bind fun y535 => (if bt530.1.length + y535.length < 17592186044416 then (impl_IsCover.l0 k x0 x1 (wrap64 (x9 + ((rd_T57 x1 x527001).f1))) (bt530.1 ++ y535) x24 x25 (wrap64 (x26 + 1))) else (none))) else (none)) else (some (0, false, true)))) else (none)) else (none))
end
def impl_IsCover.f (k : Nat) (l0 : List Int) (l1 : List (S57)) (l2 : List (S63)) : Option (Int × Bool × Bool) := (impl_isTree.f k l0).bind fun t520 => (if t520 = true then ((impl_arePatterns.f k l1).bind fun t521 => (impl_IsCover.j0 k l0 l1 l2 (!t521))) else (impl_IsCover.j0 k l0 l1 l2 true))
theorem impl_IsCover.mono_l : ∀ k, (∀ y0 y1 y2 y3, LeO (impl_IsCover.j0 k y0 y1 y2 y3) (impl_IsCover.j0 (k + 1) y0 y1 y2 y3)) ∧ (∀ y0 y1 y2 y3 y4 y5 y6, LeO (impl_IsCover.l0 k y0 y1 y2 y3 y4 y5 y6) (impl_IsCover.l0 (k + 1) y0 y1 y2 y3 y4 y5 y6)) ∧ (∀ y0 y1 y2 y3 y4 y5 y6 y7 y8 y9, LeO (impl_IsCover.j2 k y0 y1 y2 y3 y4 y5 y6 y7 y8 y9) (impl_IsCover.j2 (k + 1) y0 y1 y2 y3 y4 y5 y6 y7 y8 y9))
 | 0 => ⟨fun _ _ _ _ r h => by simp [impl_IsCover.j0] at h, fun _ _ _ _ _ _ _ r h => by simp [impl_IsCover.l0] at h, fun _ _ _ _ _ _ _ _ _ _ r h => by simp [impl_IsCover.j2] at h⟩
 | k + 1 => by
  obtain ⟨ih0, ih1, ih2⟩ := impl_IsCover.mono_l k
  refine ⟨?_, ?_, ?_⟩
  ·intro y0 y1 y2 y3
   unfold impl_IsCover.j0
   repeat' first
   | with_reducible apply ih0
   | with_reducible apply ih1
   | with_reducible apply ih2
   | with_reducible apply impl_arePatterns.mono
   | with_reducible apply impl_fits.mono
   | with_reducible apply impl_isTree.mono
   | (with_reducible exact LeO.refl _)
   | (with_reducible exact LeO.none _)
   | (with_reducible refine LeO.ite ?_ ?_)
   | (with_reducible refine LeO.bind ?_ (fun _ => ?_))
   | apply ih0
   | apply ih1
   | apply ih2
   | apply impl_arePatterns.mono
   | apply impl_fits.mono
   | apply impl_isTree.mono
   | exact LeO.none _
   | refine LeO.ite ?_ ?_
   | refine LeO.bind ?_ (fun _ => ?_)
  ·intro y0 y1 y2 y3 y4 y5 y6
   unfold impl_IsCover.l0
   repeat' first
   | with_reducible apply ih0
   | with_reducible apply ih1
   | with_reducible apply ih2
   | with_reducible apply impl_arePatterns.mono
   | with_reducible apply impl_fits.mono
   | with_reducible apply impl_isTree.mono
   | (with_reducible exact LeO.refl _)
   | (with_reducible exact LeO.none _)
   | (with_reducible refine LeO.ite ?_ ?_)
   | (with_reducible refine LeO.bind ?_ (fun _ => ?_))
   | apply ih0
   | apply ih1
   | apply ih2
   | apply impl_arePatterns.mono
   | apply impl_fits.mono
   | apply impl_isTree.mono
   | exact LeO.none _
   | refine LeO.ite ?_ ?_
   | refine LeO.bind ?_ (fun _ => ?_)
  ·intro y0 y1 y2 y3 y4 y5 y6 y7 y8 y9
   unfold impl_IsCover.j2
   repeat' first
   | with_reducible apply ih0
   | with_reducible apply ih1
   | with_reducible apply ih2
   | with_reducible apply impl_arePatterns.mono
   | with_reducible apply impl_fits.mono
   | with_reducible apply impl_isTree.mono
   | (with_reducible exact LeO.refl _)
   | (with_reducible exact LeO.none _)
   | (with_reducible refine LeO.ite ?_ ?_)
   | (with_reducible refine LeO.bind ?_ (fun _ => ?_))
   | apply ih0
   | apply ih1
   | apply ih2
   | apply impl_arePatterns.mono
   | apply impl_fits.mono
   | apply impl_isTree.mono
   | exact LeO.none _
   | refine LeO.ite ?_ ?_
   | refine LeO.bind ?_ (fun _ => ?_)
theorem impl_IsCover.mono : ∀ a0 a1 a2 k, LeO (impl_IsCover.f k a0 a1 a2) (impl_IsCover.f (k + 1) a0 a1 a2) := by
 intro a0 a1 a2 k
 obtain ⟨ih0, ih1, ih2⟩ := impl_IsCover.mono_l k
 unfold impl_IsCover.f
 repeat' first
   | with_reducible apply ih0
   | with_reducible apply ih1
   | with_reducible apply ih2
   | with_reducible apply impl_arePatterns.mono
   | with_reducible apply impl_fits.mono
   | with_reducible apply impl_isTree.mono
   | (with_reducible exact LeO.refl _)
   | (with_reducible exact LeO.none _)
   | (with_reducible refine LeO.ite ?_ ?_)
   | (with_reducible refine LeO.bind ?_ (fun _ => ?_))
   | apply ih0
   | apply ih1
   | apply ih2
   | apply impl_arePatterns.mono
   | apply impl_fits.mono
   | apply impl_isTree.mono
   | exact LeO.none _
   | refine LeO.ite ?_ ?_
   | refine LeO.bind ?_ (fun _ => ?_)
def impl_IsCover.T8 : Bool × List (List Nat × List Nat) := (true, [([], []), ([0], [0]), ([1], [1]), ([2], [2]), ([3], [3]), ([4, 3], [3, 4]), ([3], [3]), ([6, 3], [3, 6]), ([7, 3], [3, 7]), ([5, 8, 3], [3, 5, 8]), ([3, 9], [3, 9]), ([10, 3], [10]), ([11], [11]), ([12, 11], [11, 12]), ([11], [11]), ([14, 11], [11, 14]), ([15, 11], [11, 15]), ([13, 16, 11, 11], [11, 13, 16]), ([17, 11], [11, 17]), ([11, 18], [11, 18])])
def impl_IsCover.B8 : List Nat := [0, 1, 3, 7, 15, 31, 15, 79, 207, 511, 1023, 2047, 4095, 8191, 4095, 20479, 53247, 131071, 262143, 524287]
theorem impl_IsCover.tab8 : rtab .any (opsOf Try.f21 8) = impl_IsCover.T8 := by kernel_rfl
theorem impl_IsCover.bits8 : waitsOk impl_IsCover.T8.2 impl_IsCover.B8 = true := by kernel_rfl
def impl_IsCover.T10 : Bool × List (List Nat × List Nat) := (true, [([], []), ([], []), ([1], [1]), ([], []), ([], []), ([4], [4]), ([3, 5], [3, 5]), ([6], [6]), ([0, 2, 7], [0, 2, 7]), ([8], [8]), ([9], [9]), ([9], [9]), ([10, 8, 0, 1, 2, 3, 4, 5, 6, 7, 8, 9, 10], [10]), ([11, 12, 0, 1, 2, 3, 4, 5, 6, 7, 8, 9, 10, 11, 12], [11])])
def impl_IsCover.B10 : List Nat := [0, 0, 2, 0, 0, 16, 56, 120, 255, 511, 1023, 1023, 2047, 8191]
theorem impl_IsCover.tab10 : rtab .any (opsOf Try.f21 10) = impl_IsCover.T10 := by kernel_rfl
theorem impl_IsCover.bits10 : waitsOk impl_IsCover.T10.2 impl_IsCover.B10 = true := by kernel_rfl
set_option maxHeartbeats 8000000 in
set_option maxRecDepth 100000 in
theorem impl_IsCover.calls (k : Nat) (A0 : Option Addr) (c0 : Nat) (l0 : List Int) (A1 : Option Addr) (c1 : Nat) (l1 : List (S57)) (A2 : Option Addr) (c2 : Nat) (l2 : List (S63)) (r1 : Int) (r2 : Bool) (r3 : Bool) (w : World) (hr0 : Kd.C (Kd.int .i64) w A0 l0.length l0) (hc0 : l0.length ≤ c0) (hr1 : Kd.C k57 w A1 l1.length l1) (hc1 : l1.length ≤ c1) (hr2 : Kd.C k63 w A2 l2.length l2) (hc2 : l2.length ≤ c2) (h : impl_IsCover.f k l0 l1 l2 = some (r1, r2, r3)) :
  Calls Try.prog 21 #[.slice A0 l0.length c0, .slice A1 l1.length c1, .slice A2 l2.length c2] w fun e w' => e = .returned (.tuple #[.int .i64 r1, .bool r2, .bool r3]) ∧ Below w.heap.size w w' := by
 have hu63 := Try.underlying63
 have hu57 := Try.underlying57
 have HR0 := Aside0.mk hr0
 have HC0 := Aside0.mk hc0
 clear hr0 hc0
 have HR1 := Aside0.mk hr1
 have HC1 := Aside0.mk hc1
 clear hr1 hc1
 have HR2 := Aside0.mk hr2
 have HC2 := Aside0.mk hc2
 clear hr2 hc2
 have HB := Aside0.mk (Below.refl w.heap.size w)
 have H : ((impl_isTree.f k l0).bind fun t520 => (if t520 = true then ((impl_arePatterns.f k l1).bind fun t521 => (impl_IsCover.j0 k l0 l1 l2 (!t521))) else (impl_IsCover.j0 k l0 l1 l2 true))) = some (r1, r2, r3) := h
 clear h
 have HC4 := Aside0.mk H
 clear H
 go_enter Try.func21, Try.ntmps21
 go_upto_region 1 with (fail)
 go_cut [22] (fun v22 wc => ∃ (kq : Nat) (x22_3 : Bool), v22 = .bool x22_3 ∧ Aside0 (impl_IsCover.j0 kq l0 l1 l2 x22_3 = some (r1, r2, r3)) ∧ Aside0 (kq ≤ k) ∧ Aside0 (Below w.heap.size w wc))
 case first =>
  have H := HC4.out
  clear HC4
  replace H := lO H
  obtain ⟨t520, A5, H⟩ := H
  by_cases c6 : t520 = true
  ·subst c6
   rw [if_pos rfl] at H
   replace H := lO H
   obtain ⟨t521, A7, H⟩ := H
   have H' := Aside0.mk H
   clear H
   go_wp2_with (first | ((with_reducible refine gate_callee (f := 35) rfl ?_); refine gl_ (some 16) (Try.func35) #[.slice A0 l0.length c0] ?_; (with_reducible refine (impl_isTree.calls k _ _ l0 true _ ?side1 ?side2 A5.out).mono ?_); (case side1 => exact lC (Kd.C_below HR0.out HB.out)); (case side2 => exact HC0.out); rintro e w' ⟨rfl, ⟨nd, rfl⟩⟩; refine ⟨_, rfl, ?_⟩) | (go_at_call 36; (with_reducible refine (impl_arePatterns.calls k _ _ l1 t521 _ ?side1 ?side2 A7.out).mono ?_); (case side1 => repeat (first | exact (Kd.C_below HR1.out lB) | (with_reducible refine Kd.C_alloc ?_ _) | (with_reducible refine Kd.C_drewN ?_ _) | (with_reducible refine Kd.C_drew ?_))); (case side2 => exact HC1.out); rintro e w8 ⟨rfl, hb⟩; have n0_ := Aside0.mk (below_step lB hb); clear HB; have HB := n0_; clear n0_; (try clear hb); (try clear hb2); (try clear hk); (try clear hi)))
   go_meet
   case rel => exact ⟨_, (!t521), lF, H', ⟨lN⟩, ⟨lB⟩⟩
  ·replace c6 := Bool.eq_false_iff.mpr c6
   subst c6
   rw [if_neg (show ¬ (false = true) by decide)] at H
   have H' := Aside0.mk H
   clear H
   go_wp2_with (first | ((with_reducible refine gate_callee (f := 35) rfl ?_); refine gl_ (some 16) (Try.func35) #[.slice A0 l0.length c0] ?_; (with_reducible refine (impl_isTree.calls k _ _ l0 false _ ?side1 ?side2 A5.out).mono ?_); (case side1 => exact lC (Kd.C_below HR0.out HB.out)); (case side2 => exact HC0.out); rintro e w' ⟨rfl, ⟨nd, rfl⟩⟩; refine ⟨_, rfl, ?_⟩))
   go_meet
   case rel => exact ⟨_, (true), lF, H', ⟨lN⟩, ⟨lB⟩⟩
 case rest =>
  clear HC4
  try clear c1
  try clear c2
  try clear p2
  try clear c3
  try clear c6
  obtain ⟨kq, x22_3, rfl, HA, HJ3, HB⟩ := hcut
  cases kq with
  | zero => exact absurd HA.out (by simp [impl_IsCover.j0])
  | succ kj3 =>
   have H := HA.out
   clear HA
   simp only [impl_IsCover.j0] at H
   by_cases c9 : x22_3 = true
   ·subst c9
    rw [if_pos rfl] at H
    simp only [Option.some.injEq, Prod.mk.injEq] at H
    obtain ⟨rfl, rfl, rfl⟩ := H
    go_wp2
    go_ret3
    exact ⟨lE, lB⟩
   ·replace c9 := Bool.eq_false_iff.mpr c9
    subst c9
    rw [if_neg (show ¬ (false = true) by decide)] at H
    obtain ⟨y522, hy522⟩ : ∃ y_ : List Int, y_ = (([0] : List Int)) := ⟨_, rfl⟩
    replace H : (impl_IsCover.l0 kj3 l0 l1 0 y522 l2 (l2.length : Int) 0) = some (r1, r2, r3) := by first | (rw [hy522]; with_reducible exact H) | (have H2_ := (Option.bind_some _ _).symm.trans H; rw [hy522]; with_reducible exact H2_) | (have H2_ := (Option.bind_some _ _).symm.trans H; with_reducible exact H2_) | with_reducible exact H | (rw [hy522]; exact H) | exact H
    have Ny522 := Aside0.mk hy522
    clear hy522
    have H' := Aside0.mk H
    clear H
    go_wp2_with (first | ((with_reducible refine gate_dst (N := 23) rfl ?_); (try (refine gate_guard (by rfl) ?_; dsimp only)); refine Kd.R_lit (Kd.int .i64) _ 3 ?hg (N := 23) ?hd (xs := ([0] : List Int)) (inner := [.int .i64 0]) (ok := fun _ => True) (okp := fun _ => True) ?hr ?hp (fun _ hk => hk) trivial (Below.refl _ _) (Nat.le_refl _) (by simp) ?_; (case hd => rfl); (case hg => rfl); (case hr => first | (go_simp; done) | (go_simp; rfl)); (case hp => exact (Reps.one (show Kd.M (Kd.int .i64) _ _ _ 0 [.int .i64 0] from rfl) (Reps.none _ _))); intro v523 w10 ho11 hb hg_ hnew_; clear hg_ hnew_; (first | rw [← Ny522.out] at ho11 | (simp only [Int.reduceToNat] at ho11; rw [← Ny522.out] at ho11)); have n0_ := Aside0.mk (Kd.R_lower ho11 (below_size lB)); have n1_ := Aside0.mk (below_step lB hb); clear HB; have HO524 := n0_; have HB := n1_; clear n0_ n1_; clear hb ho11))
    go_loopg [9, 10, 26] kj3 (fun kq v9 v10 v26 w' => ∃ (x9_2 : Int) (x10_2 : List Int) (x26_2 : Int), v9 = .int .i64 x9_2 ∧ v26 = .int .i64 x26_2 ∧ Aside0 (impl_IsCover.l0 kq l0 l1 x9_2 x10_2 l2 (l2.length : Int) x26_2 = some (r1, r2, r3)) ∧ Aside0 (kq ≤ kj3) ∧ Aside0 (Kd.R (Kd.int .i64) 3 w' w.heap.size (fun _ => True) v10 x10_2) ∧ Aside0 (Below w.heap.size w w'))
    case atStart => exact ⟨(0), (y522), (0), lF, lF, H', ⟨Nat.le_refl _⟩, ⟨lR HO524.out⟩, ⟨lB⟩⟩
    case round =>
     clear H'
     try clear c1
     try clear c2
     try clear p2
     try clear c3
     try clear c6
     try clear c9
     try clear p2
     obtain ⟨x9_2, x10_2, x26_2, rfl, rfl, HA, HK2, HO_10, HB⟩ := hrel
     cases gk with
     | zero => exact absurd HA.out (by simp [impl_IsCover.l0])
     | succ k2 =>
      have H := HA.out
      clear HA
      simp only [impl_IsCover.l0] at H
      by_cases c12 : x26_2 < (l2.length : Int)
      ·rw [if_pos c12] at H
       have c12b0 : decide (x26_2 < (l2.length : Int)) = true := decide_eq_true c12
       clear c12
       by_cases c13 : 0 ≤ x26_2
       ·rw [if_pos c13] at H
        have c13b0 : decide (0 ≤ x26_2) = true := decide_eq_true c13
        clear c13
        by_cases c14 : x26_2 < (l2.length : Int)
        ·rw [if_pos c14] at H
         have c14b0 : decide (x26_2 < (l2.length : Int)) = true := decide_eq_true c14
         clear c14
         have HC15 := Aside0.mk H
         clear H
         have p525 : 0 ≤ (x26_2 : Int) := lD
         have q525 : x26_2 < (l2.length : Int) := lD
         obtain ⟨ad525, e525, hx525_0, hx525_1⟩ := at_T63 HR2.out x26_2 p525 q525
         cases e525
         replace hx525_0 := pw_cell_below HB.out hx525_0
         replace hx525_1 := pw_cell_below HB.out hx525_1
         replace p525 := eq_true p525
         replace q525 := eq_true q525
         go_upto_region 8 with (first | ((with_reducible refine gate_dst (N := 12) rfl ?_); (try (refine gate_guard (by rfl) ?_; dsimp only)); refine bxe 12 #[.int .i64 0, .int .i64 0] 63 ?_; intro gb526 hg w16 hbox hb; have n0_ := Aside0.mk (Kd.R_below (lR HO_10.out) hb); have n1_ := Aside0.mk (below_step lB hb); have n2_ := Aside0.mk (hbox); have n3_ := lG w hg; have n4_ := lG w hg; clear HO_10; clear HB; have HO_10 := n0_; have HB := n1_; have BK526 := n2_; have GW526 := n3_; have GE526 := n4_; clear n0_ n1_ n2_ n3_ n4_; clear hb hbox hg; obtain ⟨hcz17_0, hfz17_0, hcz17_1, hfz17_1⟩ := bk2 BK526.out))
         (try simp only [Act.put, List.setIfInBounds_toArray, List.set_cons_zero, List.set_cons_succ])
         go_cut [49] (fun v49 wc => ∃ (kq : Nat) (x49_14 : Bool), v49 = .bool x49_14 ∧ Aside0 (impl_IsCover.j2 kq l0 l1 x9_2 x10_2 l2 (l2.length : Int) x26_2 x49_14 ((rd_T63 l2 x26_2).f0) ((rd_T63 l2 x26_2).f1) = some (r1, r2, r3)) ∧ Aside0 (kq ≤ k2) ∧ Aside0 (Kd.R (Kd.int .i64) 3 wc w.heap.size (fun _ => True) u10 x10_2) ∧ Aside0 (wc.heap[gb526]? = some (.cells #[.int .i64 ((rd_T63 l2 x26_2).f0), .int .i64 ((rd_T63 l2 x26_2).f1)] 63 (0, 0))) ∧ Aside0 (Below w.heap.size w wc))
         case first =>
          have H := HC15.out
          clear HC15
          by_cases c18 : (x10_2.length : Int) = 0
          ·rw [if_pos c18] at H
           have c18b0 : ((x10_2.length : Int) == 0) = true := beq_iff_eq.mpr c18
           have c18b1 : ((x10_2.length : Int) != 0) = false := bne_eq_false_iff_eq.mpr c18
           clear c18
           (first | rw [c18b0] | (simp only [i64_w, i32_w]; rw [c18b0]) | skip)
           have H' := Aside0.mk H
           clear H
           try go_wp2
           have n0_ : Aside0 (Kd.R (Kd.int .i64) 3 ((w16.setCell ⟨gb526, 0, none⟩ (.int .i64 ((rd_T63 l2 x26_2).f0))).setCell ⟨gb526, 1, none⟩ (.int .i64 ((rd_T63 l2 x26_2).f1))) w.heap.size (fun _ => True) u10 x10_2) := ⟨by (with_reducible repeat (first | apply Kd.R_alloc | apply Kd.R_drewN | apply Kd.R_drew)); exact Kd.R_mono (Kd.R_far (p := ⟨gb526, 1, none⟩) (Kd.R_far (p := ⟨gb526, 0, none⟩) (Kd.R_types HO_10.out BK526.out (by decide)) (fun _ hk => hk.2) (.int .i64 ((rd_T63 l2 x26_2).f0))) (fun _ hk => hk.2) (.int .i64 ((rd_T63 l2 x26_2).f1))) (fun _ hk => trivial)⟩
           have n1_ : Aside0 (((w16.setCell ⟨gb526, 0, none⟩ (.int .i64 ((rd_T63 l2 x26_2).f0))).setCell ⟨gb526, 1, none⟩ (.int .i64 ((rd_T63 l2 x26_2).f1))).heap[gb526]? = some (.cells #[.int .i64 ((rd_T63 l2 x26_2).f0), .int .i64 ((rd_T63 l2 x26_2).f1)] 63 (0, 0))) := ⟨by (with_reducible repeat first | apply bN | apply bD | apply bA); refine blk_put (cs := #[.int .i64 ((rd_T63 l2 x26_2).f0), .int .i64 0]) ?_ 1 _ rfl; (with_reducible repeat first | apply bN | apply bD | apply bA); refine blk_put (cs := #[.int .i64 0, .int .i64 0]) ?_ 0 _ rfl; (with_reducible repeat first | apply bN | apply bD | apply bA); exact BK526.out⟩
           have n2_ : Aside0 (Below w.heap.size w ((w16.setCell ⟨gb526, 0, none⟩ (.int .i64 ((rd_T63 l2 x26_2).f0))).setCell ⟨gb526, 1, none⟩ (.int .i64 ((rd_T63 l2 x26_2).f1)))) := ⟨lB⟩
           (try clear HO_10)
           (try clear BK526)
           (try clear HB)
           generalize ((w16.setCell ⟨gb526, 0, none⟩ (.int .i64 ((rd_T63 l2 x26_2).f0))).setCell ⟨gb526, 1, none⟩ (.int .i64 ((rd_T63 l2 x26_2).f1))) = w19 at n0_ n1_ n2_ ⊢
           have HO_10 := n0_
           have BK526 := n1_
           have HB := n2_
           clear n0_ n1_ n2_
           have n0_ := Aside0.mk (Kd.R_drew HO_10.out)
           have n1_ := Aside0.mk (blk_drew BK526.out)
           have n2_ := Aside0.mk (below_drew1 HB.out)
           clear HO_10
           clear BK526
           clear HB
           have HO_10 := n0_
           have BK526 := n1_
           have HB := n2_
           clear n0_ n1_ n2_
           obtain ⟨Ao21, co21, eo21⟩ := Kd.R_slice HO_10.out
           (first | subst eo21 | (injection eo21 with f1_ f2_ f3_; have f4_ := f1_.symm; have f5_ := f3_.symm; clear f1_ f2_ f3_; subst f4_; subst f5_))
           refine start_ (n := 20) (S := fun w' => True) (ds := []) (bs 20 0) kR rfl kR trivial (fun hHeld => ?_); refine with_tabW impl_IsCover.tab8 impl_IsCover.bits8 (fun HT_ HW_ => ?_)
           generalize w19.drew = w20 at HO_10 BK526 HB hHeld ⊢
           refine pur_ 0 30 (bs 20 1) (any_of HT_.out kR) ?_
           refine pur_ 1 31 (bs 20 3) (any_of HT_.out kR) ?_
           refine pur_ 2 32 (bs 20 7) (any_of HT_.out kR) ?_
           refine pur_ 3 33 (bs 20 15) (any_of HT_.out kR) ?_
           refine puu_ 4 34 (bs 20 31) (any_of HT_.out kR) ?_
           refine puu_ 5 35 (bs 20 63) (any_of HT_.out kR) ?_
           refine puu_ 6 36 (bs 20 127) (any_of HT_.out kR) ?_
           refine puu_ 7 37 (bs 20 255) (any_of HT_.out kR) ?_
           refine puu_ 8 38 (bs 20 511) (any_of HT_.out kR) ?_
           refine puu_ 9 39 (bs 20 1023) (any_of HT_.out kR) ?_
           refine pur_ 10 40 (bs 20 2047) (any_of HT_.out kR) ?_
           refine pur_ 11 41 (bs 20 4095) (any_of HT_.out kR) ?_
           refine puu_ 12 42 (bs 20 8191) (any_of HT_.out kR) ?_
           refine puu_ 13 43 (bs 20 16383) (any_of HT_.out kR) ?_
           refine puu_ 14 44 (bs 20 32767) (any_of HT_.out kR) ?_
           refine puu_ 15 45 (bs 20 65535) (any_of HT_.out kR) ?_
           refine puu_ 16 46 (bs 20 131071) (any_of HT_.out kR) ?_
           refine puu_ 17 47 (bs 20 262143) (any_of HT_.out kR) ?_
           refine puu_ 18 48 (bs 20 524287) (any_of HT_.out kR) ?_
           refine pur_ 19 49 (bs 20 1048575) (any_of HT_.out kR) ?_
           refine done_ (done_of HT_.out (by kernel_rfl)) ?_
           try go_wp2
           go_meet
           case rel => exact ⟨_, (true), lF, H', ⟨by have := HJ3.out; have := HK2.out; first | omega | exact Nat.le_refl _⟩, ⟨lR HO_10.out⟩, ⟨lK BK526.out⟩, ⟨lB⟩⟩
          ·rw [if_neg c18] at H
           have c18b0 : ((x10_2.length : Int) == 0) = false := beq_eq_false_iff_ne.mpr c18
           have c18b1 : ((x10_2.length : Int) != 0) = true := bne_iff_ne.mpr c18
           have c18b2 : ¬ (x10_2 = []) := fun h_ => c18 (by rw [h_]; rfl)
           (first | rw [c18b0] | (simp only [i64_w, i32_w]; rw [c18b0]) | skip)
           by_cases c22 : 0 < (x10_2.length : Int)
           ·rw [if_pos c22] at H
            have c22b0 : decide (0 < (x10_2.length : Int)) = true := decide_eq_true c22
            have c22b1 : decide (0 < x10_2.length) = true := decide_eq_true (by omega)
            clear c22
            by_cases c23 : ((rd_T63 l2 x26_2).f0) = (rd x10_2 0)
            ·rw [if_pos c23] at H
             have c23b0 : (((rd_T63 l2 x26_2).f0) == (rd x10_2 0)) = true := beq_iff_eq.mpr c23
             have c23b1 : (((rd_T63 l2 x26_2).f0) != (rd x10_2 0)) = false := bne_eq_false_iff_eq.mpr c23
             clear c23
             replace H := lO H
             obtain ⟨t528, A24, H⟩ := H
             have H' := Aside0.mk H
             clear H
             try go_wp2
             have n0_ : Aside0 (Kd.R (Kd.int .i64) 3 ((w16.setCell ⟨gb526, 0, none⟩ (.int .i64 ((rd_T63 l2 x26_2).f0))).setCell ⟨gb526, 1, none⟩ (.int .i64 ((rd_T63 l2 x26_2).f1))) w.heap.size (fun _ => True) u10 x10_2) := ⟨by (with_reducible repeat (first | apply Kd.R_alloc | apply Kd.R_drewN | apply Kd.R_drew)); exact Kd.R_mono (Kd.R_far (p := ⟨gb526, 1, none⟩) (Kd.R_far (p := ⟨gb526, 0, none⟩) (Kd.R_types HO_10.out BK526.out (by decide)) (fun _ hk => hk.2) (.int .i64 ((rd_T63 l2 x26_2).f0))) (fun _ hk => hk.2) (.int .i64 ((rd_T63 l2 x26_2).f1))) (fun _ hk => trivial)⟩
             have n1_ : Aside0 (((w16.setCell ⟨gb526, 0, none⟩ (.int .i64 ((rd_T63 l2 x26_2).f0))).setCell ⟨gb526, 1, none⟩ (.int .i64 ((rd_T63 l2 x26_2).f1))).heap[gb526]? = some (.cells #[.int .i64 ((rd_T63 l2 x26_2).f0), .int .i64 ((rd_T63 l2 x26_2).f1)] 63 (0, 0))) := ⟨by (with_reducible repeat first | apply bN | apply bD | apply bA); refine blk_put (cs := #[.int .i64 ((rd_T63 l2 x26_2).f0), .int .i64 0]) ?_ 1 _ rfl; (with_reducible repeat first | apply bN | apply bD | apply bA); refine blk_put (cs := #[.int .i64 0, .int .i64 0]) ?_ 0 _ rfl; (with_reducible repeat first | apply bN | apply bD | apply bA); exact BK526.out⟩
             have n2_ : Aside0 (Below w.heap.size w ((w16.setCell ⟨gb526, 0, none⟩ (.int .i64 ((rd_T63 l2 x26_2).f0))).setCell ⟨gb526, 1, none⟩ (.int .i64 ((rd_T63 l2 x26_2).f1)))) := ⟨lB⟩
             (try clear HO_10)
             (try clear BK526)
             (try clear HB)
             generalize ((w16.setCell ⟨gb526, 0, none⟩ (.int .i64 ((rd_T63 l2 x26_2).f0))).setCell ⟨gb526, 1, none⟩ (.int .i64 ((rd_T63 l2 x26_2).f1))) = w25 at n0_ n1_ n2_ ⊢
             have HO_10 := n0_
             have BK526 := n1_
             have HB := n2_
             clear n0_ n1_ n2_
             have n0_ := Aside0.mk (Kd.R_drew HO_10.out)
             have n1_ := Aside0.mk (blk_drew BK526.out)
             have n2_ := Aside0.mk (below_drew1 HB.out)
             clear HO_10
             clear BK526
             clear HB
             have HO_10 := n0_
             have BK526 := n1_
             have HB := n2_
             clear n0_ n1_ n2_
             obtain ⟨Ao27, co27, eo27⟩ := Kd.R_slice HO_10.out
             (first | subst eo27 | (injection eo27 with f1_ f2_ f3_; have f4_ := f1_.symm; have f5_ := f3_.symm; clear f1_ f2_ f3_; subst f4_; subst f5_))
             have p527 : 0 ≤ (0 : Int) := (by omega)
             have q527 : 0 < (x10_2.length : Int) := lD
             obtain ⟨ad527, e527, hx527_0⟩ := Kd.at_int (Kd.R_reads' HO_10.out).2.2 0 p527 q527
             cases e527
             have qi527 : (0 < x10_2.length) = True := eq_true (by omega)
             (try rw [show ((0 : Int)).toNat = 0 from rfl] at hx527_0)
             (try rw [Addr.add_zero'] at hx527_0)
             replace p527 := eq_true p527
             replace q527 := eq_true q527
             refine start_ (n := 20) (S := fun w' => w'.cell? ⟨gb526, 0, none⟩ = some (.int .i64 ((rd_T63 l2 x26_2).f0)) ∧ w'.cell? ⟨gb526, 1, none⟩ = some (.int .i64 ((rd_T63 l2 x26_2).f1)) ∧ w'.cell? ad527 = some (.int .i64 (rd x10_2 0))) (ds := []) (bs 20 0) kR rfl kR ⟨bZ BK526.out 0, bZ BK526.out 1, hx527_0⟩ (fun hHeld => ?_); refine with_tabW impl_IsCover.tab8 impl_IsCover.bits8 (fun HT_ HW_ => ?_)
             generalize w25.drew = w26 at HO_10 BK526 HB hx527_0 hHeld ⊢
             refine pur_ 0 30 (bs 20 1) (any_of HT_.out kR) ?_
             refine pur_ 1 31 (bs 20 3) (any_of HT_.out kR) ?_
             refine pur_ 2 32 (bs 20 7) (any_of HT_.out kR) ?_
             refine pur_ 3 33 (bs 20 15) (any_of HT_.out kR) ?_
             refine pur_ 4 34 (bs 20 31) (any_of HT_.out kR) ?_
             refine pur_ 6 36 (bs 20 95) (any_of HT_.out kR) ?_
             refine pur_ 7 37 (bs 20 223) (any_of HT_.out kR) ?_
             refine tak_ 5 35 (bs 20 255) (take_ofW HT_.out HW_.out kR) hHeld ?_
             refine tak_ 8 38 (bs 20 511) (take_ofW HT_.out HW_.out kR) hHeld ?_
             refine pur_ 9 39 (bs 20 1023) (any_of HT_.out kR) ?_
             refine pur_ 10 40 (bs 20 2047) (any_of HT_.out kR) ?_
             refine pur_ 11 41 (bs 20 4095) (any_of HT_.out kR) ?_
             refine pur_ 12 42 (bs 20 8191) (any_of HT_.out kR) ?_
             refine pur_ 14 44 (bs 20 24575) (any_of HT_.out kR) ?_
             refine pur_ 15 45 (bs 20 57343) (any_of HT_.out kR) ?_
             refine pur_ 16 46 (bs 20 122879) (any_of HT_.out kR) ?_
             refine tak_ 13 43 (bs 20 131071) (take_ofW HT_.out HW_.out kR) hHeld ?_
             refine one_ (i := 17) (N := some 47) (bs 20 262143) rfl rfl (one_of HT_.out (by kernel_rfl)) (by decide) (fun K hK => ?_)
             refine goes_ Try.func51 (by kernel_rfl) rfl #[.int .i64 ((rd_T63 l2 x26_2).f1), .int .i64 0, .int .i64 (wrap64 ((l1.length : Int) - 1))] (by rfl) rfl rfl (by (try simp only [List.map_toArray, List.map_cons, List.map_nil]); first | done | rfl | (simp only [List.length_drop, List.length_take]; rfl)) ?_
             with_reducible refine (impl_in.calls ((rd_T63 l2 x26_2).f1) 0 (wrap64 ((l1.length : Int) - 1)) t528 _ A24.out).mono ?_
             rintro e w' ⟨rfl, ⟨nd, rfl⟩⟩
             refine ⟨_, rfl, ?_⟩
             refine hK.out _ _ ⟨bZ BK526.out 0, bZ BK526.out 1, hHeld.2.2⟩ (fun hHeld => ?_)
             clear hK K
             refine norm_ (a' := ?_) ?_ ?_
             rotate_left
             ·show Act.put _ (some 47) _ = _
              simp only [Act.put, List.setIfInBounds_toArray, List.set_cons_zero, List.set_cons_succ, i64_w, i32_w]
              rfl
             refine pur_ 18 48 (bs 20 524287) (any_of HT_.out kR) ?_
             refine pur_ 19 49 (bs 20 1048575) (any_of HT_.out kR) ?_
             refine done_ (done_of HT_.out (by kernel_rfl)) ?_
             try go_wp2
             go_meet
             case rel => exact ⟨_, (!t528), lF, H', ⟨by have := HJ3.out; have := HK2.out; first | omega | exact Nat.le_refl _⟩, ⟨lR HO_10.out⟩, ⟨lK BK526.out⟩, ⟨lB⟩⟩
            ·rw [if_neg c23] at H
             have c23b0 : (((rd_T63 l2 x26_2).f0) == (rd x10_2 0)) = false := beq_eq_false_iff_ne.mpr c23
             have c23b1 : (((rd_T63 l2 x26_2).f0) != (rd x10_2 0)) = true := bne_iff_ne.mpr c23
             have H' := Aside0.mk H
             clear H
             try go_wp2
             have n0_ : Aside0 (Kd.R (Kd.int .i64) 3 ((w16.setCell ⟨gb526, 0, none⟩ (.int .i64 ((rd_T63 l2 x26_2).f0))).setCell ⟨gb526, 1, none⟩ (.int .i64 ((rd_T63 l2 x26_2).f1))) w.heap.size (fun _ => True) u10 x10_2) := ⟨by (with_reducible repeat (first | apply Kd.R_alloc | apply Kd.R_drewN | apply Kd.R_drew)); exact Kd.R_mono (Kd.R_far (p := ⟨gb526, 1, none⟩) (Kd.R_far (p := ⟨gb526, 0, none⟩) (Kd.R_types HO_10.out BK526.out (by decide)) (fun _ hk => hk.2) (.int .i64 ((rd_T63 l2 x26_2).f0))) (fun _ hk => hk.2) (.int .i64 ((rd_T63 l2 x26_2).f1))) (fun _ hk => trivial)⟩
             have n1_ : Aside0 (((w16.setCell ⟨gb526, 0, none⟩ (.int .i64 ((rd_T63 l2 x26_2).f0))).setCell ⟨gb526, 1, none⟩ (.int .i64 ((rd_T63 l2 x26_2).f1))).heap[gb526]? = some (.cells #[.int .i64 ((rd_T63 l2 x26_2).f0), .int .i64 ((rd_T63 l2 x26_2).f1)] 63 (0, 0))) := ⟨by (with_reducible repeat first | apply bN | apply bD | apply bA); refine blk_put (cs := #[.int .i64 ((rd_T63 l2 x26_2).f0), .int .i64 0]) ?_ 1 _ rfl; (with_reducible repeat first | apply bN | apply bD | apply bA); refine blk_put (cs := #[.int .i64 0, .int .i64 0]) ?_ 0 _ rfl; (with_reducible repeat first | apply bN | apply bD | apply bA); exact BK526.out⟩
             have n2_ : Aside0 (Below w.heap.size w ((w16.setCell ⟨gb526, 0, none⟩ (.int .i64 ((rd_T63 l2 x26_2).f0))).setCell ⟨gb526, 1, none⟩ (.int .i64 ((rd_T63 l2 x26_2).f1)))) := ⟨lB⟩
             (try clear HO_10)
             (try clear BK526)
             (try clear HB)
             generalize ((w16.setCell ⟨gb526, 0, none⟩ (.int .i64 ((rd_T63 l2 x26_2).f0))).setCell ⟨gb526, 1, none⟩ (.int .i64 ((rd_T63 l2 x26_2).f1))) = w28 at n0_ n1_ n2_ ⊢
             have HO_10 := n0_
             have BK526 := n1_
             have HB := n2_
             clear n0_ n1_ n2_
             have n0_ := Aside0.mk (Kd.R_drew HO_10.out)
             have n1_ := Aside0.mk (blk_drew BK526.out)
             have n2_ := Aside0.mk (below_drew1 HB.out)
             clear HO_10
             clear BK526
             clear HB
             have HO_10 := n0_
             have BK526 := n1_
             have HB := n2_
             clear n0_ n1_ n2_
             obtain ⟨Ao30, co30, eo30⟩ := Kd.R_slice HO_10.out
             (first | subst eo30 | (injection eo30 with f1_ f2_ f3_; have f4_ := f1_.symm; have f5_ := f3_.symm; clear f1_ f2_ f3_; subst f4_; subst f5_))
             have p527 : 0 ≤ (0 : Int) := (by omega)
             have q527 : 0 < (x10_2.length : Int) := lD
             obtain ⟨ad527, e527, hx527_0⟩ := Kd.at_int (Kd.R_reads' HO_10.out).2.2 0 p527 q527
             cases e527
             have qi527 : (0 < x10_2.length) = True := eq_true (by omega)
             (try rw [show ((0 : Int)).toNat = 0 from rfl] at hx527_0)
             (try rw [Addr.add_zero'] at hx527_0)
             replace p527 := eq_true p527
             replace q527 := eq_true q527
             refine start_ (n := 20) (S := fun w' => w'.cell? ⟨gb526, 0, none⟩ = some (.int .i64 ((rd_T63 l2 x26_2).f0)) ∧ w'.cell? ⟨gb526, 1, none⟩ = some (.int .i64 ((rd_T63 l2 x26_2).f1)) ∧ w'.cell? ad527 = some (.int .i64 (rd x10_2 0))) (ds := []) (bs 20 0) kR rfl kR ⟨bZ BK526.out 0, bZ BK526.out 1, hx527_0⟩ (fun hHeld => ?_); refine with_tabW impl_IsCover.tab8 impl_IsCover.bits8 (fun HT_ HW_ => ?_)
             generalize w28.drew = w29 at HO_10 BK526 HB hx527_0 hHeld ⊢
             refine pur_ 0 30 (bs 20 1) (any_of HT_.out kR) ?_
             refine pur_ 1 31 (bs 20 3) (any_of HT_.out kR) ?_
             refine pur_ 2 32 (bs 20 7) (any_of HT_.out kR) ?_
             refine pur_ 3 33 (bs 20 15) (any_of HT_.out kR) ?_
             refine pur_ 4 34 (bs 20 31) (any_of HT_.out kR) ?_
             refine pur_ 6 36 (bs 20 95) (any_of HT_.out kR) ?_
             refine pur_ 7 37 (bs 20 223) (any_of HT_.out kR) ?_
             refine tak_ 5 35 (bs 20 255) (take_ofW HT_.out HW_.out kR) hHeld ?_
             refine tak_ 8 38 (bs 20 511) (take_ofW HT_.out HW_.out kR) hHeld ?_
             refine pur_ 9 39 (bs 20 1023) (any_of HT_.out kR) ?_
             refine pur_ 10 40 (bs 20 2047) (any_of HT_.out kR) ?_
             refine pur_ 11 41 (bs 20 4095) (any_of HT_.out kR) ?_
             refine puu_ 12 42 (bs 20 8191) (any_of HT_.out kR) ?_
             refine puu_ 13 43 (bs 20 16383) (any_of HT_.out kR) ?_
             refine puu_ 14 44 (bs 20 32767) (any_of HT_.out kR) ?_
             refine puu_ 15 45 (bs 20 65535) (any_of HT_.out kR) ?_
             refine puu_ 16 46 (bs 20 131071) (any_of HT_.out kR) ?_
             refine puu_ 17 47 (bs 20 262143) (any_of HT_.out kR) ?_
             refine puu_ 18 48 (bs 20 524287) (any_of HT_.out kR) ?_
             refine pur_ 19 49 (bs 20 1048575) (any_of HT_.out kR) ?_
             refine done_ (done_of HT_.out (by kernel_rfl)) ?_
             try go_wp2
             go_meet
             case rel => exact ⟨_, (true), lF, H', ⟨by have := HJ3.out; have := HK2.out; first | omega | exact Nat.le_refl _⟩, ⟨lR HO_10.out⟩, ⟨lK BK526.out⟩, ⟨lB⟩⟩
           ·rw [if_neg c22] at H
            exact absurd H (by simp)
         case rest =>
          clear HC15
          try clear c1
          try clear c2
          try clear p2
          try clear c3
          try clear c5
          try clear p5
          try clear q5
          try clear hx5
          try clear qi5
          try clear c6
          try clear p6
          try clear c9
          try clear c12
          try clear c12b0
          try clear c13
          try clear c13b0
          try clear c14
          try clear c14b0
          try clear c18
          try clear c18b0
          try clear c18b1
          try clear c18b2
          try clear c22
          try clear c22b0
          try clear c22b1
          try clear c23
          try clear c23b0
          try clear c23b1
          try clear hcz17_0 hcz17_1 hfz17_0 hfz17_1
          try clear hx525_0
          try clear hx525_1
          try clear hx527_0
          try clear p2
          try clear p525
          try clear p527
          try clear q525
          try clear q527
          obtain ⟨kq, x49_14, rfl, HA, HJ14, HO_10, BK526, HB⟩ := hcut
          cases kq with
          | zero => exact absurd HA.out (by simp [impl_IsCover.j2])
          | succ kj14 =>
           have H := HA.out
           clear HA
           simp only [impl_IsCover.j2] at H
           by_cases c31 : x49_14 = true
           ·subst c31
            rw [if_pos rfl] at H
            simp only [Option.some.injEq, Prod.mk.injEq] at H
            obtain ⟨rfl, rfl, rfl⟩ := H
            go_wp2
            go_ret3
            exact ⟨lE, lB⟩
           ·replace c31 := Bool.eq_false_iff.mpr c31
            subst c31
            rw [if_neg (show ¬ (false = true) by decide)] at H
            by_cases c32 : 0 ≤ ((rd_T63 l2 x26_2).f1)
            ·rw [if_pos c32] at H
             have c32b0 : decide (0 ≤ ((rd_T63 l2 x26_2).f1)) = true := decide_eq_true c32
             clear c32
             by_cases c33 : ((rd_T63 l2 x26_2).f1) < (l1.length : Int)
             ·rw [if_pos c33] at H
              have c33b0 : decide (((rd_T63 l2 x26_2).f1) < (l1.length : Int)) = true := decide_eq_true c33
              clear c33
              replace H := Option.bind_eq_some_iff.mp H
              obtain ⟨⟨t530, t533⟩, A340, H⟩ := H
              replace H : (if t533 = true then (if 1 ≤ (x10_2.length : Int) then ((some (x10_2.drop 1 : List Int)).bind fun y535 => (if t530.length + y535.length < 17592186044416 then (impl_IsCover.l0 kj14 l0 l1 (wrap64 (x9_2 + ((rd_T57 l1 ((rd_T63 l2 x26_2).f1)).f1))) (t530 ++ y535) l2 (l2.length : Int) (wrap64 (x26_2 + 1))) else (none))) else (none)) else (some (0, false, true))) = some (r1, r2, r3) := H
              have A34 := Aside0.mk A340
              clear A340
              by_cases c35 : t533 = true
              ·subst c35
               rw [if_pos rfl] at H
               by_cases c36 : 1 ≤ (x10_2.length : Int)
               ·rw [if_pos c36] at H
                have c36b0 := eq_true c36
                have c36b1 : decide (1 ≤ (x10_2.length : Int)) = true := decide_eq_true c36
                clear c36
                obtain ⟨y535, hy535⟩ : ∃ y_ : List Int, y_ = (x10_2.drop 1) := ⟨_, rfl⟩
                replace H : (if t530.length + y535.length < 17592186044416 then (impl_IsCover.l0 kj14 l0 l1 (wrap64 (x9_2 + ((rd_T57 l1 ((rd_T63 l2 x26_2).f1)).f1))) (t530 ++ y535) l2 (l2.length : Int) (wrap64 (x26_2 + 1))) else (none)) = some (r1, r2, r3) := by first | (rw [hy535]; with_reducible exact H) | (have H2_ := (Option.bind_some _ _).symm.trans H; rw [hy535]; with_reducible exact H2_) | (have H2_ := (Option.bind_some _ _).symm.trans H; with_reducible exact H2_) | with_reducible exact H | (rw [hy535]; exact H) | exact H
                have Ny535 := Aside0.mk hy535
                clear hy535
                by_cases c37 : t530.length + y535.length < 17592186044416
                ·rw [if_pos c37] at H
                 have LMc37 := Aside0.mk c37
                 clear c37
                 obtain ⟨y539, hy539⟩ : ∃ y_ : List Int, y_ = (t530 ++ y535) := ⟨_, rfl⟩
                 replace H : (impl_IsCover.l0 kj14 l0 l1 (wrap64 (x9_2 + ((rd_T57 l1 ((rd_T63 l2 x26_2).f1)).f1))) y539 l2 (l2.length : Int) (wrap64 (x26_2 + 1))) = some (r1, r2, r3) := by first | (rw [hy539]; with_reducible exact H) | (have H2_ := (Option.bind_some _ _).symm.trans H; rw [hy539]; with_reducible exact H2_) | (have H2_ := (Option.bind_some _ _).symm.trans H; with_reducible exact H2_) | with_reducible exact H | (rw [hy539]; exact H) | exact H
                 have Ny539 := Aside0.mk hy539
                 clear hy539
                 have H' := Aside0.mk H
                 clear H
                 try go_wp2
                 have n0_ := Aside0.mk (Kd.R_drew HO_10.out)
                 have n1_ := Aside0.mk (blk_drew BK526.out)
                 have n2_ := Aside0.mk (below_drew1 HB.out)
                 clear HO_10
                 clear BK526
                 clear HB
                 have HO_10 := n0_
                 have BK526 := n1_
                 have HB := n2_
                 clear n0_ n1_ n2_
                 have p529 : 0 ≤ (((rd_T63 l2 x26_2).f1) : Int) := lD
                 have q529 : ((rd_T63 l2 x26_2).f1) < (l1.length : Int) := lD
                 obtain ⟨ad529, A529_0, c529_0, e529, hx529_0, hx529_1, hl529_0, hi529_0⟩ := at_T57 HR1.out ((rd_T63 l2 x26_2).f1) p529 q529
                 have hw529_1 := hx529_1
                 have hw529_0 := hx529_0
                 cases e529
                 replace hx529_0 := pw_cell_below HB.out hx529_0
                 replace hx529_1 := pw_cell_below HB.out hx529_1
                 have HR529_0 := Aside0.mk hi529_0
                 have HC529_0 := Aside0.mk hl529_0
                 clear hi529_0 hl529_0
                 replace p529 := eq_true p529
                 replace q529 := eq_true q529
                 refine start_ (n := 14) (S := fun w' => w'.cell? ⟨gb526, 0, none⟩ = some (.int .i64 ((rd_T63 l2 x26_2).f0)) ∧ w'.cell? ⟨gb526, 1, none⟩ = some (.int .i64 ((rd_T63 l2 x26_2).f1)) ∧ w'.cell? (ad529.add ((((rd_T63 l2 x26_2).f1)).toNat * 2)) = some (.slice A529_0 ((rd_T57 l1 ((rd_T63 l2 x26_2).f1)).f0).length c529_0) ∧ w'.cell? ⟨(ad529.add ((((rd_T63 l2 x26_2).f1)).toNat * 2)).block, (ad529.add ((((rd_T63 l2 x26_2).f1)).toNat * 2)).off + 1, none⟩ = some (.int .i64 ((rd_T57 l1 ((rd_T63 l2 x26_2).f1)).f1))) (ds := []) (bs 14 0) kR rfl kR ⟨bZ BK526.out 0, bZ BK526.out 1, ((HB.out.cell (World.block_lt_of_cell? w _ hw529_0)).trans hw529_0), ((HB.out.cell (World.block_lt_of_cell? w _ hw529_1)).trans hw529_1)⟩ (fun hHeld => ?_); refine with_tabW impl_IsCover.tab10 impl_IsCover.bits10 (fun HT_ HW_ => ?_)
                 generalize wc.drew = w38 at HO_10 BK526 HB HR529_0 hx529_0 hx529_1 hHeld ⊢
                 refine pur_ 0 51 (bs 14 1) (any_of HT_.out kR) ?_
                 refine pur_ 1 52 (bs 14 3) (any_of HT_.out kR) ?_
                 refine pur_ 3 54 (bs 14 11) (any_of HT_.out kR) ?_
                 refine pur_ 4 55 (bs 14 27) (any_of HT_.out kR) ?_
                 refine tak_ 2 53 (bs 14 31) (take_ofW HT_.out HW_.out kR) hHeld ?_
                 refine tak_ 5 56 (bs 14 63) (take_ofW HT_.out HW_.out kR) hHeld ?_
                 refine pur_ 6 57 (bs 14 127) (any_of HT_.out kR) ?_
                 refine tak_ 7 58 (bs 14 255) (take_ofW HT_.out HW_.out kR) hHeld ?_
                 refine one_ (i := 8) (N := some 59) (bs 14 511) rfl rfl (one_of HT_.out (by kernel_rfl)) (by decide) (fun K hK => ?_)
                 refine goes_ Try.func46 (by kernel_rfl) rfl #[.slice A0 l0.length c0, .int .i64 ((rd_T63 l2 x26_2).f0), .agg #[.slice A529_0 ((rd_T57 l1 ((rd_T63 l2 x26_2).f1)).f0).length c529_0, .int .i64 ((rd_T57 l1 ((rd_T63 l2 x26_2).f1)).f1)]] (by rfl) rfl rfl (by (try simp only [List.map_toArray, List.map_cons, List.map_nil]); first | done | rfl | (simp only [List.length_drop, List.length_take]; rfl)) ?_
                 with_reducible refine (impl_fits.calls kj14 _ _ l0 ((rd_T63 l2 x26_2).f0) _ _ ((rd_T57 l1 ((rd_T63 l2 x26_2).f1)).f0) ((rd_T57 l1 ((rd_T63 l2 x26_2).f1)).f1) t530 true _ ?side1 ?side2 ?side3 ?side4 A34.out).mono ?_
                 (case side1 => exact lC (Kd.C_below HR0.out HB.out))
                 (case side2 => exact HC0.out)
                 (case side3 => exact lC (Kd.C_below HR529_0.out HB.out))
                 (case side4 => exact HC529_0.out)
                 rintro e w39 ⟨v531, rfl, ho0, hb⟩
                 refine ⟨_, rfl, ?_⟩
                 have n0_ := Aside0.mk (Kd.R_elder' (lR HO_10.out) (Kd.R_base ho0) hb)
                 have n1_ := Aside0.mk (Kd.R_lower (Kd.R_new' ho0 (Kd.R_lt (lR HO_10.out))) (below_size lB))
                 have n2_ := Aside0.mk (blk_below (lK BK526.out) hb)
                 have n3_ := Aside0.mk (below_step lB hb)
                 clear HO_10
                 clear BK526
                 clear HB
                 have HO_10 := n0_
                 have HO532 := n1_
                 have BK526 := n2_
                 have HB := n3_
                 clear n0_ n1_ n2_ n3_
                 (try clear hb)
                 (try clear hb2)
                 (try clear hk)
                 (try clear hi)
                 (try clear ho0)
                 refine hK.out _ _ ⟨bZ BK526.out 0, bZ BK526.out 1, ((HB.out.cell (World.block_lt_of_cell? w _ hw529_0)).trans hw529_0), ((HB.out.cell (World.block_lt_of_cell? w _ hw529_1)).trans hw529_1)⟩ (fun hHeld => ?_)
                 clear hK K
                 refine norm_ (a' := ?_) ?_ ?_
                 rotate_left
                 ·show Act.put _ (some 59) _ = _
                  simp only [Act.put, List.setIfInBounds_toArray, List.set_cons_zero, List.set_cons_succ, i64_w, i32_w]
                  rfl
                 refine pur_ 9 50 (bs 14 1023) (any_of HT_.out kR) ?_
                 refine pur_ 10 60 (bs 14 2047) (any_of HT_.out kR) ?_
                 refine pur_ 11 61 (bs 14 4095) (any_of HT_.out kR) ?_
                 refine pur_ 12 13 (bs 14 8191) (any_of HT_.out kR) ?_
                 refine pur_ 13 14 (bs 14 16383) (any_of HT_.out kR) ?_
                 refine done_ (done_of HT_.out (by kernel_rfl)) ?_
                 obtain ⟨hcz40_0, hfz40_0, hcz40_1, hfz40_1⟩ := bk2 BK526.out
                 have p534 : 0 ≤ (((rd_T63 l2 x26_2).f1) : Int) := lD
                 have q534 : ((rd_T63 l2 x26_2).f1) < (l1.length : Int) := lD
                 obtain ⟨ad534, A534_0, c534_0, e534, hx534_0, hx534_1, hl534_0, hi534_0⟩ := at_T57 HR1.out ((rd_T63 l2 x26_2).f1) p534 q534
                 obtain rfl : ad529 = ad534 := (by injection e534)
                 replace hx534_0 := pw_cell_below HB.out hx534_0
                 replace hx534_1 := pw_cell_below HB.out hx534_1
                 have HR534_0 := Aside0.mk hi534_0
                 have HC534_0 := Aside0.mk hl534_0
                 clear hi534_0 hl534_0
                 replace p534 := eq_true p534
                 replace q534 := eq_true q534
                 obtain ⟨Ao42, co42, eo42⟩ := Kd.R_slice HO_10.out
                 subst eo42
                 have q41 : (1 : Int) ≤ ((x10_2.length : Int) : Int) := lD
                 obtain ⟨i041, hi041, _, hsz41, _⟩ := info_parts info3
                 have hroom41 : x10_2.length ≤ co42 := (Kd.R_reads' HO_10.out).2.1
                 have hC41 : Kd.C (Kd.int .i64) _ Ao42 x10_2.length x10_2 := (Kd.R_reads' HO_10.out).2.2
                 have hcut41 := cut_from (P := Try.prog) 22 3 .i64 Try.underlying22 hi041 1 hsz41 Ao42 x10_2.length co42 1 (by omega) q41
                 have hr41 := Kd.C_drop (m := (1 : Int).toNat) (c := co42) hC41 (by omega) hroom41
                 obtain ⟨A41, hA41⟩ : ∃ A1, A1 = (if co42 = (1 : Int).toNat then Ao42 else (Ao42 : Option Addr).map (·.add ((1 : Int).toNat * 1))) := ⟨_, rfl⟩
                 obtain ⟨c41, hc41⟩ : ∃ c1, c1 = co42 - (1 : Int).toNat := ⟨_, rfl⟩
                 have hy41 : y535.length = x10_2.length - (1 : Int).toNat := (by rw [Ny535.out, List.length_drop] <;> omega)
                 rw [show (x10_2).drop (1 : Int).toNat = y535 from Ny535.out.symm] at hr41
                 replace hr41 : Kd.C (Kd.int .i64) _ A41 y535.length y535 := (by rw [hA41]; exact hr41)
                 rw [← hy41, ← hA41, ← hc41] at hcut41
                 have HR538 := Aside0.mk hr41
                 have HC538 := Aside0.mk (show y535.length ≤ c41 from by rw [hy41, hc41]; exact Nat.sub_le_sub_right hroom41 _)
                 clear hr41 hC41 hroom41 hi041 hsz41 hc41
                 have KY41 := Aside0.mk hy41
                 have KA41 := Aside0.mk hA41
                 clear hy41 hA41
                 have KL41 := Aside0.mk (show 1 ≤ x10_2.length from by omega)
                 replace q41 := eq_true q41
                 try go_wp2_with (first | ((with_reducible refine gate_builtin (b := .append) (xs := #[.tmp 72, .tmp 74]) rfl ?_); (try (refine gate_guard (by rfl) ?_; dsimp only)); at_builtin; refine Kd.R_append_rows (Kd.int .i64) (w0 := w) w.heap.size rfl (.tmp 72) (.tmp 74) 22 3 (.int .i64 0) 8 rfl Try.underlying22 info3 rfl (by decide) (by omega) v531 t530 y535 _ _ _ (fun k_ => some k_ ≠ (.slice Ao42 x10_2.length co42 : Value).ownBlock) (fun _ => False) rfl rfl ?aO ?aR (fun _ _ h => h) (fun _ h => h.elim) ?aF ?aB ?aS ?aL ?_; (case aR => repeat (first | exact (by repeat (first | (with_reducible exact HR538.out) | (with_reducible refine Kd.C_alloc ?_ _) | (with_reducible refine Kd.C_drewN ?_ _) | (with_reducible refine Kd.C_drew ?_) | exact HR538.out)) | (with_reducible refine Kd.C_alloc ?_ _) | (with_reducible refine Kd.C_drewN ?_ _) | (with_reducible refine Kd.C_drew ?_))); (case aB => exact lB); (case aF => exact (fun k_ hk => Kd.fresh' (Kd.R_lt (lR HO_10.out)) k_ hk)); (case aO => exact (by (with_reducible repeat (first | apply Kd.R_alloc | apply Kd.R_drewN | apply Kd.R_drew)); exact Kd.R_mono HO532.out (fun _ hk => hk.2))); (case aS => exact (below_size lB)); (case aL => have := LMc37.out; omega); intro v540 w43 ho hb hg hat; rw [← Ny539.out] at ho; have n0_ := Aside0.mk (Kd.R_after (ok := (fun _ => True)) (lR HO_10.out) hg hat); have n1_ := Aside0.mk (blk_grown (lK BK526.out) hg (Kd.R_ne HO532.out BK526.out (by decide))); have n2_ := Aside0.mk (hb); have n3_ := Aside0.mk ((show Kd.C (Kd.int .i64) w43 A41 y535.length y535 from by rw [Ny535.out, KA41.out]; exact Kd.C_drop (m := 1) (c := co42) ((Kd.R_reads' (Kd.R_after (ok := (fun _ => True)) (lR HO_10.out) hg hat)).2.2) KL41.out ((Kd.R_reads' (Kd.R_after (ok := (fun _ => True)) (lR HO_10.out) hg hat)).2.1))); have n4_ := Aside0.mk (ho); clear HO_10; clear BK526; clear HB; clear HR538; clear HO532; have HO_10 := n0_; have BK526 := n1_; have HB := n2_; have HR538 := n3_; have HO541 := n4_; clear n0_ n1_ n2_ n3_ n4_; clear ho hb hg hat))
                 go_roundg kj14
                 case measure => have := HJ3.out; have := HK2.out; have := HJ14.out; omega
                 case rel => exact ⟨(wrap64 (x9_2 + ((rd_T57 l1 ((rd_T63 l2 x26_2).f1)).f1))), (y539), (wrap64 (x26_2 + 1)), lF, lF, H', ⟨by have := HJ3.out; have := HK2.out; have := HJ14.out; omega⟩, ⟨by (with_reducible repeat (first | apply Kd.R_alloc | apply Kd.R_drewN | apply Kd.R_drew)); exact Kd.R_mono HO541.out (fun _ hk => trivial)⟩, ⟨lB⟩⟩
                ·rw [if_neg c37] at H
                 exact absurd H (by simp)
               ·rw [if_neg c36] at H
                exact absurd H (by simp)
              ·replace c35 := Bool.eq_false_iff.mpr c35
               subst c35
               rw [if_neg (show ¬ (false = true) by decide)] at H
               simp only [Option.some.injEq, Prod.mk.injEq] at H
               obtain ⟨rfl, rfl, rfl⟩ := H
               try go_wp2
               have n0_ := Aside0.mk (Kd.R_drew HO_10.out)
               have n1_ := Aside0.mk (blk_drew BK526.out)
               have n2_ := Aside0.mk (below_drew1 HB.out)
               clear HO_10
               clear BK526
               clear HB
               have HO_10 := n0_
               have BK526 := n1_
               have HB := n2_
               clear n0_ n1_ n2_
               have p529 : 0 ≤ (((rd_T63 l2 x26_2).f1) : Int) := lD
               have q529 : ((rd_T63 l2 x26_2).f1) < (l1.length : Int) := lD
               obtain ⟨ad529, A529_0, c529_0, e529, hx529_0, hx529_1, hl529_0, hi529_0⟩ := at_T57 HR1.out ((rd_T63 l2 x26_2).f1) p529 q529
               have hw529_1 := hx529_1
               have hw529_0 := hx529_0
               cases e529
               replace hx529_0 := pw_cell_below HB.out hx529_0
               replace hx529_1 := pw_cell_below HB.out hx529_1
               have HR529_0 := Aside0.mk hi529_0
               have HC529_0 := Aside0.mk hl529_0
               clear hi529_0 hl529_0
               replace p529 := eq_true p529
               replace q529 := eq_true q529
               refine start_ (n := 14) (S := fun w' => w'.cell? ⟨gb526, 0, none⟩ = some (.int .i64 ((rd_T63 l2 x26_2).f0)) ∧ w'.cell? ⟨gb526, 1, none⟩ = some (.int .i64 ((rd_T63 l2 x26_2).f1)) ∧ w'.cell? (ad529.add ((((rd_T63 l2 x26_2).f1)).toNat * 2)) = some (.slice A529_0 ((rd_T57 l1 ((rd_T63 l2 x26_2).f1)).f0).length c529_0) ∧ w'.cell? ⟨(ad529.add ((((rd_T63 l2 x26_2).f1)).toNat * 2)).block, (ad529.add ((((rd_T63 l2 x26_2).f1)).toNat * 2)).off + 1, none⟩ = some (.int .i64 ((rd_T57 l1 ((rd_T63 l2 x26_2).f1)).f1))) (ds := []) (bs 14 0) kR rfl kR ⟨bZ BK526.out 0, bZ BK526.out 1, ((HB.out.cell (World.block_lt_of_cell? w _ hw529_0)).trans hw529_0), ((HB.out.cell (World.block_lt_of_cell? w _ hw529_1)).trans hw529_1)⟩ (fun hHeld => ?_); refine with_tabW impl_IsCover.tab10 impl_IsCover.bits10 (fun HT_ HW_ => ?_)
               generalize wc.drew = w44 at HO_10 BK526 HB HR529_0 hx529_0 hx529_1 hHeld ⊢
               refine pur_ 0 51 (bs 14 1) (any_of HT_.out kR) ?_
               refine pur_ 1 52 (bs 14 3) (any_of HT_.out kR) ?_
               refine pur_ 3 54 (bs 14 11) (any_of HT_.out kR) ?_
               refine pur_ 4 55 (bs 14 27) (any_of HT_.out kR) ?_
               refine tak_ 2 53 (bs 14 31) (take_ofW HT_.out HW_.out kR) hHeld ?_
               refine tak_ 5 56 (bs 14 63) (take_ofW HT_.out HW_.out kR) hHeld ?_
               refine pur_ 6 57 (bs 14 127) (any_of HT_.out kR) ?_
               refine tak_ 7 58 (bs 14 255) (take_ofW HT_.out HW_.out kR) hHeld ?_
               refine one_ (i := 8) (N := some 59) (bs 14 511) rfl rfl (one_of HT_.out (by kernel_rfl)) (by decide) (fun K hK => ?_)
               refine goes_ Try.func46 (by kernel_rfl) rfl #[.slice A0 l0.length c0, .int .i64 ((rd_T63 l2 x26_2).f0), .agg #[.slice A529_0 ((rd_T57 l1 ((rd_T63 l2 x26_2).f1)).f0).length c529_0, .int .i64 ((rd_T57 l1 ((rd_T63 l2 x26_2).f1)).f1)]] (by rfl) rfl rfl (by (try simp only [List.map_toArray, List.map_cons, List.map_nil]); first | done | rfl | (simp only [List.length_drop, List.length_take]; rfl)) ?_
               with_reducible refine (impl_fits.calls kj14 _ _ l0 ((rd_T63 l2 x26_2).f0) _ _ ((rd_T57 l1 ((rd_T63 l2 x26_2).f1)).f0) ((rd_T57 l1 ((rd_T63 l2 x26_2).f1)).f1) t530 false _ ?side1 ?side2 ?side3 ?side4 A34.out).mono ?_
               (case side1 => exact lC (Kd.C_below HR0.out HB.out))
               (case side2 => exact HC0.out)
               (case side3 => exact lC (Kd.C_below HR529_0.out HB.out))
               (case side4 => exact HC529_0.out)
               rintro e w45 ⟨v531, rfl, ho0, hb⟩
               refine ⟨_, rfl, ?_⟩
               have n0_ := Aside0.mk (Kd.R_elder' (lR HO_10.out) (Kd.R_base ho0) hb)
               have n1_ := Aside0.mk (Kd.R_lower (Kd.R_new' ho0 (Kd.R_lt (lR HO_10.out))) (below_size lB))
               have n2_ := Aside0.mk (blk_below (lK BK526.out) hb)
               have n3_ := Aside0.mk (below_step lB hb)
               clear HO_10
               clear BK526
               clear HB
               have HO_10 := n0_
               have HO532 := n1_
               have BK526 := n2_
               have HB := n3_
               clear n0_ n1_ n2_ n3_
               (try clear hb)
               (try clear hb2)
               (try clear hk)
               (try clear hi)
               (try clear ho0)
               refine hK.out _ _ ⟨bZ BK526.out 0, bZ BK526.out 1, ((HB.out.cell (World.block_lt_of_cell? w _ hw529_0)).trans hw529_0), ((HB.out.cell (World.block_lt_of_cell? w _ hw529_1)).trans hw529_1)⟩ (fun hHeld => ?_)
               clear hK K
               refine norm_ (a' := ?_) ?_ ?_
               rotate_left
               ·show Act.put _ (some 59) _ = _
                simp only [Act.put, List.setIfInBounds_toArray, List.set_cons_zero, List.set_cons_succ, i64_w, i32_w]
                rfl
               refine pur_ 9 50 (bs 14 1023) (any_of HT_.out kR) ?_
               refine pur_ 10 60 (bs 14 2047) (any_of HT_.out kR) ?_
               refine pur_ 11 61 (bs 14 4095) (any_of HT_.out kR) ?_
               refine pur_ 12 13 (bs 14 8191) (any_of HT_.out kR) ?_
               refine pur_ 13 14 (bs 14 16383) (any_of HT_.out kR) ?_
               refine done_ (done_of HT_.out (by kernel_rfl)) ?_
               try go_wp2
               go_ret3
               exact ⟨lE, lB⟩
             ·rw [if_neg c33] at H
              exact absurd H (by simp)
            ·rw [if_neg c32] at H
             exact absurd H (by simp)
        ·rw [if_neg c14] at H
         exact absurd H (by simp)
       ·rw [if_neg c13] at H
        exact absurd H (by simp)
      ·rw [if_neg c12] at H
       have c12b0 : decide (x26_2 < (l2.length : Int)) = false := decide_eq_false c12
       clear c12
       by_cases c46 : (x10_2.length : Int) > 0
       ·rw [if_pos c46] at H
        have c46b0 : decide (0 < (x10_2.length : Int)) = true := decide_eq_true c46
        have c46b1 : decide (0 < x10_2.length) = true := decide_eq_true (by omega)
        clear c46
        simp only [Option.some.injEq, Prod.mk.injEq] at H
        obtain ⟨rfl, rfl, rfl⟩ := H
        obtain ⟨Ao47, co47, eo47⟩ := Kd.R_slice HO_10.out
        subst eo47
        go_wp2
        go_ret3
        exact ⟨lE, lB⟩
       ·rw [if_neg c46] at H
        have c46b0 : decide (0 < (x10_2.length : Int)) = false := decide_eq_false c46
        have c46b1 : decide (0 < x10_2.length) = false := decide_eq_false (by omega)
        clear c46
        simp only [Option.some.injEq, Prod.mk.injEq] at H
        obtain ⟨rfl, rfl, rfl⟩ := H
        obtain ⟨Ao48, co48, eo48⟩ := Kd.R_slice HO_10.out
        subst eo48
        go_wp2
        go_ret3
        exact ⟨lE, lB⟩

end Go.Proofs.Ytfdbdbihhgabpaa.Q
