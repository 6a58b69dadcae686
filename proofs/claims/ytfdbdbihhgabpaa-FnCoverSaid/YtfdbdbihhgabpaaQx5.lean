-- Written by the program wip/tools/pr.py of this claim's session, over the kit's print.py.
import Derived.Test.YtfdbdbihhgabpaaQx0
import Derived.Test.YtfdbdbihhgabpaaQx4
namespace Go.Proofs.Ytfdbdbihhgabpaa.Q
open Go.RowKit Go.Proofs.YtfdbdbihhgabpaaW.PrintWords Go.Proofs.YtfdbdbihhgabpaaW.PrintLast Go.Proofs.YtfdbdbihhgabpaaW.PrintMore
attribute [local go_sem] max2_int min2_int max_two min_two max_three min_three max_four min_four   -- for this text's walks alone
set_option linter.unusedVariables false
set_option linter.unusedSimpArgs false

/-! ### impl_arePatterns: function 36 -/
def impl_arePatterns.f (k : Nat) (l0 : List (S57)) : Option (Bool) := if (l0.length : Int) ≤ 12 then ((impl_Pattern_61.f k l0 62).bind fun t193 => (some (!t193))) else (some false)
theorem impl_arePatterns.mono : ∀ a0 k, LeO (impl_arePatterns.f k a0) (impl_arePatterns.f (k + 1) a0) := by
 intro a0 k
 unfold impl_arePatterns.f
 repeat' first
   | with_reducible apply impl_Pattern_61.mono
   | (with_reducible exact LeO.refl _)
   | (with_reducible exact LeO.none _)
   | (with_reducible refine LeO.ite ?_ ?_)
   | (with_reducible refine LeO.bind ?_ (fun _ => ?_))
   | apply impl_Pattern_61.mono
   | exact LeO.none _
   | refine LeO.ite ?_ ?_
   | refine LeO.bind ?_ (fun _ => ?_)
set_option maxHeartbeats 8000000 in
set_option maxRecDepth 100000 in
theorem impl_arePatterns.calls (k : Nat) (A0 : Option Addr) (c0 : Nat) (l0 : List (S57)) (r : Bool) (w : World) (hr0 : Kd.C k57 w A0 l0.length l0) (hc0 : l0.length ≤ c0) (h : impl_arePatterns.f k l0 = some r) :
  Calls Try.prog 36 #[.slice A0 l0.length c0] w fun e w' => e = .returned (.bool r) ∧ Below w.heap.size w w' := by
 have HR0 := Aside0.mk hr0
 have HC0 := Aside0.mk hc0
 clear hr0 hc0
 have HB := Aside0.mk (Below.refl w.heap.size w)
 have H : (if (l0.length : Int) ≤ 12 then ((impl_Pattern_61.f k l0 62).bind fun t193 => (some (!t193))) else (some false)) = some r := h
 clear h
 by_cases c2 : (l0.length : Int) ≤ 12
 ·rw [if_pos c2] at H
  have c2b0 : decide ((l0.length : Int) ≤ 12) = true := decide_eq_true c2
  have c2b1 : decide (l0.length ≤ 12) = true := decide_eq_true (by omega)
  clear c2
  replace H := lO H
  obtain ⟨t193, A3, H⟩ := H
  obtain rfl := Option.some.inj H
  go_enter Try.func36, Try.ntmps36
  go_wp2_with (first | (go_at_call 61; (with_reducible refine (impl_Pattern_61.calls k _ _ l0 62 t193 _ ?side1 ?side2 A3.out).mono ?_); (case side1 => repeat (first | exact HR0.out | (with_reducible refine Kd.C_alloc ?_ _) | (with_reducible refine Kd.C_drewN ?_ _) | (with_reducible refine Kd.C_drew ?_))); (case side2 => exact HC0.out); rintro e w4 ⟨rfl, hb⟩; have n0_ := Aside0.mk (below_step lB hb); clear HB; have HB := n0_; clear n0_; (try clear hb); (try clear hb2); (try clear hk); (try clear hi)))
  go_ret
  exact ⟨lE, lB⟩
 ·rw [if_neg c2] at H
  have c2b0 : decide ((l0.length : Int) ≤ 12) = false := decide_eq_false c2
  have c2b1 : decide (l0.length ≤ 12) = false := decide_eq_false (by omega)
  clear c2
  obtain rfl := Option.some.inj H
  go_enter Try.func36, Try.ntmps36
  first | (go_wp2; go_ret; exact ⟨lE, lB⟩) | (exfalso; simp only [decide_eq_false_iff_not, decide_eq_true_eq] at *; omega)

/-! ### impl_fits: function 46 -/
def impl_fits.l0 : Nat → List Int → Int → List Int → List Int → Int → Int → Option (List Int × Bool)
 | 0, _, _, _, _, _, _ => none
 | k + 1, x0, x1, x8, x13, x14, x15 => if x15 < x14 then (if 0 ≤ x15 then (if x15 < (x13.length : Int) then (if (rd x13 x15) = 0 then (if x8.length < 17592186044416 then ((impl_endOf.f k x0 x1).bind fun t202 => (impl_fits.l0 k x0 t202 (x8 ++ [x1]) x13 x14 (wrap64 (x15 + 1)))) else (none)) else (if x1 ≥ (x0.length : Int) then (some (([] : List Int), false)) else (if 0 ≤ x1 then (if x1 < (x0.length : Int) then (if (rd x0 x1) = (rd x13 x15) then (impl_fits.l0 k x0 (wrap64 (x1 + 1)) x8 x13 x14 (wrap64 (x15 + 1))) else (some (([] : List Int), false))) else (none)) else (none)))) else (none)) else (none)) else (some (x8, true))
def impl_fits.f (k : Nat) (l0 : List Int) (a1 : Int) (l2_0 : List Int) (a2_1 : Int) : Option (List Int × Bool) := impl_fits.l0 k l0 a1 (([] : List Int)) l2_0 (l2_0.length : Int) 0
theorem impl_fits.mono_l : ∀ k, (∀ y0 y1 y2 y3 y4 y5, LeO (impl_fits.l0 k y0 y1 y2 y3 y4 y5) (impl_fits.l0 (k + 1) y0 y1 y2 y3 y4 y5))
 | 0 => fun _ _ _ _ _ _ r h => by simp [impl_fits.l0] at h
 | k + 1 => by
  have ih0 := impl_fits.mono_l k
  ·intro y0 y1 y2 y3 y4 y5
   unfold impl_fits.l0
   repeat' first
   | with_reducible apply ih0
   | with_reducible apply impl_endOf.mono
   | (with_reducible exact LeO.refl _)
   | (with_reducible exact LeO.none _)
   | (with_reducible refine LeO.ite ?_ ?_)
   | (with_reducible refine LeO.bind ?_ (fun _ => ?_))
   | apply ih0
   | apply impl_endOf.mono
   | exact LeO.none _
   | refine LeO.ite ?_ ?_
   | refine LeO.bind ?_ (fun _ => ?_)
theorem impl_fits.mono : ∀ a0 a1 a2 a3 k, LeO (impl_fits.f k a0 a1 a2 a3) (impl_fits.f (k + 1) a0 a1 a2 a3) := by
 intro a0 a1 a2 a3 k
 have ih0 := impl_fits.mono_l k
 unfold impl_fits.f
 repeat' first
   | with_reducible apply ih0
   | with_reducible apply impl_endOf.mono
   | (with_reducible exact LeO.refl _)
   | (with_reducible exact LeO.none _)
   | (with_reducible refine LeO.ite ?_ ?_)
   | (with_reducible refine LeO.bind ?_ (fun _ => ?_))
   | apply ih0
   | apply impl_endOf.mono
   | exact LeO.none _
   | refine LeO.ite ?_ ?_
   | refine LeO.bind ?_ (fun _ => ?_)
set_option maxHeartbeats 8000000 in
set_option maxRecDepth 100000 in
theorem impl_fits.calls (k : Nat) (A0 : Option Addr) (c0 : Nat) (l0 : List Int) (a1 : Int) (A2_0 : Option Addr) (c2_0 : Nat) (l2_0 : List Int) (a2_1 : Int) (r1 : List Int) (r2 : Bool) (w : World) (hr0 : Kd.C (Kd.int .i64) w A0 l0.length l0) (hc0 : l0.length ≤ c0) (hr2_0 : Kd.C (Kd.int .i64) w A2_0 l2_0.length l2_0) (hc2_0 : l2_0.length ≤ c2_0) (h : impl_fits.f k l0 a1 l2_0 a2_1 = some (r1, r2)) :
  Calls Try.prog 46 #[.slice A0 l0.length c0, .int .i64 a1, .agg #[.slice A2_0 l2_0.length c2_0, .int .i64 a2_1]] w fun e w' => ∃ v0_ : Value, e = .returned (.tuple #[v0_, .bool r2]) ∧ Kd.R (Kd.int .i64) 3 w' w.heap.size (fun _ => True) v0_ r1 ∧ Below w.heap.size w w' := by
 have hu57 := Try.underlying57
 have HR0 := Aside0.mk hr0
 have HC0 := Aside0.mk hc0
 clear hr0 hc0
 have HR2_0 := Aside0.mk hr2_0
 have HC2_0 := Aside0.mk hc2_0
 clear hr2_0 hc2_0
 have HB := Aside0.mk (Below.refl w.heap.size w)
 have H : (impl_fits.l0 k l0 a1 (([] : List Int)) l2_0 (l2_0.length : Int) 0) = some (r1, r2) := h
 clear h
 obtain ⟨y195, hy195⟩ : ∃ y_ : List Int, y_ = (([] : List Int)) := ⟨_, rfl⟩
 replace H : (impl_fits.l0 k l0 a1 y195 l2_0 (l2_0.length : Int) 0) = some (r1, r2) := by first | (rw [hy195]; with_reducible exact H) | (have H2_ := (Option.bind_some _ _).symm.trans H; rw [hy195]; with_reducible exact H2_) | (have H2_ := (Option.bind_some _ _).symm.trans H; with_reducible exact H2_) | with_reducible exact H | (rw [hy195]; exact H) | exact H
 have Ny195 := Aside0.mk hy195
 clear hy195
 have H' := Aside0.mk H
 clear H
 go_enter Try.func46, Try.ntmps46
 go_wp2_with (first | ((with_reducible refine gate_dst (N := 5) rfl ?_); refine bxe 5 #[.slice A2_0 l2_0.length c2_0, .int .i64 a2_1] 57 ?_; intro gb194 hg w4 hbox hb; have n0_ := Aside0.mk (below_step lB hb); have n1_ := Aside0.mk (hbox); have n2_ := lG w hg; have n3_ := lG w hg; clear HB; have HB := n0_; have BK194 := n1_; have GW194 := n2_; have GE194 := n3_; clear n0_ n1_ n2_ n3_; clear hb hbox hg) | ((with_reducible refine gate_dst (N := 11) rfl ?_); refine Kd.R_lit (Kd.int .i64) _ 3 ?hg (N := 11) ?hd (xs := ([] : List Int)) (inner := []) (ok := fun _ => True) (okp := fun _ => True) ?hr ?hp (fun _ hk => hk) trivial (Below.refl _ _) (Nat.le_refl _) (by simp) ?_; (case hd => rfl); (case hg => rfl); (case hr => first | (go_simp; done) | (go_simp; rfl)); (case hp => exact (Reps.none _ _)); intro v196 w5 ho6 hb hg_ hnew_; clear hg_ hnew_; (first | rw [← Ny195.out] at ho6 | (simp only [Int.reduceToNat] at ho6; rw [← Ny195.out] at ho6)); have n0_ := Aside0.mk (Kd.R_lower ho6 (below_size lB)); have n1_ := Aside0.mk (blk_below (lK BK194.out) hb); have n2_ := Aside0.mk (below_step lB hb); clear BK194; clear HB; have HO197 := n0_; have BK194 := n1_; have HB := n2_; clear n0_ n1_ n2_; clear hb ho6; obtain ⟨hcz7_0, hfz7_0, hcz7_1, hfz7_1⟩ := bk2 BK194.out))
 go_loopg [1, 8, 15] k (fun kq v1 v8 v15 w' => ∃ (x1_1 : Int) (x8_1 : List Int) (x15_1 : Int), v1 = .int .i64 x1_1 ∧ v15 = .int .i64 x15_1 ∧ Aside0 (impl_fits.l0 kq l0 x1_1 x8_1 l2_0 (l2_0.length : Int) x15_1 = some (r1, r2)) ∧ Aside0 (kq ≤ k) ∧ Aside0 (Kd.R (Kd.int .i64) 3 w' w.heap.size (fun _ => True) v8 x8_1) ∧ Aside0 (w'.heap[gb194]? = some (.cells #[(.slice A2_0 l2_0.length c2_0), .int .i64 a2_1] 57 (0, 0))) ∧ Aside0 (Below w.heap.size w w'))
 case atStart => exact ⟨(a1), (y195), (0), lF, lF, H', ⟨Nat.le_refl _⟩, ⟨lR HO197.out⟩, ⟨lK BK194.out⟩, ⟨lB⟩⟩
 case round =>
  clear H'
  try clear c2
  try clear p2
  try clear c4
  try clear hcz7_0 hcz7_1 hfz7_0 hfz7_1
  obtain ⟨x1_1, x8_1, x15_1, rfl, rfl, HA, HK1, HO_8, BK194, HB⟩ := hrel
  cases gk with
  | zero => exact absurd HA.out (by simp [impl_fits.l0])
  | succ k1 =>
   have H := HA.out
   clear HA
   simp only [impl_fits.l0] at H
   by_cases c8 : x15_1 < (l2_0.length : Int)
   ·rw [if_pos c8] at H
    have c8b0 : decide (x15_1 < (l2_0.length : Int)) = true := decide_eq_true c8
    clear c8
    by_cases c9 : 0 ≤ x15_1
    ·rw [if_pos c9] at H
     have c9b0 : decide (0 ≤ x15_1) = true := decide_eq_true c9
     clear c9
     by_cases c10 : x15_1 < (l2_0.length : Int)
     ·rw [if_pos c10] at H
      have c10b0 : decide (x15_1 < (l2_0.length : Int)) = true := decide_eq_true c10
      clear c10
      by_cases c11 : (rd l2_0 x15_1) = 0
      ·rw [if_pos c11] at H
       have c11b0 : ((rd l2_0 x15_1) == 0) = true := beq_iff_eq.mpr c11
       have c11b1 : ((rd l2_0 x15_1) != 0) = false := bne_eq_false_iff_eq.mpr c11
       clear c11
       by_cases c12 : x8_1.length < 17592186044416
       ·rw [if_pos c12] at H
        have LMc12 := Aside0.mk c12
        clear c12
        obtain ⟨y199, hy199⟩ : ∃ y_ : List Int, y_ = (x8_1 ++ [x1_1]) := ⟨_, rfl⟩
        replace H : ((impl_endOf.f k1 l0 x1_1).bind fun t202 => (impl_fits.l0 k1 l0 t202 y199 l2_0 (l2_0.length : Int) (wrap64 (x15_1 + 1)))) = some (r1, r2) := by first | (rw [hy199]; with_reducible exact H) | (have H2_ := (Option.bind_some _ _).symm.trans H; rw [hy199]; with_reducible exact H2_) | (have H2_ := (Option.bind_some _ _).symm.trans H; with_reducible exact H2_) | with_reducible exact H | (rw [hy199]; exact H) | exact H
        have Ny199 := Aside0.mk hy199
        clear hy199
        replace H := lO H
        obtain ⟨t202, A13, H⟩ := H
        have H' := Aside0.mk H
        clear H
        have p198 : 0 ≤ (x15_1 : Int) := lD
        have q198 : x15_1 < (l2_0.length : Int) := lD
        obtain ⟨ad198, e198, hx198_0⟩ := Kd.at_int HR2_0.out x15_1 p198 q198
        cases e198
        replace hx198_0 := pw_cell_below HB.out hx198_0
        replace p198 := eq_true p198
        replace q198 := eq_true q198
        go_wp2_with (first | ((with_reducible refine gate_builtin (b := .append) (xs := #[.tmp 24, .tmp 26]) rfl ?_); at_builtin; refine Kd.R_append (Kd.int .i64) (w0 := w) w.heap.size rfl (.tmp 24) (.tmp 26) 22 3 (.int .i64 0) 8 rfl Try.underlying22 info3 rfl (by decide) (by omega) u8 x8_1 x1_1 [.int .i64 x1_1] (fun _ => True) (fun _ => False) rfl rfl ?aP (fun _ hk => hk.elim) ?aF ?aO ?aB ?aS ?aL ?_; (case aP => exact rfl); (case aB => exact lB); (case aF => exact (fun _ _ => trivial)); (case aO => exact (lR HO_8.out)); (case aS => exact (below_size lB)); (case aL => have := LMc12.out; omega); intro v200 w14 ho hb hg hat; rw [← Ny199.out] at ho; have n0_ := Aside0.mk (blk_grown (lK BK194.out) hg (Kd.R_ne HO_8.out BK194.out (by decide))); have n1_ := Aside0.mk (hb); have n2_ := Aside0.mk (ho); clear BK194; clear HB; clear HO_8; have BK194 := n0_; have HB := n1_; have HO201 := n2_; clear n0_ n1_ n2_; clear ho hb hg hat) | ((with_reducible refine gate_callee (f := 59) rfl ?_); refine gl_ (some 30) (Try.func59) #[.slice A0 l0.length c0, .int .i64 x1_1] ?_; (with_reducible refine (impl_endOf.calls k1 _ _ l0 x1_1 t202 _ ?side1 ?side2 A13.out).mono ?_); (case side1 => exact lC (Kd.C_below HR0.out HB.out)); (case side2 => exact HC0.out); rintro e w' ⟨rfl, ⟨nd, rfl⟩⟩; refine ⟨_, rfl, ?_⟩))
        go_roundg k1
        case measure => have := HK1.out; omega
        case rel => exact ⟨(t202), (y199), (wrap64 (x15_1 + 1)), lF, lF, H', ⟨by have := HK1.out; omega⟩, ⟨lR HO201.out⟩, ⟨lK BK194.out⟩, ⟨lB⟩⟩
       ·rw [if_neg c12] at H
        exact absurd H (by simp)
      ·rw [if_neg c11] at H
       have c11b0 : ((rd l2_0 x15_1) == 0) = false := beq_eq_false_iff_ne.mpr c11
       have c11b1 : ((rd l2_0 x15_1) != 0) = true := bne_iff_ne.mpr c11
       by_cases c15 : x1_1 ≥ (l0.length : Int)
       ·rw [if_pos c15] at H
        have c15b0 : decide ((l0.length : Int) ≤ x1_1) = true := decide_eq_true c15
        clear c15
        simp only [Option.some.injEq, Prod.mk.injEq] at H
        obtain ⟨rfl, rfl⟩ := H
        have p198 : 0 ≤ (x15_1 : Int) := lD
        have q198 : x15_1 < (l2_0.length : Int) := lD
        obtain ⟨ad198, e198, hx198_0⟩ := Kd.at_int HR2_0.out x15_1 p198 q198
        cases e198
        replace hx198_0 := pw_cell_below HB.out hx198_0
        replace p198 := eq_true p198
        replace q198 := eq_true q198
        go_wp2
        go_ret2
        exact ⟨_, lE, by first | exact Kd.R_nil _ _ _ _ _ | exact Kd.N_nil _ _ _ _ _ | exact Kd.V_nil _ _ _ _ _ | exact Kd.Q_nil _ _ _ _ _ | exact Kd.S_nil _ _ _ _ _, lB⟩
       ·rw [if_neg c15] at H
        have c15b0 : decide ((l0.length : Int) ≤ x1_1) = false := decide_eq_false c15
        clear c15
        by_cases c16 : 0 ≤ x1_1
        ·rw [if_pos c16] at H
         have c16b0 : decide (0 ≤ x1_1) = true := decide_eq_true c16
         clear c16
         by_cases c17 : x1_1 < (l0.length : Int)
         ·rw [if_pos c17] at H
          have c17b0 : decide (x1_1 < (l0.length : Int)) = true := decide_eq_true c17
          clear c17
          by_cases c18 : (rd l0 x1_1) = (rd l2_0 x15_1)
          ·rw [if_pos c18] at H
           have c18b0 : ((rd l0 x1_1) == (rd l2_0 x15_1)) = true := beq_iff_eq.mpr c18
           have c18b1 : ((rd l0 x1_1) != (rd l2_0 x15_1)) = false := bne_eq_false_iff_eq.mpr c18
           clear c18
           have H' := Aside0.mk H
           clear H
           have p198 : 0 ≤ (x15_1 : Int) := lD
           have q198 : x15_1 < (l2_0.length : Int) := lD
           obtain ⟨ad198, e198, hx198_0⟩ := Kd.at_int HR2_0.out x15_1 p198 q198
           cases e198
           replace hx198_0 := pw_cell_below HB.out hx198_0
           replace p198 := eq_true p198
           replace q198 := eq_true q198
           have p203 : 0 ≤ (x1_1 : Int) := lD
           have q203 : x1_1 < (l0.length : Int) := lD
           obtain ⟨ad203, e203, hx203_0⟩ := Kd.at_int HR0.out x1_1 p203 q203
           cases e203
           replace hx203_0 := pw_cell_below HB.out hx203_0
           replace p203 := eq_true p203
           replace q203 := eq_true q203
           go_wp2
           go_roundg k1
           case measure => have := HK1.out; omega
           case rel => exact ⟨(wrap64 (x1_1 + 1)), (x8_1), (wrap64 (x15_1 + 1)), lF, lF, H', ⟨by have := HK1.out; omega⟩, ⟨lR HO_8.out⟩, ⟨lK BK194.out⟩, ⟨lB⟩⟩
          ·rw [if_neg c18] at H
           have c18b0 : ((rd l0 x1_1) == (rd l2_0 x15_1)) = false := beq_eq_false_iff_ne.mpr c18
           have c18b1 : ((rd l0 x1_1) != (rd l2_0 x15_1)) = true := bne_iff_ne.mpr c18
           simp only [Option.some.injEq, Prod.mk.injEq] at H
           obtain ⟨rfl, rfl⟩ := H
           have p198 : 0 ≤ (x15_1 : Int) := lD
           have q198 : x15_1 < (l2_0.length : Int) := lD
           obtain ⟨ad198, e198, hx198_0⟩ := Kd.at_int HR2_0.out x15_1 p198 q198
           cases e198
           replace hx198_0 := pw_cell_below HB.out hx198_0
           replace p198 := eq_true p198
           replace q198 := eq_true q198
           have p203 : 0 ≤ (x1_1 : Int) := lD
           have q203 : x1_1 < (l0.length : Int) := lD
           obtain ⟨ad203, e203, hx203_0⟩ := Kd.at_int HR0.out x1_1 p203 q203
           cases e203
           replace hx203_0 := pw_cell_below HB.out hx203_0
           replace p203 := eq_true p203
           replace q203 := eq_true q203
           go_wp2
           go_ret2
           exact ⟨_, lE, by first | exact Kd.R_nil _ _ _ _ _ | exact Kd.N_nil _ _ _ _ _ | exact Kd.V_nil _ _ _ _ _ | exact Kd.Q_nil _ _ _ _ _ | exact Kd.S_nil _ _ _ _ _, lB⟩
         ·rw [if_neg c17] at H
          exact absurd H (by simp)
        ·rw [if_neg c16] at H
         exact absurd H (by simp)
     ·rw [if_neg c10] at H
      exact absurd H (by simp)
    ·rw [if_neg c9] at H
     exact absurd H (by simp)
   ·rw [if_neg c8] at H
    have c8b0 : decide (x15_1 < (l2_0.length : Int)) = false := decide_eq_false c8
    clear c8
    simp only [Option.some.injEq, Prod.mk.injEq] at H
    obtain ⟨rfl, rfl⟩ := H
    go_wp2
    go_ret2
    exact ⟨_, lE, lR HO_8.out, lB⟩

end Go.Proofs.Ytfdbdbihhgabpaa.Q
