-- Written by the program wip/tools/pr.py of this claim's session, over the kit's print.py.
import Derived.Test.YtjmgleomljfieaaQx0
import Derived.Test.YtjmgleomljfieaaQx2
import Derived.Test.YtjmgleomljfieaaQx3
namespace Go.Proofs.Ytjmgleomljfieaa.Q
open Go.RowKit Go.Proofs.YtjmgleomljfieaaW.PrintWords Go.Proofs.YtjmgleomljfieaaW.PrintLast Go.Proofs.YtjmgleomljfieaaW.PrintMore
attribute [local go_sem] max2_int min2_int max_two min_two max_three min_three max_four min_four   -- for this text's walks alone
set_option linter.unusedVariables false
set_option linter.unusedSimpArgs false

/-! ### impl_World_find: function 62 -/
def impl_World_find.l0 : Nat → Int → Int → List (S82) → Int → Option (Int)
 | 0, _, _, _, _ => none
 | k + 1, x1, x2, x140000, x140001 => if x1 ≥ 0 then (if 0 ≤ x1 then (if x1 < (x140000.length : Int) then (if 0 ≤ x2 then (if x2 < (((rd_T82 x140000 x1).f1).length : Int) then (if (rd ((rd_T82 x140000 x1).f1) x2) = 0 then (impl_World_find.l0 k ((rd_T82 x140000 x1).f0) x2 x140000 x140001) else (if x1 < 0 then (some 0) else (some (rd ((rd_T82 x140000 x1).f1) x2)))) else (none)) else (none)) else (none)) else (none)) else (if x1 < 0 then (some 0) else (if 0 ≤ x1 then (if x1 < (x140000.length : Int) then (if 0 ≤ x2 then (if x2 < (((rd_T82 x140000 x1).f1).length : Int) then (some (rd ((rd_T82 x140000 x1).f1) x2)) else (none)) else (none)) else (none)) else (none)))
def impl_World_find.f (k : Nat) (l0_0 : List (S82)) (a0_1 : Int) (a1 : Int) (a2 : Int) : Option (Int) := impl_World_find.l0 k a1 a2 l0_0 a0_1
theorem impl_World_find.mono_l : ∀ k, (∀ y0 y1 y2 y3, LeO (impl_World_find.l0 k y0 y1 y2 y3) (impl_World_find.l0 (k + 1) y0 y1 y2 y3))
 | 0 => fun _ _ _ _ r h => by simp [impl_World_find.l0] at h
 | k + 1 => by
  have ih0 := impl_World_find.mono_l k
  ·intro y0 y1 y2 y3
   unfold impl_World_find.l0
   repeat' first
   | with_reducible apply ih0
   | (with_reducible exact LeO.refl _)
   | (with_reducible exact LeO.none _)
   | (with_reducible refine LeO.ite ?_ ?_)
   | (with_reducible refine LeO.bind ?_ (fun _ => ?_))
   | apply ih0
   | exact LeO.none _
   | refine LeO.ite ?_ ?_
   | refine LeO.bind ?_ (fun _ => ?_)
theorem impl_World_find.mono : ∀ a0 a1 a2 a3 k, LeO (impl_World_find.f k a0 a1 a2 a3) (impl_World_find.f (k + 1) a0 a1 a2 a3) := by
 intro a0 a1 a2 a3 k
 have ih0 := impl_World_find.mono_l k
 unfold impl_World_find.f
 repeat' first
   | with_reducible apply ih0
   | (with_reducible exact LeO.refl _)
   | (with_reducible exact LeO.none _)
   | (with_reducible refine LeO.ite ?_ ?_)
   | (with_reducible refine LeO.bind ?_ (fun _ => ?_))
   | apply ih0
   | exact LeO.none _
   | refine LeO.ite ?_ ?_
   | refine LeO.bind ?_ (fun _ => ?_)
set_option maxHeartbeats 8000000 in
set_option maxRecDepth 100000 in
theorem impl_World_find.calls (k : Nat) (A0_0 : Option Addr) (c0_0 : Nat) (l0_0 : List (S82)) (a0_1 : Int) (a1 : Int) (a2 : Int) (r : Int) (w : World) (hr0_0 : Kd.C k82 w A0_0 l0_0.length l0_0) (hc0_0 : l0_0.length ≤ c0_0) (h : impl_World_find.f k l0_0 a0_1 a1 a2 = some r) :
  Calls Try.prog 62 #[.agg #[.slice A0_0 l0_0.length c0_0, .int .i64 a0_1], .int .i64 a1, .int .i64 a2] w fun e w' => e = .returned (.int .i64 r) ∧ Below w.heap.size w w' := by
 have hu29 := Try.underlying29
 have HR0_0 := Aside0.mk hr0_0
 have HC0_0 := Aside0.mk hc0_0
 clear hr0_0 hc0_0
 have HB := Aside0.mk (Below.refl w.heap.size w)
 have H : (impl_World_find.l0 k a1 a2 l0_0 a0_1) = some r := h
 clear h
 have H' := Aside0.mk H
 clear H
 go_enter Try.func62, Try.ntmps62
 go_wp2_with (first | ((with_reducible refine gate_dst (N := 3) rfl ?_); refine bxe 3 #[.slice A0_0 l0_0.length c0_0, .int .i64 a0_1] 29 ?_; intro gb139 hg w4 hbox hb; have n0_ := Aside0.mk (below_step lB hb); have n1_ := Aside0.mk (hbox); have n2_ := lG w hg; have n3_ := lG w hg; clear HB; have HB := n0_; have BK139 := n1_; have GW139 := n2_; have GE139 := n3_; clear n0_ n1_ n2_ n3_; clear hb hbox hg))
 go_loopg [1] k (fun kq v1 w' => ∃ (x1_1 : Int), v1 = .int .i64 x1_1 ∧ Aside0 (impl_World_find.l0 kq x1_1 a2 l0_0 a0_1 = some r) ∧ Aside0 (kq ≤ k) ∧ Aside0 (w'.heap[gb139]? = some (.cells #[(.slice A0_0 l0_0.length c0_0), .int .i64 a0_1] 29 (0, 0))) ∧ Aside0 (Below w.heap.size w w'))
 case atStart => exact ⟨(a1), lF, H', ⟨Nat.le_refl _⟩, ⟨lK BK139.out⟩, ⟨lB⟩⟩
 case round =>
  clear H'
  try clear p2
  obtain ⟨x1_1, rfl, HA, HK1, BK139, HB⟩ := hrel
  cases gk with
  | zero => exact absurd HA.out (by simp [impl_World_find.l0])
  | succ k1 =>
   have H := HA.out
   clear HA
   simp only [impl_World_find.l0] at H
   by_cases c5 : x1_1 ≥ 0
   ·rw [if_pos c5] at H
    have c5b0 : decide (0 ≤ x1_1) = true := decide_eq_true c5
    clear c5
    by_cases c6 : 0 ≤ x1_1
    ·rw [if_pos c6] at H
     have c6b0 : decide (0 ≤ x1_1) = true := decide_eq_true c6
     clear c6
     by_cases c7 : x1_1 < (l0_0.length : Int)
     ·rw [if_pos c7] at H
      have c7b0 : decide (x1_1 < (l0_0.length : Int)) = true := decide_eq_true c7
      clear c7
      by_cases c8 : 0 ≤ a2
      ·rw [if_pos c8] at H
       have c8b0 : decide (0 ≤ a2) = true := decide_eq_true c8
       clear c8
       by_cases c9 : a2 < (((rd_T82 l0_0 x1_1).f1).length : Int)
       ·rw [if_pos c9] at H
        have c9b0 : decide (a2 < (((rd_T82 l0_0 x1_1).f1).length : Int)) = true := decide_eq_true c9
        clear c9
        by_cases c10 : (rd ((rd_T82 l0_0 x1_1).f1) a2) = 0
        ·rw [if_pos c10] at H
         have c10b0 : ((rd ((rd_T82 l0_0 x1_1).f1) a2) == 0) = true := beq_iff_eq.mpr c10
         have c10b1 : ((rd ((rd_T82 l0_0 x1_1).f1) a2) != 0) = false := bne_eq_false_iff_eq.mpr c10
         clear c10
         have H' := Aside0.mk H
         clear H
         obtain ⟨hcz11_0, hfz11_0, hcz11_1, hfz11_1⟩ := bk2 BK139.out
         have p140 : 0 ≤ (x1_1 : Int) := lD
         have q140 : x1_1 < (l0_0.length : Int) := lD
         obtain ⟨ad140, A140_1, c140_1, e140, hx140_0, hx140_1, hl140_1, hi140_1⟩ := at_T82 HR0_0.out x1_1 p140 q140
         cases e140
         replace hx140_0 := pw_cell_below HB.out hx140_0
         replace hx140_1 := pw_cell_below HB.out hx140_1
         have HR140_1 := Aside0.mk hi140_1
         have HC140_1 := Aside0.mk hl140_1
         clear hi140_1 hl140_1
         replace p140 := eq_true p140
         replace q140 := eq_true q140
         have p141 : 0 ≤ (a2 : Int) := lD
         have q141 : a2 < (((rd_T82 l0_0 x1_1).f1).length : Int) := lD
         obtain ⟨ad141, e141, hx141_0⟩ := Kd.at_int HR140_1.out a2 p141 q141
         cases e141
         replace hx141_0 := pw_cell_below HB.out hx141_0
         replace p141 := eq_true p141
         replace q141 := eq_true q141
         have p142 : 0 ≤ (x1_1 : Int) := lD
         have q142 : x1_1 < (l0_0.length : Int) := lD
         obtain ⟨ad142, A142_1, c142_1, e142, hx142_0, hx142_1, hl142_1, hi142_1⟩ := at_T82 HR0_0.out x1_1 p142 q142
         obtain rfl : ad140 = ad142 := (by injection e142)
         replace hx142_0 := pw_cell_below HB.out hx142_0
         replace hx142_1 := pw_cell_below HB.out hx142_1
         have HR142_1 := Aside0.mk hi142_1
         have HC142_1 := Aside0.mk hl142_1
         clear hi142_1 hl142_1
         replace p142 := eq_true p142
         replace q142 := eq_true q142
         have ea_ := Option.some.inj (hx140_1.symm.trans hx142_1)
         injection ea_ with ea_ en_ ec_
         subst ea_
         subst ec_
         clear en_
         go_wp2
         go_roundg k1
         case measure => have := HK1.out; omega
         case rel => exact ⟨((rd_T82 l0_0 x1_1).f0), lF, H', ⟨by have := HK1.out; omega⟩, ⟨lK BK139.out⟩, ⟨lB⟩⟩
        ·rw [if_neg c10] at H
         have c10b0 : ((rd ((rd_T82 l0_0 x1_1).f1) a2) == 0) = false := beq_eq_false_iff_ne.mpr c10
         have c10b1 : ((rd ((rd_T82 l0_0 x1_1).f1) a2) != 0) = true := bne_iff_ne.mpr c10
         by_cases c12 : x1_1 < 0
         ·rw [if_pos c12] at H
          have c12b0 : decide (x1_1 < 0) = true := decide_eq_true c12
          clear c12
          obtain rfl := Option.some.inj H
          obtain ⟨hcz13_0, hfz13_0, hcz13_1, hfz13_1⟩ := bk2 BK139.out
          have p140 : 0 ≤ (x1_1 : Int) := lD
          have q140 : x1_1 < (l0_0.length : Int) := lD
          obtain ⟨ad140, A140_1, c140_1, e140, hx140_0, hx140_1, hl140_1, hi140_1⟩ := at_T82 HR0_0.out x1_1 p140 q140
          cases e140
          replace hx140_0 := pw_cell_below HB.out hx140_0
          replace hx140_1 := pw_cell_below HB.out hx140_1
          have HR140_1 := Aside0.mk hi140_1
          have HC140_1 := Aside0.mk hl140_1
          clear hi140_1 hl140_1
          replace p140 := eq_true p140
          replace q140 := eq_true q140
          have p141 : 0 ≤ (a2 : Int) := lD
          have q141 : a2 < (((rd_T82 l0_0 x1_1).f1).length : Int) := lD
          obtain ⟨ad141, e141, hx141_0⟩ := Kd.at_int HR140_1.out a2 p141 q141
          cases e141
          replace hx141_0 := pw_cell_below HB.out hx141_0
          replace p141 := eq_true p141
          replace q141 := eq_true q141
          first | (go_wp2; go_ret; exact ⟨lE, lB⟩) | (exfalso; simp only [decide_eq_false_iff_not, decide_eq_true_eq] at *; omega)
         ·rw [if_neg c12] at H
          have c12b0 : decide (x1_1 < 0) = false := decide_eq_false c12
          clear c12
          obtain rfl := Option.some.inj H
          obtain ⟨hcz14_0, hfz14_0, hcz14_1, hfz14_1⟩ := bk2 BK139.out
          have p140 : 0 ≤ (x1_1 : Int) := lD
          have q140 : x1_1 < (l0_0.length : Int) := lD
          obtain ⟨ad140, A140_1, c140_1, e140, hx140_0, hx140_1, hl140_1, hi140_1⟩ := at_T82 HR0_0.out x1_1 p140 q140
          cases e140
          replace hx140_0 := pw_cell_below HB.out hx140_0
          replace hx140_1 := pw_cell_below HB.out hx140_1
          have HR140_1 := Aside0.mk hi140_1
          have HC140_1 := Aside0.mk hl140_1
          clear hi140_1 hl140_1
          replace p140 := eq_true p140
          replace q140 := eq_true q140
          have p141 : 0 ≤ (a2 : Int) := lD
          have q141 : a2 < (((rd_T82 l0_0 x1_1).f1).length : Int) := lD
          obtain ⟨ad141, e141, hx141_0⟩ := Kd.at_int HR140_1.out a2 p141 q141
          cases e141
          replace hx141_0 := pw_cell_below HB.out hx141_0
          replace p141 := eq_true p141
          replace q141 := eq_true q141
          have p143 : 0 ≤ (x1_1 : Int) := lD
          have q143 : x1_1 < (l0_0.length : Int) := lD
          obtain ⟨ad143, A143_1, c143_1, e143, hx143_0, hx143_1, hl143_1, hi143_1⟩ := at_T82 HR0_0.out x1_1 p143 q143
          obtain rfl : ad140 = ad143 := (by injection e143)
          replace hx143_0 := pw_cell_below HB.out hx143_0
          replace hx143_1 := pw_cell_below HB.out hx143_1
          have HR143_1 := Aside0.mk hi143_1
          have HC143_1 := Aside0.mk hl143_1
          clear hi143_1 hl143_1
          replace p143 := eq_true p143
          replace q143 := eq_true q143
          have ea_ := Option.some.inj (hx140_1.symm.trans hx143_1)
          injection ea_ with ea_ en_ ec_
          subst ea_
          subst ec_
          clear en_
          have p144 : 0 ≤ (a2 : Int) := lD
          have q144 : a2 < (((rd_T82 l0_0 x1_1).f1).length : Int) := lD
          obtain ⟨ad144, e144, hx144_0⟩ := Kd.at_int HR143_1.out a2 p144 q144
          cases e144
          replace hx144_0 := pw_cell_below HB.out hx144_0
          replace p144 := eq_true p144
          replace q144 := eq_true q144
          first | (go_wp2; go_ret; exact ⟨lE, lB⟩) | (exfalso; simp only [decide_eq_false_iff_not, decide_eq_true_eq] at *; omega)
       ·rw [if_neg c9] at H
        exact absurd H (by simp)
      ·rw [if_neg c8] at H
       exact absurd H (by simp)
     ·rw [if_neg c7] at H
      exact absurd H (by simp)
    ·rw [if_neg c6] at H
     exact absurd H (by simp)
   ·rw [if_neg c5] at H
    have c5b0 : decide (0 ≤ x1_1) = false := decide_eq_false c5
    clear c5
    by_cases c15 : x1_1 < 0
    ·rw [if_pos c15] at H
     have c15b0 : decide (x1_1 < 0) = true := decide_eq_true c15
     clear c15
     obtain rfl := Option.some.inj H
     first | (go_wp2; go_ret; exact ⟨lE, lB⟩) | (exfalso; simp only [decide_eq_false_iff_not, decide_eq_true_eq] at *; omega)
    ·rw [if_neg c15] at H
     have c15b0 : decide (x1_1 < 0) = false := decide_eq_false c15
     clear c15
     by_cases c16 : 0 ≤ x1_1
     ·rw [if_pos c16] at H
      have c16b0 : decide (0 ≤ x1_1) = true := decide_eq_true c16
      clear c16
      by_cases c17 : x1_1 < (l0_0.length : Int)
      ·rw [if_pos c17] at H
       have c17b0 : decide (x1_1 < (l0_0.length : Int)) = true := decide_eq_true c17
       clear c17
       by_cases c18 : 0 ≤ a2
       ·rw [if_pos c18] at H
        have c18b0 : decide (0 ≤ a2) = true := decide_eq_true c18
        clear c18
        by_cases c19 : a2 < (((rd_T82 l0_0 x1_1).f1).length : Int)
        ·rw [if_pos c19] at H
         have c19b0 : decide (a2 < (((rd_T82 l0_0 x1_1).f1).length : Int)) = true := decide_eq_true c19
         clear c19
         obtain rfl := Option.some.inj H
         obtain ⟨hcz20_0, hfz20_0, hcz20_1, hfz20_1⟩ := bk2 BK139.out
         have p145 : 0 ≤ (x1_1 : Int) := lD
         have q145 : x1_1 < (l0_0.length : Int) := lD
         obtain ⟨ad145, A145_1, c145_1, e145, hx145_0, hx145_1, hl145_1, hi145_1⟩ := at_T82 HR0_0.out x1_1 p145 q145
         cases e145
         replace hx145_0 := pw_cell_below HB.out hx145_0
         replace hx145_1 := pw_cell_below HB.out hx145_1
         have HR145_1 := Aside0.mk hi145_1
         have HC145_1 := Aside0.mk hl145_1
         clear hi145_1 hl145_1
         replace p145 := eq_true p145
         replace q145 := eq_true q145
         have p146 : 0 ≤ (a2 : Int) := lD
         have q146 : a2 < (((rd_T82 l0_0 x1_1).f1).length : Int) := lD
         obtain ⟨ad146, e146, hx146_0⟩ := Kd.at_int HR145_1.out a2 p146 q146
         cases e146
         replace hx146_0 := pw_cell_below HB.out hx146_0
         replace p146 := eq_true p146
         replace q146 := eq_true q146
         first | (go_wp2; go_ret; exact ⟨lE, lB⟩) | (exfalso; simp only [decide_eq_false_iff_not, decide_eq_true_eq] at *; omega)
        ·rw [if_neg c19] at H
         exact absurd H (by simp)
       ·rw [if_neg c18] at H
        exact absurd H (by simp)
      ·rw [if_neg c17] at H
       exact absurd H (by simp)
     ·rw [if_neg c16] at H
      exact absurd H (by simp)

/-! ### impl_FindMethod: function 21 -/
def impl_FindMethod.f (k : Nat) (l0_0 : List (S82)) (a0_1 : Int) (a1 : Int) (a2 : Int) : Option (Int × Bool) := (impl_isWorld.f k l0_0 a0_1).bind fun t148 => (if t148 = true then ((impl_in.f a1 0 (wrap64 ((l0_0.length : Int) - 1))).bind fun t149 => (if t149 = true then ((impl_in.f a2 0 4).bind fun t150 => (if t150 = true then ((impl_World_find.f k l0_0 a0_1 a1 a2).bind fun t151 => (some (t151, decide (t151 > 0)))) else (some (0, false)))) else (some (0, false)))) else (some (0, false)))
theorem impl_FindMethod.mono : ∀ a0 a1 a2 a3 k, LeO (impl_FindMethod.f k a0 a1 a2 a3) (impl_FindMethod.f (k + 1) a0 a1 a2 a3) := by
 intro a0 a1 a2 a3 k
 unfold impl_FindMethod.f
 repeat' first
   | with_reducible apply impl_World_find.mono
   | with_reducible apply impl_isWorld.mono
   | (with_reducible exact LeO.refl _)
   | (with_reducible exact LeO.none _)
   | (with_reducible refine LeO.ite ?_ ?_)
   | (with_reducible refine LeO.bind ?_ (fun _ => ?_))
   | apply impl_World_find.mono
   | apply impl_isWorld.mono
   | exact LeO.none _
   | refine LeO.ite ?_ ?_
   | refine LeO.bind ?_ (fun _ => ?_)
set_option maxHeartbeats 8000000 in
set_option maxRecDepth 100000 in
theorem impl_FindMethod.calls (k : Nat) (A0_0 : Option Addr) (c0_0 : Nat) (l0_0 : List (S82)) (a0_1 : Int) (a1 : Int) (a2 : Int) (r1 : Int) (r2 : Bool) (w : World) (hr0_0 : Kd.C k82 w A0_0 l0_0.length l0_0) (hc0_0 : l0_0.length ≤ c0_0) (h : impl_FindMethod.f k l0_0 a0_1 a1 a2 = some (r1, r2)) :
  Calls Try.prog 21 #[.agg #[.slice A0_0 l0_0.length c0_0, .int .i64 a0_1], .int .i64 a1, .int .i64 a2] w fun e w' => e = .returned (.tuple #[.int .i64 r1, .bool r2]) ∧ Below w.heap.size w w' := by
 have hu29 := Try.underlying29
 have HR0_0 := Aside0.mk hr0_0
 have HC0_0 := Aside0.mk hc0_0
 clear hr0_0 hc0_0
 have HB := Aside0.mk (Below.refl w.heap.size w)
 have H : ((impl_isWorld.f k l0_0 a0_1).bind fun t148 => (if t148 = true then ((impl_in.f a1 0 (wrap64 ((l0_0.length : Int) - 1))).bind fun t149 => (if t149 = true then ((impl_in.f a2 0 4).bind fun t150 => (if t150 = true then ((impl_World_find.f k l0_0 a0_1 a1 a2).bind fun t151 => (some (t151, decide (t151 > 0)))) else (some (0, false)))) else (some (0, false)))) else (some (0, false)))) = some (r1, r2) := h
 clear h
 replace H := lO H
 obtain ⟨t148, A4, H⟩ := H
 by_cases c5 : t148 = true
 ·subst c5
  rw [if_pos rfl] at H
  replace H := lO H
  obtain ⟨t149, A6, H⟩ := H
  by_cases c7 : t149 = true
  ·subst c7
   rw [if_pos rfl] at H
   replace H := lO H
   obtain ⟨t150, A8, H⟩ := H
   by_cases c9 : t150 = true
   ·subst c9
    rw [if_pos rfl] at H
    replace H := lO H
    obtain ⟨t151, A10, H⟩ := H
    simp only [Option.some.injEq, Prod.mk.injEq] at H
    obtain ⟨rfl, rfl⟩ := H
    go_enter Try.func21, Try.ntmps21
    go_wp2_with (first | ((with_reducible refine gate_dst (N := 3) rfl ?_); (try (refine gate_guard (by rfl) ?_; dsimp only)); refine bxe 3 #[.slice A0_0 l0_0.length c0_0, .int .i64 a0_1] 29 ?_; intro gb147 hg w11 hbox hb; have n0_ := Aside0.mk (below_step lB hb); have n1_ := Aside0.mk (hbox); have n2_ := lG w hg; have n3_ := lG w hg; clear HB; have HB := n0_; have BK147 := n1_; have GW147 := n2_; have GE147 := n3_; clear n0_ n1_ n2_ n3_; clear hb hbox hg; obtain ⟨hcz12_0, hfz12_0, hcz12_1, hfz12_1⟩ := bk2 BK147.out) | ((with_reducible refine gate_callee (f := 56) rfl ?_); refine gl_ (some 10) (Try.func56) #[.agg #[.slice A0_0 l0_0.length c0_0, .int .i64 a0_1]] ?_; (with_reducible refine (impl_isWorld.calls k _ _ l0_0 a0_1 true _ ?side1 ?side2 A4.out).mono ?_); (case side1 => exact lC (Kd.C_below HR0_0.out HB.out)); (case side2 => exact HC0_0.out); rintro e w13 ⟨rfl, hb⟩; refine ⟨_, rfl, ?_⟩; have n0_ := Aside0.mk (blk_below (lK BK147.out) hb); have n1_ := Aside0.mk (below_step lB hb); clear BK147; clear HB; have BK147 := n0_; have HB := n1_; clear n0_ n1_; (try clear hb); (try clear hb2); (try clear hk); (try clear hi); obtain ⟨hcz14_0, hfz14_0, hcz14_1, hfz14_1⟩ := bk2 BK147.out) | (go_at_call 59; (with_reducible refine (impl_in.calls a1 0 (wrap64 ((l0_0.length : Int) - 1)) true _ A6.out).mono ?_); rintro e w' ⟨rfl, ⟨nd, rfl⟩⟩) | (go_at_call 59; (with_reducible refine (impl_in.calls a2 0 4 true _ A8.out).mono ?_); rintro e w' ⟨rfl, ⟨nd, rfl⟩⟩) | ((with_reducible refine gate_callee (f := 62) rfl ?_); refine gl_ (some 29) (Try.func62) #[.agg #[.slice A0_0 l0_0.length c0_0, .int .i64 a0_1], .int .i64 a1, .int .i64 a2] ?_; (with_reducible refine (impl_World_find.calls k _ _ l0_0 a0_1 a1 a2 t151 _ ?side1 ?side2 A10.out).mono ?_); (case side1 => repeat (first | exact (Kd.C_below HR0_0.out lB) | (with_reducible refine Kd.C_alloc ?_ _) | (with_reducible refine Kd.C_drewN ?_ _) | (with_reducible refine Kd.C_drew ?_))); (case side2 => exact HC0_0.out); rintro e w15 ⟨rfl, hb⟩; refine ⟨_, rfl, ?_⟩; have n0_ := Aside0.mk (blk_below (lK BK147.out) hb); have n1_ := Aside0.mk (below_step lB hb); clear BK147; clear HB; have BK147 := n0_; have HB := n1_; clear n0_ n1_; (try clear hb); (try clear hb2); (try clear hk); (try clear hi)))
    go_ret2
    exact ⟨lE, lB⟩
   ·replace c9 := Bool.eq_false_iff.mpr c9
    subst c9
    rw [if_neg (show ¬ (false = true) by decide)] at H
    simp only [Option.some.injEq, Prod.mk.injEq] at H
    obtain ⟨rfl, rfl⟩ := H
    go_enter Try.func21, Try.ntmps21
    go_wp2_with (first | ((with_reducible refine gate_dst (N := 3) rfl ?_); (try (refine gate_guard (by rfl) ?_; dsimp only)); refine bxe 3 #[.slice A0_0 l0_0.length c0_0, .int .i64 a0_1] 29 ?_; intro gb147 hg w16 hbox hb; have n0_ := Aside0.mk (below_step lB hb); have n1_ := Aside0.mk (hbox); have n2_ := lG w hg; have n3_ := lG w hg; clear HB; have HB := n0_; have BK147 := n1_; have GW147 := n2_; have GE147 := n3_; clear n0_ n1_ n2_ n3_; clear hb hbox hg; obtain ⟨hcz17_0, hfz17_0, hcz17_1, hfz17_1⟩ := bk2 BK147.out) | ((with_reducible refine gate_callee (f := 56) rfl ?_); refine gl_ (some 10) (Try.func56) #[.agg #[.slice A0_0 l0_0.length c0_0, .int .i64 a0_1]] ?_; (with_reducible refine (impl_isWorld.calls k _ _ l0_0 a0_1 true _ ?side1 ?side2 A4.out).mono ?_); (case side1 => exact lC (Kd.C_below HR0_0.out HB.out)); (case side2 => exact HC0_0.out); rintro e w18 ⟨rfl, hb⟩; refine ⟨_, rfl, ?_⟩; have n0_ := Aside0.mk (blk_below (lK BK147.out) hb); have n1_ := Aside0.mk (below_step lB hb); clear BK147; clear HB; have BK147 := n0_; have HB := n1_; clear n0_ n1_; (try clear hb); (try clear hb2); (try clear hk); (try clear hi); obtain ⟨hcz19_0, hfz19_0, hcz19_1, hfz19_1⟩ := bk2 BK147.out) | (go_at_call 59; (with_reducible refine (impl_in.calls a1 0 (wrap64 ((l0_0.length : Int) - 1)) true _ A6.out).mono ?_); rintro e w' ⟨rfl, ⟨nd, rfl⟩⟩) | (go_at_call 59; (with_reducible refine (impl_in.calls a2 0 4 false _ A8.out).mono ?_); rintro e w' ⟨rfl, ⟨nd, rfl⟩⟩))
    go_ret2
    exact ⟨lE, lB⟩
  ·replace c7 := Bool.eq_false_iff.mpr c7
   subst c7
   rw [if_neg (show ¬ (false = true) by decide)] at H
   simp only [Option.some.injEq, Prod.mk.injEq] at H
   obtain ⟨rfl, rfl⟩ := H
   go_enter Try.func21, Try.ntmps21
   go_wp2_with (first | ((with_reducible refine gate_dst (N := 3) rfl ?_); (try (refine gate_guard (by rfl) ?_; dsimp only)); refine bxe 3 #[.slice A0_0 l0_0.length c0_0, .int .i64 a0_1] 29 ?_; intro gb147 hg w20 hbox hb; have n0_ := Aside0.mk (below_step lB hb); have n1_ := Aside0.mk (hbox); have n2_ := lG w hg; have n3_ := lG w hg; clear HB; have HB := n0_; have BK147 := n1_; have GW147 := n2_; have GE147 := n3_; clear n0_ n1_ n2_ n3_; clear hb hbox hg; obtain ⟨hcz21_0, hfz21_0, hcz21_1, hfz21_1⟩ := bk2 BK147.out) | ((with_reducible refine gate_callee (f := 56) rfl ?_); refine gl_ (some 10) (Try.func56) #[.agg #[.slice A0_0 l0_0.length c0_0, .int .i64 a0_1]] ?_; (with_reducible refine (impl_isWorld.calls k _ _ l0_0 a0_1 true _ ?side1 ?side2 A4.out).mono ?_); (case side1 => exact lC (Kd.C_below HR0_0.out HB.out)); (case side2 => exact HC0_0.out); rintro e w22 ⟨rfl, hb⟩; refine ⟨_, rfl, ?_⟩; have n0_ := Aside0.mk (blk_below (lK BK147.out) hb); have n1_ := Aside0.mk (below_step lB hb); clear BK147; clear HB; have BK147 := n0_; have HB := n1_; clear n0_ n1_; (try clear hb); (try clear hb2); (try clear hk); (try clear hi); obtain ⟨hcz23_0, hfz23_0, hcz23_1, hfz23_1⟩ := bk2 BK147.out) | (go_at_call 59; (with_reducible refine (impl_in.calls a1 0 (wrap64 ((l0_0.length : Int) - 1)) false _ A6.out).mono ?_); rintro e w' ⟨rfl, ⟨nd, rfl⟩⟩))
   go_ret2
   exact ⟨lE, lB⟩
 ·replace c5 := Bool.eq_false_iff.mpr c5
  subst c5
  rw [if_neg (show ¬ (false = true) by decide)] at H
  simp only [Option.some.injEq, Prod.mk.injEq] at H
  obtain ⟨rfl, rfl⟩ := H
  go_enter Try.func21, Try.ntmps21
  go_wp2_with (first | ((with_reducible refine gate_dst (N := 3) rfl ?_); (try (refine gate_guard (by rfl) ?_; dsimp only)); refine bxe 3 #[.slice A0_0 l0_0.length c0_0, .int .i64 a0_1] 29 ?_; intro gb147 hg w24 hbox hb; have n0_ := Aside0.mk (below_step lB hb); have n1_ := Aside0.mk (hbox); have n2_ := lG w hg; have n3_ := lG w hg; clear HB; have HB := n0_; have BK147 := n1_; have GW147 := n2_; have GE147 := n3_; clear n0_ n1_ n2_ n3_; clear hb hbox hg; obtain ⟨hcz25_0, hfz25_0, hcz25_1, hfz25_1⟩ := bk2 BK147.out) | ((with_reducible refine gate_callee (f := 56) rfl ?_); refine gl_ (some 10) (Try.func56) #[.agg #[.slice A0_0 l0_0.length c0_0, .int .i64 a0_1]] ?_; (with_reducible refine (impl_isWorld.calls k _ _ l0_0 a0_1 false _ ?side1 ?side2 A4.out).mono ?_); (case side1 => exact lC (Kd.C_below HR0_0.out HB.out)); (case side2 => exact HC0_0.out); rintro e w26 ⟨rfl, hb⟩; refine ⟨_, rfl, ?_⟩; have n0_ := Aside0.mk (blk_below (lK BK147.out) hb); have n1_ := Aside0.mk (below_step lB hb); clear BK147; clear HB; have BK147 := n0_; have HB := n1_; clear n0_ n1_; (try clear hb); (try clear hb2); (try clear hk); (try clear hi)))
  go_ret2
  exact ⟨lE, lB⟩

/-! ### spec_l12Own: function 63 -/
def spec_l12Own.l0 : Nat → List (S82) → Int → Int → List (S82) → Int → Option ((List (S82)) × Int)
 | 0, _, _, _, _, _ => none
 | k + 1, x10, x11, x12, x155000, x155001 => if x12 < x11 then (if 0 ≤ x12 then (if x12 < (x10.length : Int) then ((some (([] : List Int) : List Int)).bind fun y157 => (if y157.length + ((rd_T82 x10 x12).f1).length < 17592186044416 then (if x155000.length < 4398046511104 then (spec_l12Own.l0 k x10 x11 (wrap64 (x12 + 1)) (x155000 ++ [(⟨(rd_T82 x10 x12).f0, (y157 ++ ((rd_T82 x10 x12).f1))⟩ : S82)]) x155001) else (none)) else (none))) else (none)) else (none)) else (some (x155000, x155001))
def spec_l12Own.f (k : Nat) (l0_0 : List (S82)) (a0_1 : Int) : Option ((List (S82)) × Int) := spec_l12Own.l0 k l0_0 (l0_0.length : Int) 0 ([] : List (S82)) a0_1
theorem spec_l12Own.mono_l : ∀ k, (∀ y0 y1 y2 y3 y4, LeO (spec_l12Own.l0 k y0 y1 y2 y3 y4) (spec_l12Own.l0 (k + 1) y0 y1 y2 y3 y4))
 | 0 => fun _ _ _ _ _ r h => by simp [spec_l12Own.l0] at h
 | k + 1 => by
  have ih0 := spec_l12Own.mono_l k
  ·intro y0 y1 y2 y3 y4
   unfold spec_l12Own.l0
   repeat' first
   | with_reducible apply ih0
   | (with_reducible exact LeO.refl _)
   | (with_reducible exact LeO.none _)
   | (with_reducible refine LeO.ite ?_ ?_)
   | (with_reducible refine LeO.bind ?_ (fun _ => ?_))
   | apply ih0
   | exact LeO.none _
   | refine LeO.ite ?_ ?_
   | refine LeO.bind ?_ (fun _ => ?_)
theorem spec_l12Own.mono : ∀ a0 a1 k, LeO (spec_l12Own.f k a0 a1) (spec_l12Own.f (k + 1) a0 a1) := by
 intro a0 a1 k
 have ih0 := spec_l12Own.mono_l k
 unfold spec_l12Own.f
 repeat' first
   | with_reducible apply ih0
   | (with_reducible exact LeO.refl _)
   | (with_reducible exact LeO.none _)
   | (with_reducible refine LeO.ite ?_ ?_)
   | (with_reducible refine LeO.bind ?_ (fun _ => ?_))
   | apply ih0
   | exact LeO.none _
   | refine LeO.ite ?_ ?_
   | refine LeO.bind ?_ (fun _ => ?_)
def spec_l12Own.T5 : Bool × List (List Nat × List Nat) := (true, [([], []), ([0], [0]), ([], []), ([2], [2]), ([], []), ([], []), ([5], [5]), ([4, 6], [4, 6]), ([3, 7], [3, 7]), ([8], [8]), ([1, 9, 7], [1, 9]), ([0, 1, 2, 3, 4, 5, 6, 7, 8, 9, 10], []), ([11, 10, 10, 0, 1, 2, 3, 4, 5, 6, 7, 8, 9, 10], [10, 11])])
def spec_l12Own.B5 : List Nat := [0, 1, 0, 4, 0, 0, 32, 112, 252, 508, 1023, 2047, 4095]
theorem spec_l12Own.tab5 : rtab .any (opsOf Try.f63 5) = spec_l12Own.T5 := by kernel_rfl
theorem spec_l12Own.bits5 : waitsOk spec_l12Own.T5.2 spec_l12Own.B5 = true := by kernel_rfl
set_option maxHeartbeats 8000000 in
set_option maxRecDepth 100000 in
theorem spec_l12Own.calls (k : Nat) (A0_0 : Option Addr) (c0_0 : Nat) (l0_0 : List (S82)) (a0_1 : Int) (r1 : List (S82)) (r2 : Int) (w : World) (hr0_0 : Kd.C k82 w A0_0 l0_0.length l0_0) (hc0_0 : l0_0.length ≤ c0_0) (h : spec_l12Own.f k l0_0 a0_1 = some (r1, r2)) :
  Calls Try.prog 63 #[.agg #[.slice A0_0 l0_0.length c0_0, .int .i64 a0_1]] w fun e w' => ∃ v0_ : Value, e = .returned (.agg #[v0_, .int .i64 r2]) ∧ Kd.S k82 82 w' w.heap.size (fun _ => True) v0_ r1 ∧ Below w.heap.size w w' := by
 have hu29 := Try.underlying29
 have hu82 := Try.underlying82
 have HR0_0 := Aside0.mk hr0_0
 have HC0_0 := Aside0.mk hc0_0
 clear hr0_0 hc0_0
 have HB := Aside0.mk (Below.refl w.heap.size w)
 have H : (spec_l12Own.l0 k l0_0 (l0_0.length : Int) 0 ([] : List (S82)) a0_1) = some (r1, r2) := h
 clear h
 have H' := Aside0.mk H
 clear H
 go_enter Try.func63, Try.ntmps63
 go_wp2_with (first | ((with_reducible refine gate_dst (N := 1) rfl ?_); refine bxe 1 #[.slice A0_0 l0_0.length c0_0, .int .i64 a0_1] 29 ?_; intro gb152 hg w2 hbox hb; have n0_ := Aside0.mk (below_step lB hb); have n1_ := Aside0.mk (hbox); have n2_ := lG w hg; have n3_ := lG w hg; clear HB; have HB := n0_; have BK152 := n1_; have GW152 := n2_; have GE152 := n3_; clear n0_ n1_ n2_ n3_; clear hb hbox hg) | ((with_reducible refine gate_dst (N := 2) rfl ?_); refine bxe 2 #[.slice none 0 0, .int .i64 0] 29 ?_; intro gb153 hg w3 hbox hb; have n0_ := Aside0.mk (blk_below (lK BK152.out) hb); have n1_ := Aside0.mk (below_step lB hb); have n2_ := Aside0.mk (hbox); have n3_ := lG w hg; have n4_ := lG w hg; have n5_ := Aside0.mk ((by rw [hg]; exact Nat.ne_of_lt (blk_lt (lK BK152.out)) : gb152 ≠ gb153)); have n6_ := Aside0.mk ((by rw [hg]; exact Nat.ne_of_gt (blk_lt (lK BK152.out)) : gb153 ≠ gb152)); clear BK152; clear HB; have BK152 := n0_; have HB := n1_; have BK153 := n2_; have GW153 := n3_; have GE153 := n4_; have NB152_153 := n5_; have NB153_152 := n6_; clear n0_ n1_ n2_ n3_ n4_ n5_ n6_; clear hb hbox hg; have hnb4 := NB152_153.out; have hnc4 := NB153_152.out; obtain ⟨hcz5_0, hfz5_0, hcz5_1, hfz5_1⟩ := bk2 BK152.out) | ((with_reducible refine gate_dst (N := 3) rfl ?_); refine bxe 3 #[.slice none 0 0, .int .i64 0] 29 ?_; intro gb154 hg w6 hbox hb; have n0_ := Aside0.mk (blk_below (lK BK152.out) hb); have n1_ := Aside0.mk (blk_below (lK BK153.out) hb); have n2_ := Aside0.mk (below_step lB hb); have n3_ := Aside0.mk (hbox); have n4_ := lG w hg; have n5_ := lG w hg; have n6_ := Aside0.mk ((by rw [hg]; exact Nat.ne_of_lt (blk_lt (lK BK152.out)) : gb152 ≠ gb154)); have n7_ := Aside0.mk ((by rw [hg]; exact Nat.ne_of_gt (blk_lt (lK BK152.out)) : gb154 ≠ gb152)); have n8_ := Aside0.mk ((by rw [hg]; exact Nat.ne_of_lt (blk_lt (lK BK153.out)) : gb153 ≠ gb154)); have n9_ := Aside0.mk ((by rw [hg]; exact Nat.ne_of_gt (blk_lt (lK BK153.out)) : gb154 ≠ gb153)); clear BK152; clear BK153; clear HB; have BK152 := n0_; have BK153 := n1_; have HB := n2_; have BK154 := n3_; have GW154 := n4_; have GE154 := n5_; have NB152_154 := n6_; have NB154_152 := n7_; have NB153_154 := n8_; have NB154_153 := n9_; clear n0_ n1_ n2_ n3_ n4_ n5_ n6_ n7_ n8_ n9_; clear hb hbox hg; have hnb7 := NB154_152.out; have hnc7 := NB152_154.out; have hnb8 := NB154_153.out; have hnc8 := NB153_154.out; obtain ⟨hcz9_0, hfz9_0, hcz9_1, hfz9_1⟩ := bk2 BK154.out; obtain ⟨hcz10_0, hfz10_0, hcz10_1, hfz10_1⟩ := bk2 BK152.out))
 go_loopg [12] k (fun kq v12 w' => ∃ (x12_1 : Int) (x155000_1 : List (S82)) (u155000 : Value), v12 = .int .i64 x12_1 ∧ Aside0 (spec_l12Own.l0 kq l0_0 (l0_0.length : Int) x12_1 x155000_1 a0_1 = some (r1, r2)) ∧ Aside0 (kq ≤ k) ∧ Aside0 (Kd.S k82 82 w' w.heap.size (fun _ => True) u155000 x155000_1) ∧ Aside0 (w'.heap[gb152]? = some (.cells #[(.slice A0_0 l0_0.length c0_0), .int .i64 a0_1] 29 (0, 0))) ∧ Aside0 (w'.heap[gb153]? = some (.cells #[(.slice none 0 0), .int .i64 0] 29 (0, 0))) ∧ Aside0 (w'.heap[gb154]? = some (.cells #[u155000, .int .i64 a0_1] 29 (0, 0))) ∧ Aside0 (Below w.heap.size w w'))
 case atStart => exact ⟨(0), (([] : List (S82))), (.slice none 0 0), lF, H', ⟨Nat.le_refl _⟩, ⟨by first | exact Kd.S_nil _ _ _ _ _ | exact Kd.N_nil _ _ _ _ _ | exact Kd.V_nil _ _ _ _ _ | exact Kd.Q_nil _ _ _ _ _ | exact Kd.R_nil _ _ _ _ _⟩, ⟨lJ BK152.out⟩, ⟨lJ BK153.out⟩, ⟨by (with_reducible repeat first | apply bN | apply bD | apply bA); refine blk_put (cs := #[.slice none 0 0, .int .i64 0]) ?_ 1 _ rfl; (with_reducible repeat first | apply bN | apply bD | apply bA); refine blk_put (cs := #[.slice none 0 0, .int .i64 0]) ?_ 0 _ rfl; (with_reducible repeat first | apply bN | apply bD | apply bA); exact BK154.out⟩, ⟨lB⟩⟩
 case round =>
  clear H'
  try clear p2
  try clear c4
  try clear c6
  try clear c7
  try clear c8
  try clear hcz10_0 hcz10_1
  try clear hcz5_0 hcz5_1
  try clear hcz9_0 hcz9_1
  try clear hfz10_0 hfz10_1
  try clear hfz5_0 hfz5_1
  try clear hfz9_0 hfz9_1
  obtain ⟨x12_1, x155000_1, u155000, rfl, HA, HK1, HO_155000, BK152, BK153, BK154, HB⟩ := hrel
  cases gk with
  | zero => exact absurd HA.out (by simp [spec_l12Own.l0])
  | succ k1 =>
   have H := HA.out
   clear HA
   simp only [spec_l12Own.l0] at H
   by_cases c11 : x12_1 < (l0_0.length : Int)
   ·rw [if_pos c11] at H
    have c11b0 : decide (x12_1 < (l0_0.length : Int)) = true := decide_eq_true c11
    clear c11
    by_cases c12 : 0 ≤ x12_1
    ·rw [if_pos c12] at H
     have c12b0 : decide (0 ≤ x12_1) = true := decide_eq_true c12
     clear c12
     by_cases c13 : x12_1 < (l0_0.length : Int)
     ·rw [if_pos c13] at H
      have c13b0 : decide (x12_1 < (l0_0.length : Int)) = true := decide_eq_true c13
      clear c13
      obtain ⟨y157, hy157⟩ : ∃ y_ : List Int, y_ = (([] : List Int)) := ⟨_, rfl⟩
      replace H : (if y157.length + ((rd_T82 l0_0 x12_1).f1).length < 17592186044416 then (if x155000_1.length < 4398046511104 then (spec_l12Own.l0 k1 l0_0 (l0_0.length : Int) (wrap64 (x12_1 + 1)) (x155000_1 ++ [(⟨(rd_T82 l0_0 x12_1).f0, (y157 ++ ((rd_T82 l0_0 x12_1).f1))⟩ : S82)]) a0_1) else (none)) else (none)) = some (r1, r2) := by first | (rw [hy157]; with_reducible exact H) | (have H2_ := (Option.bind_some _ _).symm.trans H; rw [hy157]; with_reducible exact H2_) | (have H2_ := (Option.bind_some _ _).symm.trans H; with_reducible exact H2_) | with_reducible exact H | (rw [hy157]; exact H) | exact H
      have Ny157 := Aside0.mk hy157
      clear hy157
      by_cases c14 : y157.length + ((rd_T82 l0_0 x12_1).f1).length < 17592186044416
      ·rw [if_pos c14] at H
       have LMc14 := Aside0.mk c14
       clear c14
       obtain ⟨y160, hy160⟩ : ∃ y_ : List Int, y_ = (y157 ++ ((rd_T82 l0_0 x12_1).f1)) := ⟨_, rfl⟩
       replace H : (if x155000_1.length < 4398046511104 then (spec_l12Own.l0 k1 l0_0 (l0_0.length : Int) (wrap64 (x12_1 + 1)) (x155000_1 ++ [(⟨(rd_T82 l0_0 x12_1).f0, y160⟩ : S82)]) a0_1) else (none)) = some (r1, r2) := by first | (rw [hy160]; with_reducible exact H) | (have H2_ := (Option.bind_some _ _).symm.trans H; rw [hy160]; with_reducible exact H2_) | (have H2_ := (Option.bind_some _ _).symm.trans H; with_reducible exact H2_) | with_reducible exact H | (rw [hy160]; exact H) | exact H
       have Ny160 := Aside0.mk hy160
       clear hy160
       by_cases c15 : x155000_1.length < 4398046511104
       ·rw [if_pos c15] at H
        have LMc15 := Aside0.mk c15
        clear c15
        obtain ⟨y163, hy163⟩ : ∃ y_ : List (S82), y_ = (x155000_1 ++ [(⟨(rd_T82 l0_0 x12_1).f0, y160⟩ : S82)]) := ⟨_, rfl⟩
        replace H : (spec_l12Own.l0 k1 l0_0 (l0_0.length : Int) (wrap64 (x12_1 + 1)) y163 a0_1) = some (r1, r2) := by first | (rw [hy163]; with_reducible exact H) | (have H2_ := (Option.bind_some _ _).symm.trans H; rw [hy163]; with_reducible exact H2_) | (have H2_ := (Option.bind_some _ _).symm.trans H; with_reducible exact H2_) | with_reducible exact H | (rw [hy163]; exact H) | exact H
        have Ny163 := Aside0.mk hy163
        clear hy163
        have H' := Aside0.mk H
        clear H
        have p155 : 0 ≤ (x12_1 : Int) := lD
        have q155 : x12_1 < (l0_0.length : Int) := lD
        obtain ⟨ad155, A155_1, c155_1, e155, hx155_0, hx155_1, hl155_1, hi155_1⟩ := at_T82 HR0_0.out x12_1 p155 q155
        cases e155
        replace hx155_0 := pw_cell_below HB.out hx155_0
        replace hx155_1 := pw_cell_below HB.out hx155_1
        have HR155_1 := Aside0.mk hi155_1
        have HC155_1 := Aside0.mk hl155_1
        clear hi155_1 hl155_1
        replace p155 := eq_true p155
        replace q155 := eq_true q155
        try go_wp2_with (first | ((with_reducible refine gate_dst (N := 5) rfl ?_); refine bxe 5 #[.int .i64 0, .slice none 0 0] 82 ?_; intro gb156 hg w16 hbox hb; have n0_ := Aside0.mk (Kd.S_below (Kd.S_elderB (lS HO_155000.out) gb156 (Nat.le_of_eq hg.symm)) hb); have n1_ := Aside0.mk (blk_below (lK BK152.out) hb); have n2_ := Aside0.mk (blk_below (lK BK153.out) hb); have n3_ := Aside0.mk (blk_below (lK BK154.out) hb); have n4_ := Aside0.mk (below_step lB hb); have n5_ := Aside0.mk (hbox); have n6_ := lG w hg; have n7_ := lG w hg; have n8_ := Aside0.mk ((by rw [hg]; exact Nat.ne_of_lt (blk_lt (lK BK152.out)) : gb152 ≠ gb156)); have n9_ := Aside0.mk ((by rw [hg]; exact Nat.ne_of_gt (blk_lt (lK BK152.out)) : gb156 ≠ gb152)); have n10_ := Aside0.mk ((by rw [hg]; exact Nat.ne_of_lt (blk_lt (lK BK153.out)) : gb153 ≠ gb156)); have n11_ := Aside0.mk ((by rw [hg]; exact Nat.ne_of_gt (blk_lt (lK BK153.out)) : gb156 ≠ gb153)); have n12_ := Aside0.mk ((by rw [hg]; exact Nat.ne_of_lt (blk_lt (lK BK154.out)) : gb154 ≠ gb156)); have n13_ := Aside0.mk ((by rw [hg]; exact Nat.ne_of_gt (blk_lt (lK BK154.out)) : gb156 ≠ gb154)); clear HO_155000; clear BK152; clear BK153; clear BK154; clear HB; have HO_155000 := n0_; have BK152 := n1_; have BK153 := n2_; have BK154 := n3_; have HB := n4_; have BK156 := n5_; have GW156 := n6_; have GE156 := n7_; have NB152_156 := n8_; have NB156_152 := n9_; have NB153_156 := n10_; have NB156_153 := n11_; have NB154_156 := n12_; have NB156_154 := n13_; clear n0_ n1_ n2_ n3_ n4_ n5_ n6_ n7_ n8_ n9_ n10_ n11_ n12_ n13_; clear hb hbox hg; have hnb17 := NB156_152.out; have hnc17 := NB152_156.out; have hnb18 := NB156_153.out; have hnc18 := NB153_156.out; have hnb19 := NB156_154.out; have hnc19 := NB154_156.out; obtain ⟨hcz20_0, hfz20_0, hcz20_1, hfz20_1⟩ := bk2 BK156.out))
        have n0_ : Aside0 (Kd.S k82 82 ((w16.setCell ⟨gb156, 0, none⟩ (.int .i64 ((rd_T82 l0_0 x12_1).f0))).setCell ⟨gb156, 1, none⟩ (.slice A155_1 ((rd_T82 l0_0 x12_1).f1).length c155_1)) w.heap.size (fun k_ => k_ ≠ gb156) u155000 x155000_1) := ⟨by (with_reducible repeat (first | apply Kd.S_alloc | apply Kd.S_drewN | apply Kd.S_drew)); exact Kd.S_mono (Kd.S_far (p := ⟨gb156, 1, none⟩) (Kd.S_far (p := ⟨gb156, 0, none⟩) (Kd.S_mono HO_155000.out (fun k_ hk => (⟨hk, hk.2⟩ : _ ∧ k_ ≠ gb156))) (fun _ hk => hk.2) (.int .i64 ((rd_T82 l0_0 x12_1).f0))) (fun _ hk => hk.2) (.slice A155_1 ((rd_T82 l0_0 x12_1).f1).length c155_1)) (fun _ hk => hk.1.2)⟩
        have n1_ : Aside0 (((w16.setCell ⟨gb156, 0, none⟩ (.int .i64 ((rd_T82 l0_0 x12_1).f0))).setCell ⟨gb156, 1, none⟩ (.slice A155_1 ((rd_T82 l0_0 x12_1).f1).length c155_1)).heap[gb152]? = some (.cells #[.slice (some ad155) l0_0.length c0_0, .int .i64 a0_1] 29 (0, 0))) := ⟨lJ BK152.out⟩
        have n2_ : Aside0 (((w16.setCell ⟨gb156, 0, none⟩ (.int .i64 ((rd_T82 l0_0 x12_1).f0))).setCell ⟨gb156, 1, none⟩ (.slice A155_1 ((rd_T82 l0_0 x12_1).f1).length c155_1)).heap[gb153]? = some (.cells #[.slice none 0 0, .int .i64 0] 29 (0, 0))) := ⟨lJ BK153.out⟩
        have n3_ : Aside0 (((w16.setCell ⟨gb156, 0, none⟩ (.int .i64 ((rd_T82 l0_0 x12_1).f0))).setCell ⟨gb156, 1, none⟩ (.slice A155_1 ((rd_T82 l0_0 x12_1).f1).length c155_1)).heap[gb154]? = some (.cells #[u155000, .int .i64 a0_1] 29 (0, 0))) := ⟨lJ BK154.out⟩
        have n4_ : Aside0 (((w16.setCell ⟨gb156, 0, none⟩ (.int .i64 ((rd_T82 l0_0 x12_1).f0))).setCell ⟨gb156, 1, none⟩ (.slice A155_1 ((rd_T82 l0_0 x12_1).f1).length c155_1)).heap[gb156]? = some (.cells #[.int .i64 ((rd_T82 l0_0 x12_1).f0), .slice A155_1 ((rd_T82 l0_0 x12_1).f1).length c155_1] 82 (0, 0))) := ⟨by (with_reducible repeat first | apply bN | apply bD | apply bA); refine blk_put (cs := #[.int .i64 ((rd_T82 l0_0 x12_1).f0), .slice none 0 0]) ?_ 1 _ rfl; (with_reducible repeat first | apply bN | apply bD | apply bA); refine blk_put (cs := #[.int .i64 0, .slice none 0 0]) ?_ 0 _ rfl; (with_reducible repeat first | apply bN | apply bD | apply bA); exact BK156.out⟩
        have n5_ : Aside0 (Below w.heap.size w ((w16.setCell ⟨gb156, 0, none⟩ (.int .i64 ((rd_T82 l0_0 x12_1).f0))).setCell ⟨gb156, 1, none⟩ (.slice A155_1 ((rd_T82 l0_0 x12_1).f1).length c155_1))) := ⟨lB⟩
        (try clear HO_155000)
        (try clear BK152)
        (try clear BK153)
        (try clear BK154)
        (try clear BK156)
        (try clear HB)
        generalize ((w16.setCell ⟨gb156, 0, none⟩ (.int .i64 ((rd_T82 l0_0 x12_1).f0))).setCell ⟨gb156, 1, none⟩ (.slice A155_1 ((rd_T82 l0_0 x12_1).f1).length c155_1)) = w21 at n0_ n1_ n2_ n3_ n4_ n5_ ⊢
        have HO_155000 := n0_
        have BK152 := n1_
        have BK153 := n2_
        have BK154 := n3_
        have BK156 := n4_
        have HB := n5_
        clear n0_ n1_ n2_ n3_ n4_ n5_
        have n0_ := Aside0.mk (Kd.S_drew HO_155000.out)
        have n1_ := Aside0.mk (blk_drew BK152.out)
        have n2_ := Aside0.mk (blk_drew BK153.out)
        have n3_ := Aside0.mk (blk_drew BK154.out)
        have n4_ := Aside0.mk (blk_drew BK156.out)
        have n5_ := Aside0.mk (below_drew1 HB.out)
        clear HO_155000
        clear BK152
        clear BK153
        clear BK154
        clear BK156
        clear HB
        have HO_155000 := n0_
        have BK152 := n1_
        have BK153 := n2_
        have BK154 := n3_
        have BK156 := n4_
        have HB := n5_
        clear n0_ n1_ n2_ n3_ n4_ n5_
        refine start_ (n := 13) (S := fun w' => w'.cell? ⟨gb154, 0, none⟩ = some (u155000) ∧ w'.cell? ⟨gb154, 1, none⟩ = some (.int .i64 a0_1) ∧ w'.cell? ⟨gb156, 0, none⟩ = some (.int .i64 ((rd_T82 l0_0 x12_1).f0)) ∧ w'.cell? ⟨gb156, 1, none⟩ = some (.slice A155_1 ((rd_T82 l0_0 x12_1).f1).length c155_1)) (ds := [12]) (bs 13 0) kR rfl kR ⟨bZ BK154.out 0, bZ BK154.out 1, bZ BK156.out 0, bZ BK156.out 1⟩ (fun hHeld => ?_); refine with_tabW spec_l12Own.tab5 spec_l12Own.bits5 (fun HT_ HW_ => ?_)
        generalize w21.drew = w22 at HO_155000 BK152 BK153 BK154 BK156 HB hHeld ⊢
        refine pur_ 0 16 (bs 13 1) (any_of HT_.out kR) ?_
        refine pur_ 2 18 (bs 13 5) (any_of HT_.out kR) ?_
        refine pur_ 5 21 (bs 13 37) (any_of HT_.out kR) ?_
        refine tak_ 1 17 (bs 13 39) (take_ofW HT_.out HW_.out kR) hHeld ?_
        refine tak_ 3 19 (bs 13 47) (take_ofW HT_.out HW_.out kR) hHeld ?_
        refine tak_ 6 22 (bs 13 111) (take_ofW HT_.out HW_.out kR) hHeld ?_
        refine one_ (i := 4) (N := some 20) (bs 13 127) rfl rfl (one_of HT_.out (by kernel_rfl)) (by decide) (fun K hK => ?_)
        refine Kd.R_lit_step (Kd.int .i64) _ 3 ?hg (N := 20) ?hd (xs := ([] : List Int)) (inner := []) (ok := fun _ => True) (okp := fun _ => True) ?hr ?hp (fun _ hk => hk) trivial (Below.refl _ _) (Nat.le_refl _) (by simp) ?_; (case hd => rfl); (case hg => rfl); (case hr => first | (go_simp; done) | (go_simp; rfl)); (case hp => exact (Reps.none _ _))
        intro v158 w23 ho24 hb hg_ hnew_
        clear hg_ hnew_
        (first | rw [← Ny157.out] at ho24 | (simp only [Int.reduceToNat] at ho24; rw [← Ny157.out] at ho24))
        have n0_ := Aside0.mk (Kd.S_elder' (lS HO_155000.out) (Kd.R_base ho24) hb)
        have n1_ := Aside0.mk (Kd.R_lower ho24 (below_size lB))
        have n2_ := Aside0.mk (blk_below (lK BK152.out) hb)
        have n3_ := Aside0.mk (blk_below (lK BK153.out) hb)
        have n4_ := Aside0.mk (blk_below (lK BK154.out) hb)
        have n5_ := Aside0.mk (blk_below (lK BK156.out) hb)
        have n6_ := Aside0.mk (below_step lB hb)
        clear HO_155000
        clear BK152
        clear BK153
        clear BK154
        clear BK156
        clear HB
        have HO_155000 := n0_
        have HO159 := n1_
        have BK152 := n2_
        have BK153 := n3_
        have BK154 := n4_
        have BK156 := n5_
        have HB := n6_
        clear n0_ n1_ n2_ n3_ n4_ n5_ n6_
        clear hb ho24
        refine hK.out _ _ ⟨bZ BK154.out 0, bZ BK154.out 1, bZ BK156.out 0, bZ BK156.out 1⟩ (fun hHeld => ?_)
        clear hK K
        refine norm_ (a' := ?_) ?_ ?_
        rotate_left
        ·show Act.put _ (some 20) _ = _
         simp only [Act.put, List.setIfInBounds_toArray, List.set_cons_zero, List.set_cons_succ, i64_w, i32_w]
         rfl
        refine one_ (i := 7) (N := some 23) (bs 13 255) rfl rfl (one_of HT_.out (by kernel_rfl)) (by decide) (fun K hK => ?_)
        refine Kd.R_append_rows_step (Kd.int .i64) (w0 := w) w.heap.size (by rfl) (.tmp 20) (.tmp 22) 68 3 (.int .i64 0) 8 rfl Try.underlying68 info3 rfl (by decide) (by omega) v158 y157 ((rd_T82 l0_0 x12_1).f1) _ _ _ (fun _ => True) (fun _ => False) rfl rfl ?aO ?aR (fun _ _ h => h) (fun _ h => h.elim) ?aF ?aB ?aS ?aL ?_
        (case aR => exact lC (Kd.C_below HR155_1.out HB.out))
        (case aB => exact lB)
        (case aF => exact (fun _ _ => trivial))
        (case aO => exact (lR HO159.out))
        (case aS => exact (below_size lB))
        (case aL => have := LMc14.out; omega)
        intro v161 w25 ho hb hg hat
        rw [← Ny160.out] at ho
        have n0_ := Aside0.mk (Kd.S_after (ok := (fun k_ => k_ ≠ gb156)) (lS HO_155000.out) hg hat)
        have n1_ := Aside0.mk (blk_grown (lK BK152.out) hg (Kd.R_ne HO159.out BK152.out (by decide)))
        have n2_ := Aside0.mk (blk_grown (lK BK153.out) hg (Kd.R_ne HO159.out BK153.out (by decide)))
        have n3_ := Aside0.mk (blk_grown (lK BK154.out) hg (Kd.R_ne HO159.out BK154.out (by decide)))
        have n4_ := Aside0.mk (blk_grown (lK BK156.out) hg (Kd.R_ne HO159.out BK156.out (by decide)))
        have n5_ := Aside0.mk (hb)
        have n6_ := Aside0.mk (ho)
        clear HO_155000
        clear BK152
        clear BK153
        clear BK154
        clear BK156
        clear HB
        clear HO159
        have HO_155000 := n0_
        have BK152 := n1_
        have BK153 := n2_
        have BK154 := n3_
        have BK156 := n4_
        have HB := n5_
        have HO162 := n6_
        clear n0_ n1_ n2_ n3_ n4_ n5_ n6_
        clear ho hb hg hat
        obtain ⟨Ao26, co26, eo26⟩ := Kd.R_slice HO162.out
        (first | subst eo26 | (injection eo26 with f1_ f2_ f3_; have f4_ := f1_.symm; have f5_ := f3_.symm; clear f1_ f2_ f3_; subst f4_; subst f5_))
        refine hK.out _ _ ⟨bZ BK154.out 0, bZ BK154.out 1, bZ BK156.out 0, bZ BK156.out 1⟩ (fun hHeld => ?_)
        clear hK K
        refine norm_ (a' := ?_) ?_ ?_
        rotate_left
        ·show Act.put _ (some 23) _ = _
         simp only [Act.put, List.setIfInBounds_toArray, List.set_cons_zero, List.set_cons_succ, i64_w, i32_w]
         rfl
        refine pur_ 8 24 (bs 13 511) (any_of HT_.out kR) ?_
        refine one_ (i := 9) (N := some 25) (bs 13 1023) rfl rfl (one_of HT_.out (by kernel_rfl)) (by decide) (fun K hK => ?_)
        refine value_ (w1 := ?_) (v := ?_) (by rfl) rfl ?_ ?_
        rotate_left 2
        ·go_simp
         constructor
         ·rfl
         ·rfl
        refine hK.out _ _ ⟨(blk_cell (blk_alloc BK154.out _) 0).trans rfl, (blk_cell (blk_alloc BK154.out _) 1).trans rfl, (blk_cell (blk_alloc BK156.out _) 0).trans rfl, (blk_cell (blk_alloc BK156.out _) 1).trans rfl⟩ (fun hHeld => ?_)
        clear hK K
        refine norm_ (a' := ?_) ?_ ?_
        rotate_left
        ·show Act.put _ (some 25) _ = _
         simp only [Act.put, List.setIfInBounds_toArray, List.set_cons_zero, List.set_cons_succ, i64_w, i32_w]
         rfl
        refine one_ (i := 10) (N := some 26) (bs 13 2047) rfl rfl (one_of HT_.out (by kernel_rfl)) (by decide) (fun K hK => ?_)
        refine Kd.S_append_step k82 (w0 := w) w.heap.size (by rfl) (.tmp 17) (.tmp 25) 27 82 (.agg #[(.int .i64 0), (.slice none 0 0)]) 32 rfl Try.underlying27 info82 rfl (by decide) (by omega) u155000 x155000_1 (⟨(rd_T82 l0_0 x12_1).f0, y160⟩ : S82) [.int .i64 ((rd_T82 l0_0 x12_1).f0), .slice Ao26 y160.length co26] (fun k_ => k_ ≠ gb156) (fun k_ => some k_ = (.slice Ao26 y160.length co26 : Value).ownBlock) rfl rfl ?aP (fun k_ hk_ => ((Kd.R_mono (ok' := fun k_ => ((fun k_ => k_ ≠ gb156)) k_ ∧ some k_ ≠ (u155000 : Value).ownBlock) (Kd.R_types (Kd.R_apart' (HO162.out) (Kd.S_typed HO_155000.out) (by decide)) BK156.out (by decide)) (fun k_ hk => ⟨hk.2, hk.1.2⟩))).1 k_ hk_.symm) ?aF ?aO ?aB ?aS ?aL ?_
        (case aP => exact k82_mkM _ _ _ (⟨(rd_T82 l0_0 x12_1).f0, y160⟩ : S82) (Kd.R_mono (Kd.R_tight rfl (Kd.R_mono (ok' := fun k_ => ((fun k_ => k_ ≠ gb156)) k_ ∧ some k_ ≠ (u155000 : Value).ownBlock) (Kd.R_types (Kd.R_apart' (HO162.out) (Kd.S_typed HO_155000.out) (by decide)) BK156.out (by decide)) (fun k_ hk => ⟨hk.2, hk.1.2⟩))) (fun _ h_ => h_)))
        (case aB => exact lB)
        (case aF => exact (fun k_ hk => Kd.freshB (lK BK156.out) k_ hk))
        (case aO => exact (by (with_reducible repeat (first | apply Kd.S_alloc | apply Kd.S_drewN | apply Kd.S_drew)); exact Kd.S_mono HO_155000.out (fun k_ hk => ⟨hk.1, fun e_ => hk.2 e_⟩)))
        (case aS => exact (below_size lB))
        (case aL => have := LMc15.out; omega)
        intro v164 w27 ho hb hg hat
        rw [← Ny163.out] at ho
        have n0_ := Aside0.mk (blk_grown (lK BK152.out) hg (Kd.S_ne HO_155000.out BK152.out (by decide)))
        have n1_ := Aside0.mk (blk_grown (lK BK153.out) hg (Kd.S_ne HO_155000.out BK153.out (by decide)))
        have n2_ := Aside0.mk (blk_grown (lK BK154.out) hg (Kd.S_ne HO_155000.out BK154.out (by decide)))
        have n3_ := Aside0.mk (blk_grown (lK BK156.out) hg (Kd.S_away HO_155000.out (fun _ hk => hk.1)))
        have n4_ := Aside0.mk (hb)
        have n5_ := Aside0.mk (ho)
        clear BK152
        clear BK153
        clear BK154
        clear BK156
        clear HB
        clear HO_155000
        clear HO162
        have BK152 := n0_
        have BK153 := n1_
        have BK154 := n2_
        have BK156 := n3_
        have HB := n4_
        have HO165 := n5_
        clear n0_ n1_ n2_ n3_ n4_ n5_
        clear ho hb hg hat
        obtain ⟨Ao28, co28, eo28⟩ := Kd.S_slice HO165.out
        (first | subst eo28 | (injection eo28 with f1_ f2_ f3_; have f4_ := f1_.symm; have f5_ := f3_.symm; clear f1_ f2_ f3_; subst f4_; subst f5_))
        refine hK.out _ _ ⟨bZ BK154.out 0, bZ BK154.out 1, bZ BK156.out 0, bZ BK156.out 1⟩ (fun hHeld => ?_)
        clear hK K
        refine norm_ (a' := ?_) ?_ ?_
        rotate_left
        ·show Act.put _ (some 26) _ = _
         simp only [Act.put, List.setIfInBounds_toArray, List.set_cons_zero, List.set_cons_succ, i64_w, i32_w]
         rfl
        refine pur_ 11 27 (bs 13 4095) (any_of HT_.out kR) ?_
        refine last_ (i := 12) (N := none) (bs 13 8191) rfl rfl (one_of HT_.out (by kernel_rfl)) (by decide) (fun K hK => ?_)
        have hs29 : w27.cell? ⟨gb154, 0, none⟩ = some (u155000) := bZ BK154.out 0
        have hfs29 := blk_frozen BK154.out 0
        have hns29_0 := NB152_154.out
        have hns29_1 := NB153_154.out
        have hns29_3 := NB156_154.out
        have hms29_0 := NB154_152.out
        have hms29_1 := NB154_153.out
        have hms29_3 := NB154_156.out
        refine skip_ (w1 := ?_) (by rfl) rfl ?_ ?_
        rotate_left
        ·go_simp
         rfl
        refine hK.out _ _ ?_
        clear hK K
        refine done_ (done_of HT_.out (by kernel_rfl)) ?_
        try go_wp2
        go_roundg k1
        case measure => have := HK1.out; omega
        case rel => exact ⟨(wrap64 (x12_1 + 1)), (y163), (.slice Ao28 y163.length co28), lF, H', ⟨by have := HK1.out; omega⟩, ⟨by (with_reducible repeat (first | apply Kd.S_alloc | apply Kd.S_drewN | apply Kd.S_drew)); exact Kd.S_mono (Kd.S_far (p := ⟨gb154, 0, none⟩) (Kd.S_types HO165.out BK154.out (by decide)) (fun _ hk => hk.2) (.slice Ao28 y163.length co28)) (fun _ hk => trivial)⟩, ⟨lJ BK152.out⟩, ⟨lJ BK153.out⟩, ⟨by (with_reducible repeat first | apply bN | apply bD | apply bA); refine blk_put (cs := #[u155000, .int .i64 a0_1]) ?_ 0 _ rfl; (with_reducible repeat first | apply bN | apply bD | apply bA); exact BK154.out⟩, ⟨lB⟩⟩
       ·rw [if_neg c15] at H
        exact absurd H (by simp)
      ·rw [if_neg c14] at H
       exact absurd H (by simp)
     ·rw [if_neg c13] at H
      exact absurd H (by simp)
    ·rw [if_neg c12] at H
     exact absurd H (by simp)
   ·rw [if_neg c11] at H
    have c11b0 : decide (x12_1 < (l0_0.length : Int)) = false := decide_eq_false c11
    clear c11
    simp only [Option.some.injEq, Prod.mk.injEq] at H
    obtain ⟨rfl, rfl⟩ := H
    have hnb30 := NB154_152.out
    have hnc30 := NB152_154.out
    have hnb31 := NB154_153.out
    have hnc31 := NB153_154.out
    obtain ⟨hcz32_0, hfz32_0, hcz32_1, hfz32_1⟩ := bk2 BK154.out
    obtain ⟨Ao33, co33, eo33⟩ := Kd.S_slice HO_155000.out
    subst eo33
    have hnb34 := NB153_152.out
    have hnc34 := NB152_153.out
    obtain ⟨hcz35_0, hfz35_0, hcz35_1, hfz35_1⟩ := bk2 BK153.out
    go_wp2
    refine bodyPost_ret (results_cell_row rfl _ _ gb153 29 #[.slice Ao33 x155000_1.length co33, .int .i64 a0_1] (0, 0) _ rfl (by (with_reducible repeat first | apply bN | apply bD | apply bA); refine blk_put (cs := #[.slice Ao33 x155000_1.length co33, .int .i64 0]) ?_ 1 _ rfl; (with_reducible repeat first | apply bN | apply bD | apply bA); refine blk_put (cs := #[.slice none 0 0, .int .i64 0]) ?_ 0 _ rfl; (with_reducible repeat first | apply bN | apply bD | apply bA); exact BK153.out) Try.underlying29 rfl (by kernel_rfl)) rfl ?_
    exact ⟨_, lE, by (with_reducible repeat (first | apply Kd.S_alloc | apply Kd.S_drewN | apply Kd.S_drew)); exact Kd.S_mono (Kd.S_far (p := ⟨gb153, 1, none⟩) (Kd.S_far (p := ⟨gb153, 0, none⟩) (Kd.S_types HO_155000.out BK153.out (by decide)) (fun _ hk => hk.2) (.slice Ao33 x155000_1.length co33)) (fun _ hk => hk.2) (.int .i64 a0_1)) (fun _ hk => trivial), lB⟩

/-! ### spec_SetMethod: function 22 -/
def spec_SetMethod.f (k : Nat) (l0_0 : List (S82)) (a0_1 : Int) (a1 : Int) (a2 : Int) (a3 : Int) : Option ((List (S82)) × Int × Bool) := (spec_GoodWorld.f k l0_0 a0_1).bind fun t168 => (if t168 = true then ((spec_l12Class.f l0_0 a0_1 a1).bind fun t169 => (if t169 = true then ((spec_l12Name.f a2).bind fun t170 => (if t170 = true then ((spec_l1In.f a3 0 1000).bind fun t171 => (if t171 = true then (if a0_1 = 1000000 then (some (([] : List (S82)), 0, false)) else ((spec_l12Own.f k l0_0 a0_1).bind fun bt172 => (if 0 ≤ a1 then (if a1 < (bt172.1.length : Int) then (if 0 ≤ a2 then (if a2 < (((rd_T82 bt172.1 a1).f1).length : Int) then (some ((bt172.1.set (a1 : Int).toNat (⟨(rd_T82 bt172.1 a1).f0, (((rd_T82 bt172.1 a1).f1).set (a2 : Int).toNat a3)⟩ : S82)), wrap64 (bt172.2 + 1), true)) else (none)) else (none)) else (none)) else (none)))) else (some (([] : List (S82)), 0, false)))) else (some (([] : List (S82)), 0, false)))) else (some (([] : List (S82)), 0, false)))) else (some (([] : List (S82)), 0, false)))
theorem spec_SetMethod.mono : ∀ a0 a1 a2 a3 a4 k, LeO (spec_SetMethod.f k a0 a1 a2 a3 a4) (spec_SetMethod.f (k + 1) a0 a1 a2 a3 a4) := by
 intro a0 a1 a2 a3 a4 k
 unfold spec_SetMethod.f
 repeat' first
   | with_reducible apply spec_GoodWorld.mono
   | with_reducible apply spec_l12Own.mono
   | (with_reducible exact LeO.refl _)
   | (with_reducible exact LeO.none _)
   | (with_reducible refine LeO.ite ?_ ?_)
   | (with_reducible refine LeO.bind ?_ (fun _ => ?_))
   | apply spec_GoodWorld.mono
   | apply spec_l12Own.mono
   | exact LeO.none _
   | refine LeO.ite ?_ ?_
   | refine LeO.bind ?_ (fun _ => ?_)
set_option maxHeartbeats 8000000 in
set_option maxRecDepth 100000 in
theorem spec_SetMethod.calls (k : Nat) (A0_0 : Option Addr) (c0_0 : Nat) (l0_0 : List (S82)) (a0_1 : Int) (a1 : Int) (a2 : Int) (a3 : Int) (r1 : List (S82)) (r2 : Int) (r3 : Bool) (w : World) (hr0_0 : Kd.C k82 w A0_0 l0_0.length l0_0) (hc0_0 : l0_0.length ≤ c0_0) (h : spec_SetMethod.f k l0_0 a0_1 a1 a2 a3 = some (r1, r2, r3)) :
  Calls Try.prog 22 #[.agg #[.slice A0_0 l0_0.length c0_0, .int .i64 a0_1], .int .i64 a1, .int .i64 a2, .int .i64 a3] w fun e w' => ∃ v0_ : Value, e = .returned (.tuple #[.agg #[v0_, .int .i64 r2], .bool r3]) ∧ Kd.S k82 82 w' w.heap.size (fun _ => True) v0_ r1 ∧ Below w.heap.size w w' := by
 have hu29 := Try.underlying29
 have HR0_0 := Aside0.mk hr0_0
 have HC0_0 := Aside0.mk hc0_0
 clear hr0_0 hc0_0
 have HB := Aside0.mk (Below.refl w.heap.size w)
 have H : ((spec_GoodWorld.f k l0_0 a0_1).bind fun t168 => (if t168 = true then ((spec_l12Class.f l0_0 a0_1 a1).bind fun t169 => (if t169 = true then ((spec_l12Name.f a2).bind fun t170 => (if t170 = true then ((spec_l1In.f a3 0 1000).bind fun t171 => (if t171 = true then (if a0_1 = 1000000 then (some (([] : List (S82)), 0, false)) else ((spec_l12Own.f k l0_0 a0_1).bind fun bt172 => (if 0 ≤ a1 then (if a1 < (bt172.1.length : Int) then (if 0 ≤ a2 then (if a2 < (((rd_T82 bt172.1 a1).f1).length : Int) then (some ((bt172.1.set (a1 : Int).toNat (⟨(rd_T82 bt172.1 a1).f0, (((rd_T82 bt172.1 a1).f1).set (a2 : Int).toNat a3)⟩ : S82)), wrap64 (bt172.2 + 1), true)) else (none)) else (none)) else (none)) else (none)))) else (some (([] : List (S82)), 0, false)))) else (some (([] : List (S82)), 0, false)))) else (some (([] : List (S82)), 0, false)))) else (some (([] : List (S82)), 0, false)))) = some (r1, r2, r3) := h
 clear h
 replace H := lO H
 obtain ⟨t168, A5, H⟩ := H
 by_cases c6 : t168 = true
 ·subst c6
  rw [if_pos rfl] at H
  replace H := lO H
  obtain ⟨t169, A7, H⟩ := H
  by_cases c8 : t169 = true
  ·subst c8
   rw [if_pos rfl] at H
   replace H := lO H
   obtain ⟨t170, A9, H⟩ := H
   by_cases c10 : t170 = true
   ·subst c10
    rw [if_pos rfl] at H
    replace H := lO H
    obtain ⟨t171, A11, H⟩ := H
    by_cases c12 : t171 = true
    ·subst c12
     rw [if_pos rfl] at H
     by_cases c13 : a0_1 = 1000000
     ·rw [if_pos c13] at H
      have c13b0 : (a0_1 == 1000000) = true := beq_iff_eq.mpr c13
      have c13b1 : (a0_1 != 1000000) = false := bne_eq_false_iff_eq.mpr c13
      clear c13
      simp only [Option.some.injEq, Prod.mk.injEq] at H
      obtain ⟨rfl, rfl, rfl⟩ := H
      go_enter Try.func22, Try.ntmps22
      go_wp2_with (first | ((with_reducible refine gate_dst (N := 4) rfl ?_); refine bxe 4 #[.slice A0_0 l0_0.length c0_0, .int .i64 a0_1] 29 ?_; intro gb166 hg w14 hbox hb; have n0_ := Aside0.mk (below_step lB hb); have n1_ := Aside0.mk (hbox); have n2_ := lG w hg; have n3_ := lG w hg; clear HB; have HB := n0_; have BK166 := n1_; have GW166 := n2_; have GE166 := n3_; clear n0_ n1_ n2_ n3_; clear hb hbox hg) | ((with_reducible refine gate_dst (N := 8) rfl ?_); refine bxe 8 #[.slice none 0 0, .int .i64 0] 29 ?_; intro gb167 hg w15 hbox hb; have n0_ := Aside0.mk (blk_below (lK BK166.out) hb); have n1_ := Aside0.mk (below_step lB hb); have n2_ := Aside0.mk (hbox); have n3_ := lG w hg; have n4_ := lG w hg; have n5_ := Aside0.mk ((by rw [hg]; exact Nat.ne_of_lt (blk_lt (lK BK166.out)) : gb166 ≠ gb167)); have n6_ := Aside0.mk ((by rw [hg]; exact Nat.ne_of_gt (blk_lt (lK BK166.out)) : gb167 ≠ gb166)); clear BK166; clear HB; have BK166 := n0_; have HB := n1_; have BK167 := n2_; have GW167 := n3_; have GE167 := n4_; have NB166_167 := n5_; have NB167_166 := n6_; clear n0_ n1_ n2_ n3_ n4_ n5_ n6_; clear hb hbox hg; have hnb16 := NB166_167.out; have hnc16 := NB167_166.out; obtain ⟨hcz17_0, hfz17_0, hcz17_1, hfz17_1⟩ := bk2 BK166.out) | ((with_reducible refine gate_callee (f := 14) rfl ?_); refine gl_ (some 12) (Try.func14) #[.agg #[.slice A0_0 l0_0.length c0_0, .int .i64 a0_1]] ?_; (with_reducible refine (spec_GoodWorld.calls k _ _ l0_0 a0_1 true _ ?side1 ?side2 A5.out).mono ?_); (case side1 => exact lC (Kd.C_below HR0_0.out HB.out)); (case side2 => exact HC0_0.out); rintro e w18 ⟨rfl, hb⟩; refine ⟨_, rfl, ?_⟩; have n0_ := Aside0.mk (blk_below (lK BK166.out) hb); have n1_ := Aside0.mk (blk_below (lK BK167.out) hb); have n2_ := Aside0.mk (below_step lB hb); clear BK166; clear BK167; clear HB; have BK166 := n0_; have BK167 := n1_; have HB := n2_; clear n0_ n1_ n2_; (try clear hb); (try clear hb2); (try clear hk); (try clear hi); obtain ⟨hcz19_0, hfz19_0, hcz19_1, hfz19_1⟩ := bk2 BK166.out) | (go_at_call 58; (with_reducible refine (spec_l12Class.calls _ _ l0_0 a0_1 a1 true _ ?side1 ?side2 A7.out).mono ?_); (case side1 => exact lC (Kd.C_below HR0_0.out HB.out)); (case side2 => exact HC0_0.out); rintro e w20 ⟨rfl, hb⟩; have n0_ := Aside0.mk (blk_below (lK BK166.out) hb); have n1_ := Aside0.mk (blk_below (lK BK167.out) hb); have n2_ := Aside0.mk (below_step lB hb); clear BK166; clear BK167; clear HB; have BK166 := n0_; have BK167 := n1_; have HB := n2_; clear n0_ n1_ n2_; (try clear hb); (try clear hb2); (try clear hk); (try clear hi)) | (go_at_call 60; (with_reducible refine (spec_l12Name.calls a2 true _ A9.out).mono ?_); rintro e w' ⟨rfl, ⟨nd, rfl⟩⟩; (try (rw [drewN_self w20]; generalize hq_ : World.drewN w20 _ = w20; have n0_ : Aside0 (w20.heap[gb166]? = some (.cells #[.slice A0_0 l0_0.length c0_0, .int .i64 a0_1] 29 (0, 0))) := ⟨by rw [← hq_]; exact (lK BK166.out)⟩; have n1_ : Aside0 (w20.heap[gb167]? = some (.cells #[.slice none 0 0, .int .i64 0] 29 (0, 0))) := ⟨by rw [← hq_]; exact (lK BK167.out)⟩; have n2_ : Aside0 (Below w.heap.size w w20) := ⟨by rw [← hq_]; exact lB⟩; clear BK166 BK167 HB hq_; have BK166 := n0_; have BK167 := n1_; have HB := n2_; clear n0_ n1_ n2_)); (try (obtain ⟨hcy166_0, hfy166_0, hcy166_1, hfy166_1⟩ := bk2 BK166.out)); (try (obtain ⟨hcy167_0, hfy167_0, hcy167_1, hfy167_1⟩ := bk2 BK167.out))) | (go_at_call 54; (with_reducible refine (spec_l1In.calls a3 0 1000 true _ A11.out).mono ?_); rintro e w' ⟨rfl, ⟨nd, rfl⟩⟩; (try (rw [drewN_self w20]; generalize hq_ : World.drewN w20 _ = w20; have n0_ : Aside0 (w20.heap[gb166]? = some (.cells #[.slice A0_0 l0_0.length c0_0, .int .i64 a0_1] 29 (0, 0))) := ⟨by rw [← hq_]; exact (lK BK166.out)⟩; have n1_ : Aside0 (w20.heap[gb167]? = some (.cells #[.slice none 0 0, .int .i64 0] 29 (0, 0))) := ⟨by rw [← hq_]; exact (lK BK167.out)⟩; have n2_ : Aside0 (Below w.heap.size w w20) := ⟨by rw [← hq_]; exact lB⟩; clear BK166 BK167 HB hq_; have BK166 := n0_; have BK167 := n1_; have HB := n2_; clear n0_ n1_ n2_)); (try (obtain ⟨hcy166_0, hfy166_0, hcy166_1, hfy166_1⟩ := bk2 BK166.out)); (try (obtain ⟨hcy167_0, hfy167_0, hcy167_1, hfy167_1⟩ := bk2 BK167.out)); obtain ⟨hcz21_0, hfz21_0, hcz21_1, hfz21_1⟩ := bk2 BK166.out; obtain ⟨hcz22_0, hfz22_0, hcz22_1, hfz22_1⟩ := bk2 BK167.out))
      refine bodyPost_ret (results_ct rfl _ _ gb167 29 #[.slice none 0 0, .int .i64 0] (0, 0) _ rfl (by (with_reducible repeat first | apply bN | apply bD | apply bA); refine blk_put (cs := #[.slice none 0 0, .int .i64 0]) ?_ 1 _ rfl; (with_reducible repeat first | apply bN | apply bD | apply bA); refine blk_put (cs := #[.slice none 0 0, .int .i64 0]) ?_ 0 _ rfl; (with_reducible repeat first | apply bN | apply bD | apply bA); exact BK167.out) Try.underlying29 rfl (by kernel_rfl)) rfl ?_
      exact ⟨_, lE, by first | exact Kd.S_nil _ _ _ _ _ | exact Kd.N_nil _ _ _ _ _ | exact Kd.V_nil _ _ _ _ _ | exact Kd.Q_nil _ _ _ _ _ | exact Kd.R_nil _ _ _ _ _, lB⟩
     ·rw [if_neg c13] at H
      have c13b0 : (a0_1 == 1000000) = false := beq_eq_false_iff_ne.mpr c13
      have c13b1 : (a0_1 != 1000000) = true := bne_iff_ne.mpr c13
      replace H := Option.bind_eq_some_iff.mp H
      obtain ⟨⟨t172, t175⟩, A230, H⟩ := H
      replace H : (if 0 ≤ a1 then (if a1 < (t172.length : Int) then (if 0 ≤ a2 then (if a2 < (((rd_T82 t172 a1).f1).length : Int) then (some ((t172.set (a1 : Int).toNat (⟨(rd_T82 t172 a1).f0, (((rd_T82 t172 a1).f1).set (a2 : Int).toNat a3)⟩ : S82)), wrap64 (t175 + 1), true)) else (none)) else (none)) else (none)) else (none)) = some (r1, r2, r3) := H
      have A23 := Aside0.mk A230
      clear A230
      by_cases c24 : 0 ≤ a1
      ·rw [if_pos c24] at H
       have c24b0 : decide (0 ≤ a1) = true := decide_eq_true c24
       clear c24
       by_cases c25 : a1 < (t172.length : Int)
       ·rw [if_pos c25] at H
        have c25b0 : decide (a1 < (t172.length : Int)) = true := decide_eq_true c25
        clear c25
        by_cases c26 : 0 ≤ a2
        ·rw [if_pos c26] at H
         have c26b0 : decide (0 ≤ a2) = true := decide_eq_true c26
         clear c26
         by_cases c27 : a2 < (((rd_T82 t172 a1).f1).length : Int)
         ·rw [if_pos c27] at H
          have c27b0 : decide (a2 < (((rd_T82 t172 a1).f1).length : Int)) = true := decide_eq_true c27
          clear c27
          obtain ⟨y178, hy178⟩ : ∃ y_ : List Int, y_ = (((rd_T82 t172 a1).f1).set (a2 : Int).toNat a3) := ⟨_, rfl⟩
          replace H : (some ((t172.set (a1 : Int).toNat (⟨(rd_T82 t172 a1).f0, y178⟩ : S82)), wrap64 (t175 + 1), true)) = some (r1, r2, r3) := by first | (rw [hy178]; with_reducible exact H) | (have H2_ := (Option.bind_some _ _).symm.trans H; rw [hy178]; with_reducible exact H2_) | (have H2_ := (Option.bind_some _ _).symm.trans H; with_reducible exact H2_) | with_reducible exact H | (rw [hy178]; exact H) | exact H
          have Ny178 := Aside0.mk hy178
          clear hy178
          obtain ⟨y180, hy180⟩ : ∃ y_ : List (S82), y_ = (t172.set (a1 : Int).toNat (⟨(rd_T82 t172 a1).f0, y178⟩ : S82)) := ⟨_, rfl⟩
          replace H : (some (y180, wrap64 (t175 + 1), true)) = some (r1, r2, r3) := by first | (rw [hy180]; with_reducible exact H) | (have H2_ := (Option.bind_some _ _).symm.trans H; rw [hy180]; with_reducible exact H2_) | (have H2_ := (Option.bind_some _ _).symm.trans H; with_reducible exact H2_) | with_reducible exact H | (rw [hy180]; exact H) | exact H
          have Ny180 := Aside0.mk hy180
          clear hy180
          simp only [Option.some.injEq, Prod.mk.injEq] at H
          obtain ⟨rfl, rfl, rfl⟩ := H
          go_enter Try.func22, Try.ntmps22
          go_wp2_with (first | ((with_reducible refine gate_dst (N := 4) rfl ?_); refine bxe 4 #[.slice A0_0 l0_0.length c0_0, .int .i64 a0_1] 29 ?_; intro gb166 hg w29 hbox hb; have n0_ := Aside0.mk (below_step lB hb); have n1_ := Aside0.mk (hbox); have n2_ := lG w hg; have n3_ := lG w hg; clear HB; have HB := n0_; have BK166 := n1_; have GW166 := n2_; have GE166 := n3_; clear n0_ n1_ n2_ n3_; clear hb hbox hg) | ((with_reducible refine gate_dst (N := 8) rfl ?_); refine bxe 8 #[.slice none 0 0, .int .i64 0] 29 ?_; intro gb167 hg w30 hbox hb; have n0_ := Aside0.mk (blk_below (lK BK166.out) hb); have n1_ := Aside0.mk (below_step lB hb); have n2_ := Aside0.mk (hbox); have n3_ := lG w hg; have n4_ := lG w hg; have n5_ := Aside0.mk ((by rw [hg]; exact Nat.ne_of_lt (blk_lt (lK BK166.out)) : gb166 ≠ gb167)); have n6_ := Aside0.mk ((by rw [hg]; exact Nat.ne_of_gt (blk_lt (lK BK166.out)) : gb167 ≠ gb166)); clear BK166; clear HB; have BK166 := n0_; have HB := n1_; have BK167 := n2_; have GW167 := n3_; have GE167 := n4_; have NB166_167 := n5_; have NB167_166 := n6_; clear n0_ n1_ n2_ n3_ n4_ n5_ n6_; clear hb hbox hg; have hnb31 := NB166_167.out; have hnc31 := NB167_166.out; obtain ⟨hcz32_0, hfz32_0, hcz32_1, hfz32_1⟩ := bk2 BK166.out) | ((with_reducible refine gate_callee (f := 14) rfl ?_); refine gl_ (some 12) (Try.func14) #[.agg #[.slice A0_0 l0_0.length c0_0, .int .i64 a0_1]] ?_; (with_reducible refine (spec_GoodWorld.calls k _ _ l0_0 a0_1 true _ ?side1 ?side2 A5.out).mono ?_); (case side1 => exact lC (Kd.C_below HR0_0.out HB.out)); (case side2 => exact HC0_0.out); rintro e w33 ⟨rfl, hb⟩; refine ⟨_, rfl, ?_⟩; have n0_ := Aside0.mk (blk_below (lK BK166.out) hb); have n1_ := Aside0.mk (blk_below (lK BK167.out) hb); have n2_ := Aside0.mk (below_step lB hb); clear BK166; clear BK167; clear HB; have BK166 := n0_; have BK167 := n1_; have HB := n2_; clear n0_ n1_ n2_; (try clear hb); (try clear hb2); (try clear hk); (try clear hi); obtain ⟨hcz34_0, hfz34_0, hcz34_1, hfz34_1⟩ := bk2 BK166.out) | (go_at_call 58; (with_reducible refine (spec_l12Class.calls _ _ l0_0 a0_1 a1 true _ ?side1 ?side2 A7.out).mono ?_); (case side1 => exact lC (Kd.C_below HR0_0.out HB.out)); (case side2 => exact HC0_0.out); rintro e w35 ⟨rfl, hb⟩; have n0_ := Aside0.mk (blk_below (lK BK166.out) hb); have n1_ := Aside0.mk (blk_below (lK BK167.out) hb); have n2_ := Aside0.mk (below_step lB hb); clear BK166; clear BK167; clear HB; have BK166 := n0_; have BK167 := n1_; have HB := n2_; clear n0_ n1_ n2_; (try clear hb); (try clear hb2); (try clear hk); (try clear hi)) | (go_at_call 60; (with_reducible refine (spec_l12Name.calls a2 true _ A9.out).mono ?_); rintro e w' ⟨rfl, ⟨nd, rfl⟩⟩; (try (rw [drewN_self w35]; generalize hq_ : World.drewN w35 _ = w35; have n0_ : Aside0 (w35.heap[gb166]? = some (.cells #[.slice A0_0 l0_0.length c0_0, .int .i64 a0_1] 29 (0, 0))) := ⟨by rw [← hq_]; exact (lK BK166.out)⟩; have n1_ : Aside0 (w35.heap[gb167]? = some (.cells #[.slice none 0 0, .int .i64 0] 29 (0, 0))) := ⟨by rw [← hq_]; exact (lK BK167.out)⟩; have n2_ : Aside0 (Below w.heap.size w w35) := ⟨by rw [← hq_]; exact lB⟩; clear BK166 BK167 HB hq_; have BK166 := n0_; have BK167 := n1_; have HB := n2_; clear n0_ n1_ n2_)); (try (obtain ⟨hcy166_0, hfy166_0, hcy166_1, hfy166_1⟩ := bk2 BK166.out)); (try (obtain ⟨hcy167_0, hfy167_0, hcy167_1, hfy167_1⟩ := bk2 BK167.out))) | (go_at_call 54; (with_reducible refine (spec_l1In.calls a3 0 1000 true _ A11.out).mono ?_); rintro e w' ⟨rfl, ⟨nd, rfl⟩⟩; (try (rw [drewN_self w35]; generalize hq_ : World.drewN w35 _ = w35; have n0_ : Aside0 (w35.heap[gb166]? = some (.cells #[.slice A0_0 l0_0.length c0_0, .int .i64 a0_1] 29 (0, 0))) := ⟨by rw [← hq_]; exact (lK BK166.out)⟩; have n1_ : Aside0 (w35.heap[gb167]? = some (.cells #[.slice none 0 0, .int .i64 0] 29 (0, 0))) := ⟨by rw [← hq_]; exact (lK BK167.out)⟩; have n2_ : Aside0 (Below w.heap.size w w35) := ⟨by rw [← hq_]; exact lB⟩; clear BK166 BK167 HB hq_; have BK166 := n0_; have BK167 := n1_; have HB := n2_; clear n0_ n1_ n2_)); (try (obtain ⟨hcy166_0, hfy166_0, hcy166_1, hfy166_1⟩ := bk2 BK166.out)); (try (obtain ⟨hcy167_0, hfy167_0, hcy167_1, hfy167_1⟩ := bk2 BK167.out)); obtain ⟨hcz36_0, hfz36_0, hcz36_1, hfz36_1⟩ := bk2 BK166.out) | ((with_reducible refine gate_callee (f := 63) rfl ?_); refine gl_ (some 37) (Try.func63) #[.agg #[.slice A0_0 l0_0.length c0_0, .int .i64 a0_1]] ?_; (with_reducible refine (spec_l12Own.calls k _ _ l0_0 a0_1 t172 t175 _ ?side1 ?side2 A23.out).mono ?_); (case side1 => exact lC (Kd.C_below HR0_0.out HB.out)); (case side2 => exact HC0_0.out); rintro e w37 ⟨v173, rfl, ho0, hb⟩; refine ⟨_, rfl, ?_⟩; have n0_ := Aside0.mk (Kd.S_lower ho0 (below_size lB)); have n1_ := Aside0.mk (blk_below (lK BK166.out) hb); have n2_ := Aside0.mk (blk_below (lK BK167.out) hb); have n3_ := Aside0.mk (below_step lB hb); clear BK166; clear BK167; clear HB; have HO174 := n0_; have BK166 := n1_; have BK167 := n2_; have HB := n3_; clear n0_ n1_ n2_ n3_; (try clear hb); (try clear hb2); (try clear hk); (try clear hi); (try clear ho0)) | ((with_reducible refine gate_dst (N := 10) rfl ?_); refine bxe 10 #[.slice none 0 0, .int .i64 0] 29 ?_; intro gb176 hg w38 hbox hb; have n0_ := Aside0.mk (Kd.S_below (lS HO174.out) hb); have n1_ := Aside0.mk (blk_below (lK BK166.out) hb); have n2_ := Aside0.mk (blk_below (lK BK167.out) hb); have n3_ := Aside0.mk (below_step lB hb); have n4_ := Aside0.mk (hbox); have n5_ := lG w hg; have n6_ := lG w hg; have n7_ := Aside0.mk ((by rw [hg]; exact Nat.ne_of_lt (blk_lt (lK BK166.out)) : gb166 ≠ gb176)); have n8_ := Aside0.mk ((by rw [hg]; exact Nat.ne_of_gt (blk_lt (lK BK166.out)) : gb176 ≠ gb166)); have n9_ := Aside0.mk ((by rw [hg]; exact Nat.ne_of_lt (blk_lt (lK BK167.out)) : gb167 ≠ gb176)); have n10_ := Aside0.mk ((by rw [hg]; exact Nat.ne_of_gt (blk_lt (lK BK167.out)) : gb176 ≠ gb167)); clear HO174; clear BK166; clear BK167; clear HB; have HO174 := n0_; have BK166 := n1_; have BK167 := n2_; have HB := n3_; have BK176 := n4_; have GW176 := n5_; have GE176 := n6_; have NB166_176 := n7_; have NB176_166 := n8_; have NB167_176 := n9_; have NB176_167 := n10_; clear n0_ n1_ n2_ n3_ n4_ n5_ n6_ n7_ n8_ n9_ n10_; clear hb hbox hg; obtain ⟨Ao39, co39, eo39⟩ := Kd.S_slice HO174.out; subst eo39; have hnb40 := NB176_166.out; have hnc40 := NB166_176.out; have hnb41 := NB176_167.out; have hnc41 := NB167_176.out; obtain ⟨hcz42_0, hfz42_0, hcz42_1, hfz42_1⟩ := bk2 BK176.out) | ((with_reducible refine gate_store (t := 29) (p := 10) rfl ?_); refine store_event (t := 29) (p := 10) (v := ?vo_w43) (w1 := ((w38.setCell ⟨gb176, 0, none⟩ (.slice Ao39 t172.length co39)).setCell ⟨gb176, 1, none⟩ (.int .i64 t175))) ?hg ?ho ?hn ?hr ?_; (case ho => rfl); (case hg => rfl); (case hn => rfl); (case hr => first | (go_simp; done) | (go_simp; rfl)); intro w43 hw; have n0_ : Aside0 (Kd.S k82 82 w43 w.heap.size (fun _ => True) (.slice Ao39 t172.length co39) t172) := ⟨(by rw [hw]; exact (by (with_reducible repeat (first | apply Kd.S_alloc | apply Kd.S_drewN | apply Kd.S_drew)); exact Kd.S_mono (Kd.S_far (p := ⟨gb176, 1, none⟩) (Kd.S_far (p := ⟨gb176, 0, none⟩) (Kd.S_types HO174.out BK176.out (by decide)) (fun _ hk => hk.2) (.slice Ao39 t172.length co39)) (fun _ hk => hk.2) (.int .i64 t175)) (fun _ hk => trivial)))⟩; have n1_ : Aside0 (w43.heap[gb166]? = some (.cells #[.slice A0_0 l0_0.length c0_0, .int .i64 a0_1] 29 (0, 0))) := ⟨(by rw [hw]; exact (lJ BK166.out))⟩; have n2_ : Aside0 (w43.heap[gb167]? = some (.cells #[.slice none 0 0, .int .i64 0] 29 (0, 0))) := ⟨(by rw [hw]; exact (lJ BK167.out))⟩; have n3_ : Aside0 (w43.heap[gb176]? = some (.cells #[.slice Ao39 t172.length co39, .int .i64 t175] 29 (0, 0))) := ⟨(by rw [hw]; exact (by (with_reducible repeat first | apply bN | apply bD | apply bA); refine blk_put (cs := #[.slice Ao39 t172.length co39, .int .i64 0]) ?_ 1 _ rfl; (with_reducible repeat first | apply bN | apply bD | apply bA); refine blk_put (cs := #[.slice none 0 0, .int .i64 0]) ?_ 0 _ rfl; (with_reducible repeat first | apply bN | apply bD | apply bA); exact BK176.out))⟩; have n4_ : Aside0 (Below w.heap.size w w43) := ⟨(by rw [hw]; exact lB)⟩; clear hw; clear HO174; clear BK166; clear BK167; clear BK176; clear HB; have HO174 := n0_; have BK166 := n1_; have BK167 := n2_; have BK176 := n3_; have HB := n4_; clear n0_ n1_ n2_ n3_ n4_; obtain ⟨hcz44_0, hfz44_0, hcz44_1, hfz44_1⟩ := bk2 BK176.out; have p177 : 0 ≤ (a1 : Int) := lD; have q177 : a1 < (t172.length : Int) := lD; obtain ⟨ad177, A177_1, c177_1, e177, hx177_0, hx177_1, hl177_1, hi177_1⟩ := at_T82 (Kd.S_reads' HO174.out).2.2 a1 p177 q177; cases e177; obtain ⟨ce177, hce177, hMe177, hcc177⟩ := Kd.S_get HO174.out z82 a1 p177 (by first | exact q177 | exact lD | (have e_ := (Kd.S_reads' HO174.out).1; omega)); obtain ⟨ve177_1, rfl, ge177_1⟩ := k82_openM hMe177; have hv177_1 := hcc177 1 _ rfl; rw [add_field _ _ 1 (by omega)] at hv177_1; replace hv177_1 := Option.some.inj (hv177_1.symm.trans hx177_1); rw [hv177_1] at ge177_1; have HL177_1 := Aside0.mk (show Kd.R (Kd.int .i64) 3 _ _ _ _ ((rd_T82 t172 a1).f1) from ge177_1); clear hv177_1 ge177_1; have HX177_1 := Aside0.mk hx177_1; clear hcc177 hce177; have HR177_1 := Aside0.mk hi177_1; have HC177_1 := Aside0.mk hl177_1; clear hi177_1 hl177_1; replace p177 := eq_true p177; replace q177 := eq_true q177; have p28 : 0 ≤ (a2 : Int) := lD; have q28 : (a2 : Int) < ((((rd_T82 t172 a1).f1).length : Int) : Int) := lD; obtain ⟨go28, co28, eo28, gb28, gl28, cl28, HG28⟩ := Kd.R_form HL177_1.out (by omega); (first | cases eo28 | (injection eo28 with ea_ en_ ec_; (first | subst ea_ | (injection ea_ with ea_; subst ea_)); subst ec_; clear en_)); have GB28 := Aside0.mk gb28; have GG28 := Aside0.mk HG28; clear gb28 gl28 HG28; obtain ⟨hx28_0, hf28_0⟩ := Kd.R_celln 0 HL177_1.out (a2 : Int) p28 q28; replace p28 := eq_true p28; replace q28 := eq_true q28; have hq45 : (a1 : Int) < (t172.length : Int) := (by have h_ : (a1 : Int) < ((t172.length : Int) : Int) := lD; first | exact h_ | (have e_ := (Kd.S_reads' HO174.out).1; omega) | simpa only [List.length_set, List.length_set] using h_); obtain ⟨oki45, ce45, hcl45, hM45, hcc45, hok45, hbk45⟩ := Kd.S_borrow HO174.out z82 (a1 : Int) (lD) hq45; obtain ⟨ve45_1, rfl, ge45_1⟩ := k82_openM hM45; have hv45 := hcc45 1 _ rfl; rw [add_field _ _ 1 (by omega)] at hv45; replace hv45 := Option.some.inj (hv45.symm.trans HX177_1.out); subst hv45; clear hcc45 hcl45; replace ge45_1 := (show Kd.R (Kd.int .i64) 3 _ _ _ _ ((rd_T82 t172 a1).f1) from ge45_1); have HP45 := Kd.R_putg ge45_1 (a2 : Int) a3) | ((with_reducible refine gate_store (t := 3) (p := 46) rfl ?_); refine store_event (t := 3) (p := 46) (v := ?vo_w46) (w1 := (w43.setCell ⟨go28, (a2 : Int).toNat, none⟩ (.int .i64 a3))) ?hg ?ho ?hn ?hr ?_; (case ho => rfl); (case hg => rfl); (case hn => rfl); (case hr => first | (go_simp; done) | (go_simp; rfl)); intro w46 hw; have hg : w43.grownBy w46 (some go28) := (by rw [hw]; exact HP45.2); have hz_ : Kd.R (Kd.int .i64) 3 w46 w.heap.size oki45 (.slice (some ⟨go28, 0, none⟩) ((rd_T82 t172 a1).f1).length c177_1) y178 := (by rw [hw, Ny178.out]; exact HP45.1); have hp_ : Kd.S k82 82 w46 w.heap.size (fun _ => True) (.slice (some ad177) t172.length co39) y180 := (by rw [Ny180.out]; exact hbk45 hg (fun k_ e_ => by injection e_ with e_; subst e_; exact ge45_1.1 _ rfl) (k82_mkM _ _ _ (⟨(rd_T82 t172 a1).f0, y178⟩ : S82) hz_)); have hm_ := Kd.R_mono hz_ hok45; clear HP45 hbk45; have n0_ := Aside0.mk (blk_grown (lK BK166.out) hg (Kd.R_ne HL177_1.out BK166.out (by decide))); have n1_ := Aside0.mk (blk_grown (lK BK167.out) hg (Kd.R_ne HL177_1.out BK167.out (by decide))); have n2_ := Aside0.mk (hp_); have n3_ := Aside0.mk (blk_grown (lK BK176.out) hg (Kd.R_ne HL177_1.out BK176.out (by decide))); have n4_ := Aside0.mk ((by rw [hw]; exact below_set (HB.out) GB28.out : Below w.heap.size w w46)); have n5_ := Aside0.mk (hm_); have n6_ := Aside0.mk ((Kd.R_reads' hm_).2.1); clear BK166; clear BK167; clear HO174; clear BK176; clear HB; clear HL177_1; have BK166 := n0_; have BK167 := n1_; have HO174 := n2_; have BK176 := n3_; have HB := n4_; have HL181 := n5_; have HC179 := n6_; clear n0_ n1_ n2_ n3_ n4_ n5_ n6_; clear hg hw hp_ hz_ hm_ hok45; obtain ⟨hcz47_0, hfz47_0, hcz47_1, hfz47_1⟩ := bk2 BK176.out; obtain ⟨hcz48_0, hfz48_0, hcz48_1, hfz48_1⟩ := bk2 BK167.out))
          refine bodyPost_ret (results_ct rfl _ _ gb167 29 #[.slice (some ad177) t172.length co39, .int .i64 (wrap64 (t175 + 1))] (0, 0) _ rfl (by (with_reducible repeat first | apply bN | apply bD | apply bA); refine blk_put (cs := #[.slice (some ad177) t172.length co39, .int .i64 0]) ?_ 1 _ rfl; (with_reducible repeat first | apply bN | apply bD | apply bA); refine blk_put (cs := #[.slice none 0 0, .int .i64 0]) ?_ 0 _ rfl; (with_reducible repeat first | apply bN | apply bD | apply bA); refine blk_far ?_ NB167_176.out _; (with_reducible repeat first | apply bN | apply bD | apply bA); exact BK167.out) Try.underlying29 rfl (by kernel_rfl)) rfl ?_
          exact ⟨_, lE, by (with_reducible repeat (first | apply Kd.S_alloc | apply Kd.S_drewN | apply Kd.S_drew)); exact Kd.S_mono (Kd.S_far (p := ⟨gb167, 1, none⟩) (Kd.S_far (p := ⟨gb167, 0, none⟩) (Kd.S_far (p := ⟨gb176, 1, none⟩) (Kd.S_types (Kd.S_types HO174.out BK176.out (by decide)) BK167.out (by decide)) (fun _ hk => hk.1.2) (.int .i64 (wrap64 (t175 + 1)))) (fun _ hk => hk.2) (.slice (some ad177) t172.length co39)) (fun _ hk => hk.2) (.int .i64 (wrap64 (t175 + 1)))) (fun _ hk => trivial), lB⟩
         ·rw [if_neg c27] at H
          exact absurd H (by simp)
        ·rw [if_neg c26] at H
         exact absurd H (by simp)
       ·rw [if_neg c25] at H
        exact absurd H (by simp)
      ·rw [if_neg c24] at H
       exact absurd H (by simp)
    ·replace c12 := Bool.eq_false_iff.mpr c12
     subst c12
     rw [if_neg (show ¬ (false = true) by decide)] at H
     simp only [Option.some.injEq, Prod.mk.injEq] at H
     obtain ⟨rfl, rfl, rfl⟩ := H
     go_enter Try.func22, Try.ntmps22
     go_wp2_with (first | ((with_reducible refine gate_dst (N := 4) rfl ?_); refine bxe 4 #[.slice A0_0 l0_0.length c0_0, .int .i64 a0_1] 29 ?_; intro gb166 hg w49 hbox hb; have n0_ := Aside0.mk (below_step lB hb); have n1_ := Aside0.mk (hbox); have n2_ := lG w hg; have n3_ := lG w hg; clear HB; have HB := n0_; have BK166 := n1_; have GW166 := n2_; have GE166 := n3_; clear n0_ n1_ n2_ n3_; clear hb hbox hg) | ((with_reducible refine gate_dst (N := 8) rfl ?_); refine bxe 8 #[.slice none 0 0, .int .i64 0] 29 ?_; intro gb167 hg w50 hbox hb; have n0_ := Aside0.mk (blk_below (lK BK166.out) hb); have n1_ := Aside0.mk (below_step lB hb); have n2_ := Aside0.mk (hbox); have n3_ := lG w hg; have n4_ := lG w hg; have n5_ := Aside0.mk ((by rw [hg]; exact Nat.ne_of_lt (blk_lt (lK BK166.out)) : gb166 ≠ gb167)); have n6_ := Aside0.mk ((by rw [hg]; exact Nat.ne_of_gt (blk_lt (lK BK166.out)) : gb167 ≠ gb166)); clear BK166; clear HB; have BK166 := n0_; have HB := n1_; have BK167 := n2_; have GW167 := n3_; have GE167 := n4_; have NB166_167 := n5_; have NB167_166 := n6_; clear n0_ n1_ n2_ n3_ n4_ n5_ n6_; clear hb hbox hg; have hnb51 := NB166_167.out; have hnc51 := NB167_166.out; obtain ⟨hcz52_0, hfz52_0, hcz52_1, hfz52_1⟩ := bk2 BK166.out) | ((with_reducible refine gate_callee (f := 14) rfl ?_); refine gl_ (some 12) (Try.func14) #[.agg #[.slice A0_0 l0_0.length c0_0, .int .i64 a0_1]] ?_; (with_reducible refine (spec_GoodWorld.calls k _ _ l0_0 a0_1 true _ ?side1 ?side2 A5.out).mono ?_); (case side1 => exact lC (Kd.C_below HR0_0.out HB.out)); (case side2 => exact HC0_0.out); rintro e w53 ⟨rfl, hb⟩; refine ⟨_, rfl, ?_⟩; have n0_ := Aside0.mk (blk_below (lK BK166.out) hb); have n1_ := Aside0.mk (blk_below (lK BK167.out) hb); have n2_ := Aside0.mk (below_step lB hb); clear BK166; clear BK167; clear HB; have BK166 := n0_; have BK167 := n1_; have HB := n2_; clear n0_ n1_ n2_; (try clear hb); (try clear hb2); (try clear hk); (try clear hi); obtain ⟨hcz54_0, hfz54_0, hcz54_1, hfz54_1⟩ := bk2 BK166.out) | (go_at_call 58; (with_reducible refine (spec_l12Class.calls _ _ l0_0 a0_1 a1 true _ ?side1 ?side2 A7.out).mono ?_); (case side1 => exact lC (Kd.C_below HR0_0.out HB.out)); (case side2 => exact HC0_0.out); rintro e w55 ⟨rfl, hb⟩; have n0_ := Aside0.mk (blk_below (lK BK166.out) hb); have n1_ := Aside0.mk (blk_below (lK BK167.out) hb); have n2_ := Aside0.mk (below_step lB hb); clear BK166; clear BK167; clear HB; have BK166 := n0_; have BK167 := n1_; have HB := n2_; clear n0_ n1_ n2_; (try clear hb); (try clear hb2); (try clear hk); (try clear hi)) | (go_at_call 60; (with_reducible refine (spec_l12Name.calls a2 true _ A9.out).mono ?_); rintro e w' ⟨rfl, ⟨nd, rfl⟩⟩; (try (rw [drewN_self w55]; generalize hq_ : World.drewN w55 _ = w55; have n0_ : Aside0 (w55.heap[gb166]? = some (.cells #[.slice A0_0 l0_0.length c0_0, .int .i64 a0_1] 29 (0, 0))) := ⟨by rw [← hq_]; exact (lK BK166.out)⟩; have n1_ : Aside0 (w55.heap[gb167]? = some (.cells #[.slice none 0 0, .int .i64 0] 29 (0, 0))) := ⟨by rw [← hq_]; exact (lK BK167.out)⟩; have n2_ : Aside0 (Below w.heap.size w w55) := ⟨by rw [← hq_]; exact lB⟩; clear BK166 BK167 HB hq_; have BK166 := n0_; have BK167 := n1_; have HB := n2_; clear n0_ n1_ n2_)); (try (obtain ⟨hcy166_0, hfy166_0, hcy166_1, hfy166_1⟩ := bk2 BK166.out)); (try (obtain ⟨hcy167_0, hfy167_0, hcy167_1, hfy167_1⟩ := bk2 BK167.out))) | (go_at_call 54; (with_reducible refine (spec_l1In.calls a3 0 1000 false _ A11.out).mono ?_); rintro e w' ⟨rfl, ⟨nd, rfl⟩⟩; (try (rw [drewN_self w55]; generalize hq_ : World.drewN w55 _ = w55; have n0_ : Aside0 (w55.heap[gb166]? = some (.cells #[.slice A0_0 l0_0.length c0_0, .int .i64 a0_1] 29 (0, 0))) := ⟨by rw [← hq_]; exact (lK BK166.out)⟩; have n1_ : Aside0 (w55.heap[gb167]? = some (.cells #[.slice none 0 0, .int .i64 0] 29 (0, 0))) := ⟨by rw [← hq_]; exact (lK BK167.out)⟩; have n2_ : Aside0 (Below w.heap.size w w55) := ⟨by rw [← hq_]; exact lB⟩; clear BK166 BK167 HB hq_; have BK166 := n0_; have BK167 := n1_; have HB := n2_; clear n0_ n1_ n2_)); (try (obtain ⟨hcy166_0, hfy166_0, hcy166_1, hfy166_1⟩ := bk2 BK166.out)); (try (obtain ⟨hcy167_0, hfy167_0, hcy167_1, hfy167_1⟩ := bk2 BK167.out)); obtain ⟨hcz56_0, hfz56_0, hcz56_1, hfz56_1⟩ := bk2 BK167.out))
     refine bodyPost_ret (results_ct rfl _ _ gb167 29 #[.slice none 0 0, .int .i64 0] (0, 0) _ rfl (by (with_reducible repeat first | apply bN | apply bD | apply bA); refine blk_put (cs := #[.slice none 0 0, .int .i64 0]) ?_ 1 _ rfl; (with_reducible repeat first | apply bN | apply bD | apply bA); refine blk_put (cs := #[.slice none 0 0, .int .i64 0]) ?_ 0 _ rfl; (with_reducible repeat first | apply bN | apply bD | apply bA); exact BK167.out) Try.underlying29 rfl (by kernel_rfl)) rfl ?_
     exact ⟨_, lE, by first | exact Kd.S_nil _ _ _ _ _ | exact Kd.N_nil _ _ _ _ _ | exact Kd.V_nil _ _ _ _ _ | exact Kd.Q_nil _ _ _ _ _ | exact Kd.R_nil _ _ _ _ _, lB⟩
   ·replace c10 := Bool.eq_false_iff.mpr c10
    subst c10
    rw [if_neg (show ¬ (false = true) by decide)] at H
    simp only [Option.some.injEq, Prod.mk.injEq] at H
    obtain ⟨rfl, rfl, rfl⟩ := H
    go_enter Try.func22, Try.ntmps22
    go_wp2_with (first | ((with_reducible refine gate_dst (N := 4) rfl ?_); refine bxe 4 #[.slice A0_0 l0_0.length c0_0, .int .i64 a0_1] 29 ?_; intro gb166 hg w57 hbox hb; have n0_ := Aside0.mk (below_step lB hb); have n1_ := Aside0.mk (hbox); have n2_ := lG w hg; have n3_ := lG w hg; clear HB; have HB := n0_; have BK166 := n1_; have GW166 := n2_; have GE166 := n3_; clear n0_ n1_ n2_ n3_; clear hb hbox hg) | ((with_reducible refine gate_dst (N := 8) rfl ?_); refine bxe 8 #[.slice none 0 0, .int .i64 0] 29 ?_; intro gb167 hg w58 hbox hb; have n0_ := Aside0.mk (blk_below (lK BK166.out) hb); have n1_ := Aside0.mk (below_step lB hb); have n2_ := Aside0.mk (hbox); have n3_ := lG w hg; have n4_ := lG w hg; have n5_ := Aside0.mk ((by rw [hg]; exact Nat.ne_of_lt (blk_lt (lK BK166.out)) : gb166 ≠ gb167)); have n6_ := Aside0.mk ((by rw [hg]; exact Nat.ne_of_gt (blk_lt (lK BK166.out)) : gb167 ≠ gb166)); clear BK166; clear HB; have BK166 := n0_; have HB := n1_; have BK167 := n2_; have GW167 := n3_; have GE167 := n4_; have NB166_167 := n5_; have NB167_166 := n6_; clear n0_ n1_ n2_ n3_ n4_ n5_ n6_; clear hb hbox hg; have hnb59 := NB166_167.out; have hnc59 := NB167_166.out; obtain ⟨hcz60_0, hfz60_0, hcz60_1, hfz60_1⟩ := bk2 BK166.out) | ((with_reducible refine gate_callee (f := 14) rfl ?_); refine gl_ (some 12) (Try.func14) #[.agg #[.slice A0_0 l0_0.length c0_0, .int .i64 a0_1]] ?_; (with_reducible refine (spec_GoodWorld.calls k _ _ l0_0 a0_1 true _ ?side1 ?side2 A5.out).mono ?_); (case side1 => exact lC (Kd.C_below HR0_0.out HB.out)); (case side2 => exact HC0_0.out); rintro e w61 ⟨rfl, hb⟩; refine ⟨_, rfl, ?_⟩; have n0_ := Aside0.mk (blk_below (lK BK166.out) hb); have n1_ := Aside0.mk (blk_below (lK BK167.out) hb); have n2_ := Aside0.mk (below_step lB hb); clear BK166; clear BK167; clear HB; have BK166 := n0_; have BK167 := n1_; have HB := n2_; clear n0_ n1_ n2_; (try clear hb); (try clear hb2); (try clear hk); (try clear hi); obtain ⟨hcz62_0, hfz62_0, hcz62_1, hfz62_1⟩ := bk2 BK166.out) | (go_at_call 58; (with_reducible refine (spec_l12Class.calls _ _ l0_0 a0_1 a1 true _ ?side1 ?side2 A7.out).mono ?_); (case side1 => exact lC (Kd.C_below HR0_0.out HB.out)); (case side2 => exact HC0_0.out); rintro e w63 ⟨rfl, hb⟩; have n0_ := Aside0.mk (blk_below (lK BK166.out) hb); have n1_ := Aside0.mk (blk_below (lK BK167.out) hb); have n2_ := Aside0.mk (below_step lB hb); clear BK166; clear BK167; clear HB; have BK166 := n0_; have BK167 := n1_; have HB := n2_; clear n0_ n1_ n2_; (try clear hb); (try clear hb2); (try clear hk); (try clear hi)) | (go_at_call 60; (with_reducible refine (spec_l12Name.calls a2 false _ A9.out).mono ?_); rintro e w' ⟨rfl, ⟨nd, rfl⟩⟩; (try (rw [drewN_self w63]; generalize hq_ : World.drewN w63 _ = w63; have n0_ : Aside0 (w63.heap[gb166]? = some (.cells #[.slice A0_0 l0_0.length c0_0, .int .i64 a0_1] 29 (0, 0))) := ⟨by rw [← hq_]; exact (lK BK166.out)⟩; have n1_ : Aside0 (w63.heap[gb167]? = some (.cells #[.slice none 0 0, .int .i64 0] 29 (0, 0))) := ⟨by rw [← hq_]; exact (lK BK167.out)⟩; have n2_ : Aside0 (Below w.heap.size w w63) := ⟨by rw [← hq_]; exact lB⟩; clear BK166 BK167 HB hq_; have BK166 := n0_; have BK167 := n1_; have HB := n2_; clear n0_ n1_ n2_)); (try (obtain ⟨hcy166_0, hfy166_0, hcy166_1, hfy166_1⟩ := bk2 BK166.out)); (try (obtain ⟨hcy167_0, hfy167_0, hcy167_1, hfy167_1⟩ := bk2 BK167.out)); obtain ⟨hcz64_0, hfz64_0, hcz64_1, hfz64_1⟩ := bk2 BK167.out))
    refine bodyPost_ret (results_ct rfl _ _ gb167 29 #[.slice none 0 0, .int .i64 0] (0, 0) _ rfl (by (with_reducible repeat first | apply bN | apply bD | apply bA); refine blk_put (cs := #[.slice none 0 0, .int .i64 0]) ?_ 1 _ rfl; (with_reducible repeat first | apply bN | apply bD | apply bA); refine blk_put (cs := #[.slice none 0 0, .int .i64 0]) ?_ 0 _ rfl; (with_reducible repeat first | apply bN | apply bD | apply bA); exact BK167.out) Try.underlying29 rfl (by kernel_rfl)) rfl ?_
    exact ⟨_, lE, by first | exact Kd.S_nil _ _ _ _ _ | exact Kd.N_nil _ _ _ _ _ | exact Kd.V_nil _ _ _ _ _ | exact Kd.Q_nil _ _ _ _ _ | exact Kd.R_nil _ _ _ _ _, lB⟩
  ·replace c8 := Bool.eq_false_iff.mpr c8
   subst c8
   rw [if_neg (show ¬ (false = true) by decide)] at H
   simp only [Option.some.injEq, Prod.mk.injEq] at H
   obtain ⟨rfl, rfl, rfl⟩ := H
   go_enter Try.func22, Try.ntmps22
   go_wp2_with (first | ((with_reducible refine gate_dst (N := 4) rfl ?_); refine bxe 4 #[.slice A0_0 l0_0.length c0_0, .int .i64 a0_1] 29 ?_; intro gb166 hg w65 hbox hb; have n0_ := Aside0.mk (below_step lB hb); have n1_ := Aside0.mk (hbox); have n2_ := lG w hg; have n3_ := lG w hg; clear HB; have HB := n0_; have BK166 := n1_; have GW166 := n2_; have GE166 := n3_; clear n0_ n1_ n2_ n3_; clear hb hbox hg) | ((with_reducible refine gate_dst (N := 8) rfl ?_); refine bxe 8 #[.slice none 0 0, .int .i64 0] 29 ?_; intro gb167 hg w66 hbox hb; have n0_ := Aside0.mk (blk_below (lK BK166.out) hb); have n1_ := Aside0.mk (below_step lB hb); have n2_ := Aside0.mk (hbox); have n3_ := lG w hg; have n4_ := lG w hg; have n5_ := Aside0.mk ((by rw [hg]; exact Nat.ne_of_lt (blk_lt (lK BK166.out)) : gb166 ≠ gb167)); have n6_ := Aside0.mk ((by rw [hg]; exact Nat.ne_of_gt (blk_lt (lK BK166.out)) : gb167 ≠ gb166)); clear BK166; clear HB; have BK166 := n0_; have HB := n1_; have BK167 := n2_; have GW167 := n3_; have GE167 := n4_; have NB166_167 := n5_; have NB167_166 := n6_; clear n0_ n1_ n2_ n3_ n4_ n5_ n6_; clear hb hbox hg; have hnb67 := NB166_167.out; have hnc67 := NB167_166.out; obtain ⟨hcz68_0, hfz68_0, hcz68_1, hfz68_1⟩ := bk2 BK166.out) | ((with_reducible refine gate_callee (f := 14) rfl ?_); refine gl_ (some 12) (Try.func14) #[.agg #[.slice A0_0 l0_0.length c0_0, .int .i64 a0_1]] ?_; (with_reducible refine (spec_GoodWorld.calls k _ _ l0_0 a0_1 true _ ?side1 ?side2 A5.out).mono ?_); (case side1 => exact lC (Kd.C_below HR0_0.out HB.out)); (case side2 => exact HC0_0.out); rintro e w69 ⟨rfl, hb⟩; refine ⟨_, rfl, ?_⟩; have n0_ := Aside0.mk (blk_below (lK BK166.out) hb); have n1_ := Aside0.mk (blk_below (lK BK167.out) hb); have n2_ := Aside0.mk (below_step lB hb); clear BK166; clear BK167; clear HB; have BK166 := n0_; have BK167 := n1_; have HB := n2_; clear n0_ n1_ n2_; (try clear hb); (try clear hb2); (try clear hk); (try clear hi); obtain ⟨hcz70_0, hfz70_0, hcz70_1, hfz70_1⟩ := bk2 BK166.out) | (go_at_call 58; (with_reducible refine (spec_l12Class.calls _ _ l0_0 a0_1 a1 false _ ?side1 ?side2 A7.out).mono ?_); (case side1 => exact lC (Kd.C_below HR0_0.out HB.out)); (case side2 => exact HC0_0.out); rintro e w71 ⟨rfl, hb⟩; have n0_ := Aside0.mk (blk_below (lK BK166.out) hb); have n1_ := Aside0.mk (blk_below (lK BK167.out) hb); have n2_ := Aside0.mk (below_step lB hb); clear BK166; clear BK167; clear HB; have BK166 := n0_; have BK167 := n1_; have HB := n2_; clear n0_ n1_ n2_; (try clear hb); (try clear hb2); (try clear hk); (try clear hi); obtain ⟨hcz72_0, hfz72_0, hcz72_1, hfz72_1⟩ := bk2 BK167.out))
   refine bodyPost_ret (results_ct rfl _ _ gb167 29 #[.slice none 0 0, .int .i64 0] (0, 0) _ rfl (by (with_reducible repeat first | apply bN | apply bD | apply bA); refine blk_put (cs := #[.slice none 0 0, .int .i64 0]) ?_ 1 _ rfl; (with_reducible repeat first | apply bN | apply bD | apply bA); refine blk_put (cs := #[.slice none 0 0, .int .i64 0]) ?_ 0 _ rfl; (with_reducible repeat first | apply bN | apply bD | apply bA); exact BK167.out) Try.underlying29 rfl (by kernel_rfl)) rfl ?_
   exact ⟨_, lE, by first | exact Kd.S_nil _ _ _ _ _ | exact Kd.N_nil _ _ _ _ _ | exact Kd.V_nil _ _ _ _ _ | exact Kd.Q_nil _ _ _ _ _ | exact Kd.R_nil _ _ _ _ _, lB⟩
 ·replace c6 := Bool.eq_false_iff.mpr c6
  subst c6
  rw [if_neg (show ¬ (false = true) by decide)] at H
  simp only [Option.some.injEq, Prod.mk.injEq] at H
  obtain ⟨rfl, rfl, rfl⟩ := H
  go_enter Try.func22, Try.ntmps22
  go_wp2_with (first | ((with_reducible refine gate_dst (N := 4) rfl ?_); refine bxe 4 #[.slice A0_0 l0_0.length c0_0, .int .i64 a0_1] 29 ?_; intro gb166 hg w73 hbox hb; have n0_ := Aside0.mk (below_step lB hb); have n1_ := Aside0.mk (hbox); have n2_ := lG w hg; have n3_ := lG w hg; clear HB; have HB := n0_; have BK166 := n1_; have GW166 := n2_; have GE166 := n3_; clear n0_ n1_ n2_ n3_; clear hb hbox hg) | ((with_reducible refine gate_dst (N := 8) rfl ?_); refine bxe 8 #[.slice none 0 0, .int .i64 0] 29 ?_; intro gb167 hg w74 hbox hb; have n0_ := Aside0.mk (blk_below (lK BK166.out) hb); have n1_ := Aside0.mk (below_step lB hb); have n2_ := Aside0.mk (hbox); have n3_ := lG w hg; have n4_ := lG w hg; have n5_ := Aside0.mk ((by rw [hg]; exact Nat.ne_of_lt (blk_lt (lK BK166.out)) : gb166 ≠ gb167)); have n6_ := Aside0.mk ((by rw [hg]; exact Nat.ne_of_gt (blk_lt (lK BK166.out)) : gb167 ≠ gb166)); clear BK166; clear HB; have BK166 := n0_; have HB := n1_; have BK167 := n2_; have GW167 := n3_; have GE167 := n4_; have NB166_167 := n5_; have NB167_166 := n6_; clear n0_ n1_ n2_ n3_ n4_ n5_ n6_; clear hb hbox hg; have hnb75 := NB166_167.out; have hnc75 := NB167_166.out; obtain ⟨hcz76_0, hfz76_0, hcz76_1, hfz76_1⟩ := bk2 BK166.out) | ((with_reducible refine gate_callee (f := 14) rfl ?_); refine gl_ (some 12) (Try.func14) #[.agg #[.slice A0_0 l0_0.length c0_0, .int .i64 a0_1]] ?_; (with_reducible refine (spec_GoodWorld.calls k _ _ l0_0 a0_1 false _ ?side1 ?side2 A5.out).mono ?_); (case side1 => exact lC (Kd.C_below HR0_0.out HB.out)); (case side2 => exact HC0_0.out); rintro e w77 ⟨rfl, hb⟩; refine ⟨_, rfl, ?_⟩; have n0_ := Aside0.mk (blk_below (lK BK166.out) hb); have n1_ := Aside0.mk (blk_below (lK BK167.out) hb); have n2_ := Aside0.mk (below_step lB hb); clear BK166; clear BK167; clear HB; have BK166 := n0_; have BK167 := n1_; have HB := n2_; clear n0_ n1_ n2_; (try clear hb); (try clear hb2); (try clear hk); (try clear hi); obtain ⟨hcz78_0, hfz78_0, hcz78_1, hfz78_1⟩ := bk2 BK167.out))
  refine bodyPost_ret (results_ct rfl _ _ gb167 29 #[.slice none 0 0, .int .i64 0] (0, 0) _ rfl (by (with_reducible repeat first | apply bN | apply bD | apply bA); refine blk_put (cs := #[.slice none 0 0, .int .i64 0]) ?_ 1 _ rfl; (with_reducible repeat first | apply bN | apply bD | apply bA); refine blk_put (cs := #[.slice none 0 0, .int .i64 0]) ?_ 0 _ rfl; (with_reducible repeat first | apply bN | apply bD | apply bA); exact BK167.out) Try.underlying29 rfl (by kernel_rfl)) rfl ?_
  exact ⟨_, lE, by first | exact Kd.S_nil _ _ _ _ _ | exact Kd.N_nil _ _ _ _ _ | exact Kd.V_nil _ _ _ _ _ | exact Kd.Q_nil _ _ _ _ _ | exact Kd.R_nil _ _ _ _ _, lB⟩

end Go.Proofs.Ytjmgleomljfieaa.Q
