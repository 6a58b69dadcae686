-- Written by the program wip/tools/pr.py of this claim's session, over the kit's print.py.
import Derived.Test.YtjmgleomljfieaaQx0
namespace Go.Proofs.Ytjmgleomljfieaa.Q
open Go.RowKit Go.Proofs.YtjmgleomljfieaaW.PrintWords Go.Proofs.YtjmgleomljfieaaW.PrintLast Go.Proofs.YtjmgleomljfieaaW.PrintMore
attribute [local go_sem] max2_int min2_int max_two min_two max_three min_three max_four min_four   -- for this text's walks alone
set_option linter.unusedVariables false
set_option linter.unusedSimpArgs false

/-! ### impl_World_find: function 62 -/
def impl_World_find.l0 : Nat → Int → Int → List (S82) → Int → Option (Int)
 | 0, _, _, _, _ => none
 | k + 1, x1, x2, x252000, x252001 => if x1 ≥ 0 then (if 0 ≤ x1 then (if x1 < (x252000.length : Int) then (if 0 ≤ x2 then (if x2 < (((rd_T82 x252000 x1).f1).length : Int) then (if (rd ((rd_T82 x252000 x1).f1) x2) = 0 then (impl_World_find.l0 k ((rd_T82 x252000 x1).f0) x2 x252000 x252001) else (if x1 < 0 then (some 0) else (some (rd ((rd_T82 x252000 x1).f1) x2)))) else (none)) else (none)) else (none)) else (none)) else (if x1 < 0 then (some 0) else (if 0 ≤ x1 then (if x1 < (x252000.length : Int) then (if 0 ≤ x2 then (if x2 < (((rd_T82 x252000 x1).f1).length : Int) then (some (rd ((rd_T82 x252000 x1).f1) x2)) else (none)) else (none)) else (none)) else (none)))
def impl_World_find.f (k : Nat) (l0_0 : List (S82)) (a0_1 : Int) (a1 : Int) (a2 : Int) : Option (Int) := impl_World_find.l0 k a1 a2 l0_0 a0_1
theorem impl_World_find.mono_l : ∀ k, (∀ y0 y1 y2 y3, LeO (impl_World_find.l0 k y0 y1 y2 y3) (impl_World_find.l0 (k + 1) y0 y1 y2 y3))
 | 0 => fun _ _ _ _ r h => by simp [impl_World_find.l0] at h
 | k + 1 => by
  have ih0 := impl_World_find.mono_l k
  ·intro y0 y1 y2 y3
   unfold impl_World_find.l0
   repeat' first
   | with_reducible apply ih0
   | (with_reducible exact LeO.refl _)
   | (with_reducible exact LeO.none _)
   | (with_reducible refine LeO.ite ?_ ?_)
   | (with_reducible refine LeO.bind ?_ (fun _ => ?_))
   | apply ih0
   | exact LeO.none _
   | refine LeO.ite ?_ ?_
   | refine LeO.bind ?_ (fun _ => ?_)
theorem impl_World_find.mono : ∀ a0 a1 a2 a3 k, LeO (impl_World_find.f k a0 a1 a2 a3) (impl_World_find.f (k + 1) a0 a1 a2 a3) := by
 intro a0 a1 a2 a3 k
 have ih0 := impl_World_find.mono_l k
 unfold impl_World_find.f
 repeat' first
   | with_reducible apply ih0
   | (with_reducible exact LeO.refl _)
   | (with_reducible exact LeO.none _)
   | (with_reducible refine LeO.ite ?_ ?_)
   | (with_reducible refine LeO.bind ?_ (fun _ => ?_))
   | apply ih0
   | exact LeO.none _
   | refine LeO.ite ?_ ?_
   | refine LeO.bind ?_ (fun _ => ?_)
set_option maxHeartbeats 8000000 in
set_option maxRecDepth 100000 in
theorem impl_World_find.calls (k : Nat) (A0_0 : Option Addr) (c0_0 : Nat) (l0_0 : List (S82)) (a0_1 : Int) (a1 : Int) (a2 : Int) (r : Int) (w : World) (hr0_0 : Kd.C k82 w A0_0 l0_0.length l0_0) (hc0_0 : l0_0.length ≤ c0_0) (h : impl_World_find.f k l0_0 a0_1 a1 a2 = some r) :
  Calls Try.prog 62 #[.agg #[.slice A0_0 l0_0.length c0_0, .int .i64 a0_1], .int .i64 a1, .int .i64 a2] w fun e w' => e = .returned (.int .i64 r) ∧ Below w.heap.size w w' := by
 have hu29 := Try.underlying29
 have HR0_0 := Aside0.mk hr0_0
 have HC0_0 := Aside0.mk hc0_0
 clear hr0_0 hc0_0
 have HB := Aside0.mk (Below.refl w.heap.size w)
 have H : (impl_World_find.l0 k a1 a2 l0_0 a0_1) = some r := h
 clear h
 have H' := Aside0.mk H
 clear H
 go_enter Try.func62, Try.ntmps62
 go_wp2_with (first | ((with_reducible refine gate_dst (N := 3) rfl ?_); refine bxe 3 #[.slice A0_0 l0_0.length c0_0, .int .i64 a0_1] 29 ?_; intro gb251 hg w4 hbox hb; have n0_ := Aside0.mk (below_step lB hb); have n1_ := Aside0.mk (hbox); have n2_ := lG w hg; have n3_ := lG w hg; clear HB; have HB := n0_; have BK251 := n1_; have GW251 := n2_; have GE251 := n3_; clear n0_ n1_ n2_ n3_; clear hb hbox hg))
 go_loopg [1] k (fun kq v1 w' => ∃ (x1_1 : Int), v1 = .int .i64 x1_1 ∧ Aside0 (impl_World_find.l0 kq x1_1 a2 l0_0 a0_1 = some r) ∧ Aside0 (kq ≤ k) ∧ Aside0 (w'.heap[gb251]? = some (.cells #[(.slice A0_0 l0_0.length c0_0), .int .i64 a0_1] 29 (0, 0))) ∧ Aside0 (Below w.heap.size w w'))
 case atStart => exact ⟨(a1), lF, H', ⟨Nat.le_refl _⟩, ⟨lK BK251.out⟩, ⟨lB⟩⟩
 case round =>
  clear H'
  try clear p2
  obtain ⟨x1_1, rfl, HA, HK1, BK251, HB⟩ := hrel
  cases gk with
  | zero => exact absurd HA.out (by simp [impl_World_find.l0])
  | succ k1 =>
   have H := HA.out
   clear HA
   simp only [impl_World_find.l0] at H
   by_cases c5 : x1_1 ≥ 0
   ·rw [if_pos c5] at H
    have c5b0 : decide (0 ≤ x1_1) = true := decide_eq_true c5
    clear c5
    by_cases c6 : 0 ≤ x1_1
    ·rw [if_pos c6] at H
     have c6b0 : decide (0 ≤ x1_1) = true := decide_eq_true c6
     clear c6
     by_cases c7 : x1_1 < (l0_0.length : Int)
     ·rw [if_pos c7] at H
      have c7b0 : decide (x1_1 < (l0_0.length : Int)) = true := decide_eq_true c7
      clear c7
      by_cases c8 : 0 ≤ a2
      ·rw [if_pos c8] at H
       have c8b0 : decide (0 ≤ a2) = true := decide_eq_true c8
       clear c8
       by_cases c9 : a2 < (((rd_T82 l0_0 x1_1).f1).length : Int)
       ·rw [if_pos c9] at H
        have c9b0 : decide (a2 < (((rd_T82 l0_0 x1_1).f1).length : Int)) = true := decide_eq_true c9
        clear c9
        by_cases c10 : (rd ((rd_T82 l0_0 x1_1).f1) a2) = 0
        ·rw [if_pos c10] at H
         have c10b0 : ((rd ((rd_T82 l0_0 x1_1).f1) a2) == 0) = true := beq_iff_eq.mpr c10
         have c10b1 : ((rd ((rd_T82 l0_0 x1_1).f1) a2) != 0) = false := bne_eq_false_iff_eq.mpr c10
         clear c10
         have H' := Aside0.mk H
         clear H
         obtain ⟨hcz11_0, hfz11_0, hcz11_1, hfz11_1⟩ := bk2 BK251.out
         have p252 : 0 ≤ (x1_1 : Int) := lD
         have q252 : x1_1 < (l0_0.length : Int) := lD
         obtain ⟨ad252, A252_1, c252_1, e252, hx252_0, hx252_1, hl252_1, hi252_1⟩ := at_T82 HR0_0.out x1_1 p252 q252
         cases e252
         replace hx252_0 := pw_cell_below HB.out hx252_0
         replace hx252_1 := pw_cell_below HB.out hx252_1
         have HR252_1 := Aside0.mk hi252_1
         have HC252_1 := Aside0.mk hl252_1
         clear hi252_1 hl252_1
         replace p252 := eq_true p252
         replace q252 := eq_true q252
         have p253 : 0 ≤ (a2 : Int) := lD
         have q253 : a2 < (((rd_T82 l0_0 x1_1).f1).length : Int) := lD
         obtain ⟨ad253, e253, hx253_0⟩ := Kd.at_int HR252_1.out a2 p253 q253
         cases e253
         replace hx253_0 := pw_cell_below HB.out hx253_0
         replace p253 := eq_true p253
         replace q253 := eq_true q253
         have p254 : 0 ≤ (x1_1 : Int) := lD
         have q254 : x1_1 < (l0_0.length : Int) := lD
         obtain ⟨ad254, A254_1, c254_1, e254, hx254_0, hx254_1, hl254_1, hi254_1⟩ := at_T82 HR0_0.out x1_1 p254 q254
         obtain rfl : ad252 = ad254 := (by injection e254)
         replace hx254_0 := pw_cell_below HB.out hx254_0
         replace hx254_1 := pw_cell_below HB.out hx254_1
         have HR254_1 := Aside0.mk hi254_1
         have HC254_1 := Aside0.mk hl254_1
         clear hi254_1 hl254_1
         replace p254 := eq_true p254
         replace q254 := eq_true q254
         have ea_ := Option.some.inj (hx252_1.symm.trans hx254_1)
         injection ea_ with ea_ en_ ec_
         subst ea_
         subst ec_
         clear en_
         go_wp2
         go_roundg k1
         case measure => have := HK1.out; omega
         case rel => exact ⟨((rd_T82 l0_0 x1_1).f0), lF, H', ⟨by have := HK1.out; omega⟩, ⟨lK BK251.out⟩, ⟨lB⟩⟩
        ·rw [if_neg c10] at H
         have c10b0 : ((rd ((rd_T82 l0_0 x1_1).f1) a2) == 0) = false := beq_eq_false_iff_ne.mpr c10
         have c10b1 : ((rd ((rd_T82 l0_0 x1_1).f1) a2) != 0) = true := bne_iff_ne.mpr c10
         by_cases c12 : x1_1 < 0
         ·rw [if_pos c12] at H
          have c12b0 : decide (x1_1 < 0) = true := decide_eq_true c12
          clear c12
          obtain rfl := Option.some.inj H
          obtain ⟨hcz13_0, hfz13_0, hcz13_1, hfz13_1⟩ := bk2 BK251.out
          have p252 : 0 ≤ (x1_1 : Int) := lD
          have q252 : x1_1 < (l0_0.length : Int) := lD
          obtain ⟨ad252, A252_1, c252_1, e252, hx252_0, hx252_1, hl252_1, hi252_1⟩ := at_T82 HR0_0.out x1_1 p252 q252
          cases e252
          replace hx252_0 := pw_cell_below HB.out hx252_0
          replace hx252_1 := pw_cell_below HB.out hx252_1
          have HR252_1 := Aside0.mk hi252_1
          have HC252_1 := Aside0.mk hl252_1
          clear hi252_1 hl252_1
          replace p252 := eq_true p252
          replace q252 := eq_true q252
          have p253 : 0 ≤ (a2 : Int) := lD
          have q253 : a2 < (((rd_T82 l0_0 x1_1).f1).length : Int) := lD
          obtain ⟨ad253, e253, hx253_0⟩ := Kd.at_int HR252_1.out a2 p253 q253
          cases e253
          replace hx253_0 := pw_cell_below HB.out hx253_0
          replace p253 := eq_true p253
          replace q253 := eq_true q253
          first | (go_wp2; go_ret; exact ⟨lE, lB⟩) | (exfalso; simp only [decide_eq_false_iff_not, decide_eq_true_eq] at *; omega)
         ·rw [if_neg c12] at H
          have c12b0 : decide (x1_1 < 0) = false := decide_eq_false c12
          clear c12
          obtain rfl := Option.some.inj H
          obtain ⟨hcz14_0, hfz14_0, hcz14_1, hfz14_1⟩ := bk2 BK251.out
          have p252 : 0 ≤ (x1_1 : Int) := lD
          have q252 : x1_1 < (l0_0.length : Int) := lD
          obtain ⟨ad252, A252_1, c252_1, e252, hx252_0, hx252_1, hl252_1, hi252_1⟩ := at_T82 HR0_0.out x1_1 p252 q252
          cases e252
          replace hx252_0 := pw_cell_below HB.out hx252_0
          replace hx252_1 := pw_cell_below HB.out hx252_1
          have HR252_1 := Aside0.mk hi252_1
          have HC252_1 := Aside0.mk hl252_1
          clear hi252_1 hl252_1
          replace p252 := eq_true p252
          replace q252 := eq_true q252
          have p253 : 0 ≤ (a2 : Int) := lD
          have q253 : a2 < (((rd_T82 l0_0 x1_1).f1).length : Int) := lD
          obtain ⟨ad253, e253, hx253_0⟩ := Kd.at_int HR252_1.out a2 p253 q253
          cases e253
          replace hx253_0 := pw_cell_below HB.out hx253_0
          replace p253 := eq_true p253
          replace q253 := eq_true q253
          have p255 : 0 ≤ (x1_1 : Int) := lD
          have q255 : x1_1 < (l0_0.length : Int) := lD
          obtain ⟨ad255, A255_1, c255_1, e255, hx255_0, hx255_1, hl255_1, hi255_1⟩ := at_T82 HR0_0.out x1_1 p255 q255
          obtain rfl : ad252 = ad255 := (by injection e255)
          replace hx255_0 := pw_cell_below HB.out hx255_0
          replace hx255_1 := pw_cell_below HB.out hx255_1
          have HR255_1 := Aside0.mk hi255_1
          have HC255_1 := Aside0.mk hl255_1
          clear hi255_1 hl255_1
          replace p255 := eq_true p255
          replace q255 := eq_true q255
          have ea_ := Option.some.inj (hx252_1.symm.trans hx255_1)
          injection ea_ with ea_ en_ ec_
          subst ea_
          subst ec_
          clear en_
          have p256 : 0 ≤ (a2 : Int) := lD
          have q256 : a2 < (((rd_T82 l0_0 x1_1).f1).length : Int) := lD
          obtain ⟨ad256, e256, hx256_0⟩ := Kd.at_int HR255_1.out a2 p256 q256
          cases e256
          replace hx256_0 := pw_cell_below HB.out hx256_0
          replace p256 := eq_true p256
          replace q256 := eq_true q256
          first | (go_wp2; go_ret; exact ⟨lE, lB⟩) | (exfalso; simp only [decide_eq_false_iff_not, decide_eq_true_eq] at *; omega)
       ·rw [if_neg c9] at H
        exact absurd H (by simp)
      ·rw [if_neg c8] at H
       exact absurd H (by simp)
     ·rw [if_neg c7] at H
      exact absurd H (by simp)
    ·rw [if_neg c6] at H
     exact absurd H (by simp)
   ·rw [if_neg c5] at H
    have c5b0 : decide (0 ≤ x1_1) = false := decide_eq_false c5
    clear c5
    by_cases c15 : x1_1 < 0
    ·rw [if_pos c15] at H
     have c15b0 : decide (x1_1 < 0) = true := decide_eq_true c15
     clear c15
     obtain rfl := Option.some.inj H
     first | (go_wp2; go_ret; exact ⟨lE, lB⟩) | (exfalso; simp only [decide_eq_false_iff_not, decide_eq_true_eq] at *; omega)
    ·rw [if_neg c15] at H
     have c15b0 : decide (x1_1 < 0) = false := decide_eq_false c15
     clear c15
     by_cases c16 : 0 ≤ x1_1
     ·rw [if_pos c16] at H
      have c16b0 : decide (0 ≤ x1_1) = true := decide_eq_true c16
      clear c16
      by_cases c17 : x1_1 < (l0_0.length : Int)
      ·rw [if_pos c17] at H
       have c17b0 : decide (x1_1 < (l0_0.length : Int)) = true := decide_eq_true c17
       clear c17
       by_cases c18 : 0 ≤ a2
       ·rw [if_pos c18] at H
        have c18b0 : decide (0 ≤ a2) = true := decide_eq_true c18
        clear c18
        by_cases c19 : a2 < (((rd_T82 l0_0 x1_1).f1).length : Int)
        ·rw [if_pos c19] at H
         have c19b0 : decide (a2 < (((rd_T82 l0_0 x1_1).f1).length : Int)) = true := decide_eq_true c19
         clear c19
         obtain rfl := Option.some.inj H
         obtain ⟨hcz20_0, hfz20_0, hcz20_1, hfz20_1⟩ := bk2 BK251.out
         have p257 : 0 ≤ (x1_1 : Int) := lD
         have q257 : x1_1 < (l0_0.length : Int) := lD
         obtain ⟨ad257, A257_1, c257_1, e257, hx257_0, hx257_1, hl257_1, hi257_1⟩ := at_T82 HR0_0.out x1_1 p257 q257
         cases e257
         replace hx257_0 := pw_cell_below HB.out hx257_0
         replace hx257_1 := pw_cell_below HB.out hx257_1
         have HR257_1 := Aside0.mk hi257_1
         have HC257_1 := Aside0.mk hl257_1
         clear hi257_1 hl257_1
         replace p257 := eq_true p257
         replace q257 := eq_true q257
         have p258 : 0 ≤ (a2 : Int) := lD
         have q258 : a2 < (((rd_T82 l0_0 x1_1).f1).length : Int) := lD
         obtain ⟨ad258, e258, hx258_0⟩ := Kd.at_int HR257_1.out a2 p258 q258
         cases e258
         replace hx258_0 := pw_cell_below HB.out hx258_0
         replace p258 := eq_true p258
         replace q258 := eq_true q258
         first | (go_wp2; go_ret; exact ⟨lE, lB⟩) | (exfalso; simp only [decide_eq_false_iff_not, decide_eq_true_eq] at *; omega)
        ·rw [if_neg c19] at H
         exact absurd H (by simp)
       ·rw [if_neg c18] at H
        exact absurd H (by simp)
      ·rw [if_neg c17] at H
       exact absurd H (by simp)
     ·rw [if_neg c16] at H
      exact absurd H (by simp)

end Go.Proofs.Ytjmgleomljfieaa.Q
