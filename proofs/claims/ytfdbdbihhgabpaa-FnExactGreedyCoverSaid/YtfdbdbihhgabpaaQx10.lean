-- Written by the program wip/tools/pr.py of this claim's session, over the kit's print.py.
import Derived.Test.YtfdbdbihhgabpaaQx0
import Derived.Test.YtfdbdbihhgabpaaQx4
import Derived.Test.YtfdbdbihhgabpaaQx6
namespace Go.Proofs.Ytfdbdbihhgabpaa.Q
open Go.RowKit Go.Proofs.YtfdbdbihhgabpaaW.PrintWords Go.Proofs.YtfdbdbihhgabpaaW.PrintLast Go.Proofs.YtfdbdbihhgabpaaW.PrintMore
attribute [local go_sem] max2_int min2_int max_two min_two max_three min_three max_four min_four   -- for this text's walks alone
set_option linter.unusedVariables false
set_option linter.unusedSimpArgs false

/-! ### impl_GreedyCover: function 19 -/
mutual
def impl_GreedyCover.j0 : Nat → Bool → List Int → List (S57) → Option ((List (S63)) × Int × Bool)
 | 0, _, _, _ => none
 | k + 1, x18, x399000, x400000 => if x18 = true then (some (([] : List (S63)), 0, false)) else ((impl_lay_45.f k x399000 x400000 x400000 x399000).bind fun t402 => (impl_GreedyCover.l0 k t402 0 t402 (t402.length : Int) 0 x400000))
def impl_GreedyCover.l0 : Nat → List (S63) → Int → List (S63) → Int → Int → List (S57) → Option ((List (S63)) × Int × Bool)
 | 0, _, _, _, _, _, _ => none
 | k + 1, x7, x8, x23, x24, x25, x400000 => if x25 < x24 then (if 0 ≤ x25 then (if x25 < (x23.length : Int) then (if ((rd_T63 x23 x25).f1) < 0 then (some (([] : List (S63)), 0, false)) else (if 0 ≤ ((rd_T63 x23 x25).f1) then (if ((rd_T63 x23 x25).f1) < (x400000.length : Int) then (impl_GreedyCover.l0 k x7 (wrap64 (x8 + ((rd_T57 x400000 ((rd_T63 x23 x25).f1)).f1))) x23 x24 (wrap64 (x25 + 1)) x400000) else (none)) else (none))) else (none)) else (none)) else (some (x7, x8, true))
end
def impl_GreedyCover.f (k : Nat) (l0 : List Int) (l1 : List (S57)) : Option ((List (S63)) × Int × Bool) := (impl_isTree.f k l0).bind fun t400 => (if t400 = true then ((impl_arePatterns.f k l1).bind fun t401 => (impl_GreedyCover.j0 k (!t401) l0 l1)) else (impl_GreedyCover.j0 k true l0 l1))
theorem impl_GreedyCover.mono_l : ∀ k, (∀ y0 y1 y2, LeO (impl_GreedyCover.j0 k y0 y1 y2) (impl_GreedyCover.j0 (k + 1) y0 y1 y2)) ∧ (∀ y0 y1 y2 y3 y4 y5, LeO (impl_GreedyCover.l0 k y0 y1 y2 y3 y4 y5) (impl_GreedyCover.l0 (k + 1) y0 y1 y2 y3 y4 y5))
 | 0 => ⟨fun _ _ _ r h => by simp [impl_GreedyCover.j0] at h, fun _ _ _ _ _ _ r h => by simp [impl_GreedyCover.l0] at h⟩
 | k + 1 => by
  obtain ⟨ih0, ih1⟩ := impl_GreedyCover.mono_l k
  refine ⟨?_, ?_⟩
  ·intro y0 y1 y2
   unfold impl_GreedyCover.j0
   repeat' first
   | with_reducible apply ih0
   | with_reducible apply ih1
   | with_reducible apply impl_arePatterns.mono
   | with_reducible apply impl_isTree.mono
   | with_reducible apply impl_lay_45.mono
   | (with_reducible exact LeO.refl _)
   | (with_reducible exact LeO.none _)
   | (with_reducible refine LeO.ite ?_ ?_)
   | (with_reducible refine LeO.bind ?_ (fun _ => ?_))
   | apply ih0
   | apply ih1
   | apply impl_arePatterns.mono
   | apply impl_isTree.mono
   | apply impl_lay_45.mono
   | exact LeO.none _
   | refine LeO.ite ?_ ?_
   | refine LeO.bind ?_ (fun _ => ?_)
  ·intro y0 y1 y2 y3 y4 y5
   unfold impl_GreedyCover.l0
   repeat' first
   | with_reducible apply ih0
   | with_reducible apply ih1
   | with_reducible apply impl_arePatterns.mono
   | with_reducible apply impl_isTree.mono
   | with_reducible apply impl_lay_45.mono
   | (with_reducible exact LeO.refl _)
   | (with_reducible exact LeO.none _)
   | (with_reducible refine LeO.ite ?_ ?_)
   | (with_reducible refine LeO.bind ?_ (fun _ => ?_))
   | apply ih0
   | apply ih1
   | apply impl_arePatterns.mono
   | apply impl_isTree.mono
   | apply impl_lay_45.mono
   | exact LeO.none _
   | refine LeO.ite ?_ ?_
   | refine LeO.bind ?_ (fun _ => ?_)
theorem impl_GreedyCover.mono : ∀ a0 a1 k, LeO (impl_GreedyCover.f k a0 a1) (impl_GreedyCover.f (k + 1) a0 a1) := by
 intro a0 a1 k
 obtain ⟨ih0, ih1⟩ := impl_GreedyCover.mono_l k
 unfold impl_GreedyCover.f
 repeat' first
   | with_reducible apply ih0
   | with_reducible apply ih1
   | with_reducible apply impl_arePatterns.mono
   | with_reducible apply impl_isTree.mono
   | with_reducible apply impl_lay_45.mono
   | (with_reducible exact LeO.refl _)
   | (with_reducible exact LeO.none _)
   | (with_reducible refine LeO.ite ?_ ?_)
   | (with_reducible refine LeO.bind ?_ (fun _ => ?_))
   | apply ih0
   | apply ih1
   | apply impl_arePatterns.mono
   | apply impl_isTree.mono
   | apply impl_lay_45.mono
   | exact LeO.none _
   | refine LeO.ite ?_ ?_
   | refine LeO.bind ?_ (fun _ => ?_)
set_option maxHeartbeats 8000000 in
set_option maxRecDepth 100000 in
theorem impl_GreedyCover.calls (k : Nat) (A0 : Option Addr) (c0 : Nat) (l0 : List Int) (A1 : Option Addr) (c1 : Nat) (l1 : List (S57)) (r1 : List (S63)) (r2 : Int) (r3 : Bool) (w : World) (hr0 : Kd.C (Kd.int .i64) w A0 l0.length l0) (hc0 : l0.length ≤ c0) (hr1 : Kd.C k57 w A1 l1.length l1) (hc1 : l1.length ≤ c1) (h : impl_GreedyCover.f k l0 l1 = some (r1, r2, r3)) :
  Calls Try.prog 19 #[.slice A0 l0.length c0, .slice A1 l1.length c1] w fun e w' => ∃ v0_ : Value, e = .returned (.tuple #[v0_, .int .i64 r2, .bool r3]) ∧ Kd.R k63 63 w' w.heap.size (fun _ => True) v0_ r1 ∧ Below w.heap.size w w' := by
 have hu63 := Try.underlying63
 have HR0 := Aside0.mk hr0
 have HC0 := Aside0.mk hc0
 clear hr0 hc0
 have HR1 := Aside0.mk hr1
 have HC1 := Aside0.mk hc1
 clear hr1 hc1
 have HB := Aside0.mk (Below.refl w.heap.size w)
 have H : ((impl_isTree.f k l0).bind fun t400 => (if t400 = true then ((impl_arePatterns.f k l1).bind fun t401 => (impl_GreedyCover.j0 k (!t401) l0 l1)) else (impl_GreedyCover.j0 k true l0 l1))) = some (r1, r2, r3) := h
 clear h
 have HC3 := Aside0.mk H
 clear H
 go_enter Try.func19, Try.ntmps19
 go_upto_region 1 with (first | ((with_reducible refine gate_dst (N := 2) rfl ?_); refine bxe 2 #[.slice A0 l0.length c0] 22 ?_; intro gb398 hg w4 hbox hb; have n0_ := Aside0.mk (below_step lB hb); have n1_ := Aside0.mk (hbox); have n2_ := lG w hg; have n3_ := lG w hg; clear HB; have HB := n0_; have BK398 := n1_; have GW398 := n2_; have GE398 := n3_; clear n0_ n1_ n2_ n3_; clear hb hbox hg) | ((with_reducible refine gate_dst (N := 3) rfl ?_); refine bxe 3 #[.slice A1 l1.length c1] 29 ?_; intro gb399 hg w5 hbox hb; have n0_ := Aside0.mk (blk_below (lK BK398.out) hb); have n1_ := Aside0.mk (below_step lB hb); have n2_ := Aside0.mk (hbox); have n3_ := lG w hg; have n4_ := lG w hg; have n5_ := Aside0.mk ((by rw [hg]; exact Nat.ne_of_lt (blk_lt (lK BK398.out)) : gb398 ≠ gb399)); have n6_ := Aside0.mk ((by rw [hg]; exact Nat.ne_of_gt (blk_lt (lK BK398.out)) : gb399 ≠ gb398)); clear BK398; clear HB; have BK398 := n0_; have HB := n1_; have BK399 := n2_; have GW399 := n3_; have GE399 := n4_; have NB398_399 := n5_; have NB399_398 := n6_; clear n0_ n1_ n2_ n3_ n4_ n5_ n6_; clear hb hbox hg))
 (try simp only [Act.put, List.setIfInBounds_toArray, List.set_cons_zero, List.set_cons_succ])
 go_cut [18] (fun v18 wc => ∃ (kq : Nat) (x18_2 : Bool), v18 = .bool x18_2 ∧ Aside0 (impl_GreedyCover.j0 kq x18_2 l0 l1 = some (r1, r2, r3)) ∧ Aside0 (kq ≤ k) ∧ Aside0 (wc.heap[gb398]? = some (.cells #[(.slice A0 l0.length c0)] 22 (0, 0))) ∧ Aside0 (wc.heap[gb399]? = some (.cells #[(.slice A1 l1.length c1)] 29 (0, 0))) ∧ Aside0 (Below w.heap.size w wc))
 case first =>
  have H := HC3.out
  clear HC3
  replace H := lO H
  obtain ⟨t400, A6, H⟩ := H
  by_cases c7 : t400 = true
  ·subst c7
   rw [if_pos rfl] at H
   replace H := lO H
   obtain ⟨t401, A8, H⟩ := H
   have H' := Aside0.mk H
   clear H
   have hnb9 := NB398_399.out
   have hnc9 := NB399_398.out
   obtain ⟨hcz10_0, hfz10_0⟩ := bk1 BK398.out
   go_wp2_with (first | ((with_reducible refine gate_callee (f := 35) rfl ?_); refine gl_ (some 12) (Try.func35) #[.slice A0 l0.length c0] ?_; (with_reducible refine (impl_isTree.calls k _ _ l0 true _ ?side1 ?side2 A6.out).mono ?_); (case side1 => exact lC (Kd.C_below HR0.out HB.out)); (case side2 => exact HC0.out); rintro e w' ⟨rfl, ⟨nd, rfl⟩⟩; refine ⟨_, rfl, ?_⟩; obtain ⟨hcz11_0, hfz11_0⟩ := bk1 BK399.out) | (go_at_call 36; (with_reducible refine (impl_arePatterns.calls k _ _ l1 t401 _ ?side1 ?side2 A8.out).mono ?_); (case side1 => repeat (first | exact (Kd.C_below HR1.out lB) | (with_reducible refine Kd.C_alloc ?_ _) | (with_reducible refine Kd.C_drewN ?_ _) | (with_reducible refine Kd.C_drew ?_))); (case side2 => exact HC1.out); rintro e w12 ⟨rfl, hb⟩; have n0_ := Aside0.mk (blk_below (lK BK398.out) hb); have n1_ := Aside0.mk (blk_below (lK BK399.out) hb); have n2_ := Aside0.mk (below_step lB hb); clear BK398; clear BK399; clear HB; have BK398 := n0_; have BK399 := n1_; have HB := n2_; clear n0_ n1_ n2_; (try clear hb); (try clear hb2); (try clear hk); (try clear hi)))
   go_meet
   case rel => exact ⟨_, (!t401), lF, H', ⟨lN⟩, ⟨lK BK398.out⟩, ⟨lK BK399.out⟩, ⟨lB⟩⟩
  ·replace c7 := Bool.eq_false_iff.mpr c7
   subst c7
   rw [if_neg (show ¬ (false = true) by decide)] at H
   have H' := Aside0.mk H
   clear H
   have hnb13 := NB398_399.out
   have hnc13 := NB399_398.out
   obtain ⟨hcz14_0, hfz14_0⟩ := bk1 BK398.out
   go_wp2_with (first | ((with_reducible refine gate_callee (f := 35) rfl ?_); refine gl_ (some 12) (Try.func35) #[.slice A0 l0.length c0] ?_; (with_reducible refine (impl_isTree.calls k _ _ l0 false _ ?side1 ?side2 A6.out).mono ?_); (case side1 => exact lC (Kd.C_below HR0.out HB.out)); (case side2 => exact HC0.out); rintro e w' ⟨rfl, ⟨nd, rfl⟩⟩; refine ⟨_, rfl, ?_⟩))
   go_meet
   case rel => exact ⟨_, (true), lF, H', ⟨lN⟩, ⟨lK BK398.out⟩, ⟨lK BK399.out⟩, ⟨lB⟩⟩
 case rest =>
  clear HC3
  try clear c1
  try clear p2
  try clear c3
  try clear c7
  try clear c9
  try clear c13
  try clear hcz10_0
  try clear hcz11_0
  try clear hcz14_0
  try clear hfz10_0
  try clear hfz11_0
  try clear hfz14_0
  obtain ⟨kq, x18_2, rfl, HA, HJ2, BK398, BK399, HB⟩ := hcut
  cases kq with
  | zero => exact absurd HA.out (by simp [impl_GreedyCover.j0])
  | succ kj2 =>
   have H := HA.out
   clear HA
   simp only [impl_GreedyCover.j0] at H
   by_cases c15 : x18_2 = true
   ·subst c15
    rw [if_pos rfl] at H
    simp only [Option.some.injEq, Prod.mk.injEq] at H
    obtain ⟨rfl, rfl, rfl⟩ := H
    go_wp2
    go_ret3
    exact ⟨_, lE, by first | exact Kd.R_nil _ _ _ _ _ | exact Kd.N_nil _ _ _ _ _ | exact Kd.V_nil _ _ _ _ _ | exact Kd.Q_nil _ _ _ _ _ | exact Kd.S_nil _ _ _ _ _, lB⟩
   ·replace c15 := Bool.eq_false_iff.mpr c15
    subst c15
    rw [if_neg (show ¬ (false = true) by decide)] at H
    replace H := lO H
    obtain ⟨t402, A16, H⟩ := H
    have H' := Aside0.mk H
    clear H
    have hnb17 := NB398_399.out
    have hnc17 := NB399_398.out
    obtain ⟨hcz18_0, hfz18_0⟩ := bk1 BK398.out
    obtain ⟨hcz19_0, hfz19_0⟩ := bk1 BK399.out
    go_wp2_with (first | ((with_reducible refine gate_callee (f := 38) rfl ?_); refine gl_ (some 22) (Try.func38) #[.slice A0 l0.length c0, .slice A1 l1.length c1, .func (.func 45) #[] #[.pointer (some ⟨gb399, 0, none⟩), .pointer (some ⟨gb398, 0, none⟩)]] ?_; (with_reducible refine (impl_lay_45.calls kj2 _ _ l0 _ _ l1 gb399 A1 c1 l1 gb398 A0 c0 l0 t402 _ ?side1 ?side2 ?side3 ?side4 ?side5 ?side6 ?side7 ?side8 ?side9 ?side10 A16.out).mono ?_); (case side1 => exact lC (Kd.C_below HR0.out HB.out)); (case side2 => exact HC0.out); (case side3 => exact lC (Kd.C_below HR1.out HB.out)); (case side4 => exact HC1.out); (case side5 => exact (lK BK399.out)); (case side6 => exact lC (Kd.C_below HR1.out HB.out)); (case side7 => exact HC1.out); (case side8 => exact (lK BK398.out)); (case side9 => exact lC (Kd.C_below HR0.out HB.out)); (case side10 => exact HC0.out); rintro e w20 ⟨v403, rfl, ho0, hb⟩; refine ⟨_, rfl, ?_⟩; have n0_ := Aside0.mk (Kd.R_lower ho0 (below_size lB)); have n1_ := Aside0.mk (blk_below (lK BK398.out) hb); have n2_ := Aside0.mk (blk_below (lK BK399.out) hb); have n3_ := Aside0.mk (below_step lB hb); clear BK398; clear BK399; clear HB; have HO404 := n0_; have BK398 := n1_; have BK399 := n2_; have HB := n3_; clear n0_ n1_ n2_ n3_; (try clear hb); (try clear hb2); (try clear hk); (try clear hi); (try clear ho0); obtain ⟨Ao21, co21, eo21⟩ := Kd.R_slice HO404.out; subst eo21))
    go_loopg [8, 25] kj2 (fun kq v8 v25 w' => ∃ (x8_2 : Int) (x25_2 : Int), v8 = .int .i64 x8_2 ∧ v25 = .int .i64 x25_2 ∧ Aside0 (impl_GreedyCover.l0 kq t402 x8_2 t402 (t402.length : Int) x25_2 l1 = some (r1, r2, r3)) ∧ Aside0 (kq ≤ kj2) ∧ Aside0 (Kd.R k63 63 w' w.heap.size (fun _ => True) (.slice Ao21 t402.length co21) t402) ∧ Aside0 (Kd.R k63 63 w' w.heap.size (fun _ => True) (.slice Ao21 t402.length co21) t402) ∧ Aside0 (w'.heap[gb398]? = some (.cells #[(.slice A0 l0.length c0)] 22 (0, 0))) ∧ Aside0 (w'.heap[gb399]? = some (.cells #[(.slice A1 l1.length c1)] 29 (0, 0))) ∧ Aside0 (Below w.heap.size w w'))
    case atStart => exact ⟨(0), (0), lF, lF, H', ⟨Nat.le_refl _⟩, ⟨lR HO404.out⟩, ⟨lR HO404.out⟩, ⟨lK BK398.out⟩, ⟨lK BK399.out⟩, ⟨lB⟩⟩
    case round =>
     clear H'
     try clear c1
     try clear p2
     try clear c3
     try clear c7
     try clear c9
     try clear c13
     try clear c15
     try clear c17
     try clear c19
     try clear hcz10_0
     try clear hcz11_0
     try clear hcz14_0
     try clear hcz18_0
     try clear hcz19_0
     try clear hfz10_0
     try clear hfz11_0
     try clear hfz14_0
     try clear hfz18_0
     try clear hfz19_0
     try clear p2
     obtain ⟨x8_2, x25_2, rfl, rfl, HA, HK2, HO_7, HO_23, BK398, BK399, HB⟩ := hrel
     cases gk with
     | zero => exact absurd HA.out (by simp [impl_GreedyCover.l0])
     | succ k2 =>
      have H := HA.out
      clear HA
      simp only [impl_GreedyCover.l0] at H
      by_cases c22 : x25_2 < (t402.length : Int)
      ·rw [if_pos c22] at H
       have c22b0 : decide (x25_2 < (t402.length : Int)) = true := decide_eq_true c22
       clear c22
       by_cases c23 : 0 ≤ x25_2
       ·rw [if_pos c23] at H
        have c23b0 : decide (0 ≤ x25_2) = true := decide_eq_true c23
        clear c23
        by_cases c24 : x25_2 < (t402.length : Int)
        ·rw [if_pos c24] at H
         have c24b0 : decide (x25_2 < (t402.length : Int)) = true := decide_eq_true c24
         clear c24
         by_cases c25 : ((rd_T63 t402 x25_2).f1) < 0
         ·rw [if_pos c25] at H
          have c25b0 : decide (((rd_T63 t402 x25_2).f1) < 0) = true := decide_eq_true c25
          clear c25
          simp only [Option.some.injEq, Prod.mk.injEq] at H
          obtain ⟨rfl, rfl, rfl⟩ := H
          have p405 : 0 ≤ (x25_2 : Int) := lD
          have q405 : x25_2 < (t402.length : Int) := lD
          obtain ⟨ad405, e405, hx405_0, hx405_1⟩ := at_T63 (Kd.R_reads' HO_23.out).2.2 x25_2 p405 q405
          cases e405
          replace p405 := eq_true p405
          replace q405 := eq_true q405
          go_wp2_with (first | ((with_reducible refine gate_dst (N := 10) rfl ?_); refine bxe 10 #[.int .i64 0, .int .i64 0] 63 ?_; intro gb406 hg w26 hbox hb; have n0_ := Aside0.mk (Kd.R_below (Kd.R_elderB (lR HO_7.out) gb406 (Nat.le_of_eq hg.symm)) hb); have n1_ := Aside0.mk (Kd.R_below (Kd.R_elderB (lR HO_23.out) gb406 (Nat.le_of_eq hg.symm)) hb); have n2_ := Aside0.mk (blk_below (lK BK398.out) hb); have n3_ := Aside0.mk (blk_below (lK BK399.out) hb); have n4_ := Aside0.mk (below_step lB hb); have n5_ := Aside0.mk (hbox); have n6_ := lG w hg; have n7_ := lG w hg; have n8_ := Aside0.mk ((by rw [hg]; exact Nat.ne_of_lt (blk_lt (lK BK398.out)) : gb398 ≠ gb406)); have n9_ := Aside0.mk ((by rw [hg]; exact Nat.ne_of_gt (blk_lt (lK BK398.out)) : gb406 ≠ gb398)); have n10_ := Aside0.mk ((by rw [hg]; exact Nat.ne_of_lt (blk_lt (lK BK399.out)) : gb399 ≠ gb406)); have n11_ := Aside0.mk ((by rw [hg]; exact Nat.ne_of_gt (blk_lt (lK BK399.out)) : gb406 ≠ gb399)); clear HO_7; clear HO_23; clear BK398; clear BK399; clear HB; have HO_7 := n0_; have HO_23 := n1_; have BK398 := n2_; have BK399 := n3_; have HB := n4_; have BK406 := n5_; have GW406 := n6_; have GE406 := n7_; have NB398_406 := n8_; have NB406_398 := n9_; have NB399_406 := n10_; have NB406_399 := n11_; clear n0_ n1_ n2_ n3_ n4_ n5_ n6_ n7_ n8_ n9_ n10_ n11_; clear hb hbox hg; have hnb27 := NB406_398.out; have hnc27 := NB398_406.out; have hnb28 := NB406_399.out; have hnc28 := NB399_406.out; obtain ⟨hcz29_0, hfz29_0, hcz29_1, hfz29_1⟩ := bk2 BK406.out))
          go_ret3
          exact ⟨_, lE, by first | exact Kd.R_nil _ _ _ _ _ | exact Kd.N_nil _ _ _ _ _ | exact Kd.V_nil _ _ _ _ _ | exact Kd.Q_nil _ _ _ _ _ | exact Kd.S_nil _ _ _ _ _, lB⟩
         ·rw [if_neg c25] at H
          have c25b0 : decide (((rd_T63 t402 x25_2).f1) < 0) = false := decide_eq_false c25
          clear c25
          by_cases c30 : 0 ≤ ((rd_T63 t402 x25_2).f1)
          ·rw [if_pos c30] at H
           have c30b0 : decide (0 ≤ ((rd_T63 t402 x25_2).f1)) = true := decide_eq_true c30
           clear c30
           by_cases c31 : ((rd_T63 t402 x25_2).f1) < (l1.length : Int)
           ·rw [if_pos c31] at H
            have c31b0 : decide (((rd_T63 t402 x25_2).f1) < (l1.length : Int)) = true := decide_eq_true c31
            clear c31
            have H' := Aside0.mk H
            clear H
            have p405 : 0 ≤ (x25_2 : Int) := lD
            have q405 : x25_2 < (t402.length : Int) := lD
            obtain ⟨ad405, e405, hx405_0, hx405_1⟩ := at_T63 (Kd.R_reads' HO_23.out).2.2 x25_2 p405 q405
            cases e405
            replace p405 := eq_true p405
            replace q405 := eq_true q405
            go_wp2_with (first | ((with_reducible refine gate_dst (N := 10) rfl ?_); refine bxe 10 #[.int .i64 0, .int .i64 0] 63 ?_; intro gb406 hg w32 hbox hb; have n0_ := Aside0.mk (Kd.R_below (Kd.R_elderB (lR HO_7.out) gb406 (Nat.le_of_eq hg.symm)) hb); have n1_ := Aside0.mk (Kd.R_below (Kd.R_elderB (lR HO_23.out) gb406 (Nat.le_of_eq hg.symm)) hb); have n2_ := Aside0.mk (blk_below (lK BK398.out) hb); have n3_ := Aside0.mk (blk_below (lK BK399.out) hb); have n4_ := Aside0.mk (below_step lB hb); have n5_ := Aside0.mk (hbox); have n6_ := lG w hg; have n7_ := lG w hg; have n8_ := Aside0.mk ((by rw [hg]; exact Nat.ne_of_lt (blk_lt (lK BK398.out)) : gb398 ≠ gb406)); have n9_ := Aside0.mk ((by rw [hg]; exact Nat.ne_of_gt (blk_lt (lK BK398.out)) : gb406 ≠ gb398)); have n10_ := Aside0.mk ((by rw [hg]; exact Nat.ne_of_lt (blk_lt (lK BK399.out)) : gb399 ≠ gb406)); have n11_ := Aside0.mk ((by rw [hg]; exact Nat.ne_of_gt (blk_lt (lK BK399.out)) : gb406 ≠ gb399)); clear HO_7; clear HO_23; clear BK398; clear BK399; clear HB; have HO_7 := n0_; have HO_23 := n1_; have BK398 := n2_; have BK399 := n3_; have HB := n4_; have BK406 := n5_; have GW406 := n6_; have GE406 := n7_; have NB398_406 := n8_; have NB406_398 := n9_; have NB399_406 := n10_; have NB406_399 := n11_; clear n0_ n1_ n2_ n3_ n4_ n5_ n6_ n7_ n8_ n9_ n10_ n11_; clear hb hbox hg; have hnb33 := NB406_398.out; have hnc33 := NB398_406.out; have hnb34 := NB406_399.out; have hnc34 := NB399_406.out; obtain ⟨hcz35_0, hfz35_0, hcz35_1, hfz35_1⟩ := bk2 BK406.out; have hnb36 := NB399_398.out; have hnc36 := NB398_399.out; obtain ⟨hcz37_0, hfz37_0⟩ := bk1 BK399.out; have p407 : 0 ≤ (((rd_T63 t402 x25_2).f1) : Int) := lD; have q407 : ((rd_T63 t402 x25_2).f1) < (l1.length : Int) := lD; obtain ⟨ad407, A407_0, c407_0, e407, hx407_0, hx407_1, hl407_0, hi407_0⟩ := at_T57 HR1.out ((rd_T63 t402 x25_2).f1) p407 q407; cases e407; have hn407_0 : ad407.block ≠ gb406 := Nat.ne_of_lt (Nat.lt_of_lt_of_le (by have := World.block_lt_of_cell? _ _ hx407_0; first | rwa [add_block] at this | exact this) GW406.out); have hn407_1 : ad407.block ≠ gb406 := Nat.ne_of_lt (Nat.lt_of_lt_of_le (by have := World.block_lt_of_cell? _ _ hx407_0; first | rwa [add_block] at this | exact this) GW406.out); replace hx407_0 := pw_cell_below HB.out hx407_0; replace hx407_1 := pw_cell_below HB.out hx407_1; have HR407_0 := Aside0.mk hi407_0; have HC407_0 := Aside0.mk hl407_0; clear hi407_0 hl407_0; replace hx407_0 := (cell_far (p := ⟨gb406, 0, none⟩) (by first | (rw [add_block]; exact hn407_0) | (show (Addr.add _ _).block ≠ _; rw [add_block]; exact hn407_0) | exact hn407_0) (.int .i64 ((rd_T63 t402 x25_2).f0))).trans hx407_0; replace hx407_1 := (cell_far (p := ⟨gb406, 0, none⟩) (by first | (rw [add_block]; exact hn407_0) | (show (Addr.add _ _).block ≠ _; rw [add_block]; exact hn407_0) | exact hn407_0) (.int .i64 ((rd_T63 t402 x25_2).f0))).trans hx407_1; replace hx407_0 := (cell_far (p := ⟨gb406, 1, none⟩) (by first | (rw [add_block]; exact hn407_1) | (show (Addr.add _ _).block ≠ _; rw [add_block]; exact hn407_1) | exact hn407_1) (.int .i64 ((rd_T63 t402 x25_2).f1))).trans hx407_0; replace hx407_1 := (cell_far (p := ⟨gb406, 1, none⟩) (by first | (rw [add_block]; exact hn407_1) | (show (Addr.add _ _).block ≠ _; rw [add_block]; exact hn407_1) | exact hn407_1) (.int .i64 ((rd_T63 t402 x25_2).f1))).trans hx407_1; clear hn407_0; clear hn407_1; replace p407 := eq_true p407; replace q407 := eq_true q407))
            go_roundg k2
            case measure => have := HJ2.out; have := HK2.out; omega
            case rel => exact ⟨(wrap64 (x8_2 + ((rd_T57 l1 ((rd_T63 t402 x25_2).f1)).f1))), (wrap64 (x25_2 + 1)), lF, lF, H', ⟨by have := HJ2.out; have := HK2.out; omega⟩, ⟨by (with_reducible repeat (first | apply Kd.R_alloc | apply Kd.R_drewN | apply Kd.R_drew)); exact Kd.R_mono (Kd.R_far (p := ⟨gb406, 1, none⟩) (Kd.R_far (p := ⟨gb406, 0, none⟩) (Kd.R_mono HO_7.out (fun k_ hk => (⟨hk, hk.2⟩ : _ ∧ k_ ≠ gb406))) (fun _ hk => hk.2) (.int .i64 ((rd_T63 t402 x25_2).f0))) (fun _ hk => hk.2) (.int .i64 ((rd_T63 t402 x25_2).f1))) (fun _ hk => trivial)⟩, ⟨by (with_reducible repeat (first | apply Kd.R_alloc | apply Kd.R_drewN | apply Kd.R_drew)); exact Kd.R_mono (Kd.R_far (p := ⟨gb406, 1, none⟩) (Kd.R_far (p := ⟨gb406, 0, none⟩) (Kd.R_mono HO_23.out (fun k_ hk => (⟨hk, hk.2⟩ : _ ∧ k_ ≠ gb406))) (fun _ hk => hk.2) (.int .i64 ((rd_T63 t402 x25_2).f0))) (fun _ hk => hk.2) (.int .i64 ((rd_T63 t402 x25_2).f1))) (fun _ hk => trivial)⟩, ⟨lJ BK398.out⟩, ⟨lJ BK399.out⟩, ⟨lB⟩⟩
           ·rw [if_neg c31] at H
            exact absurd H (by simp)
          ·rw [if_neg c30] at H
           exact absurd H (by simp)
        ·rw [if_neg c24] at H
         exact absurd H (by simp)
       ·rw [if_neg c23] at H
        exact absurd H (by simp)
      ·rw [if_neg c22] at H
       have c22b0 : decide (x25_2 < (t402.length : Int)) = false := decide_eq_false c22
       clear c22
       simp only [Option.some.injEq, Prod.mk.injEq] at H
       obtain ⟨rfl, rfl, rfl⟩ := H
       go_wp2
       go_ret3
       exact ⟨_, lE, lR HO_7.out, lB⟩

-- NOT PRINTED: function 4 (laws_FnExactGreedyCover)

end Go.Proofs.Ytfdbdbihhgabpaa.Q
