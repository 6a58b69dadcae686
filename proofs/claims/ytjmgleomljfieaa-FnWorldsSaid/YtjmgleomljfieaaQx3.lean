-- Written by the program wip/tools/pr.py of this claim's session, over the kit's print.py.
import Derived.Test.YtjmgleomljfieaaQx0
import Derived.Test.YtjmgleomljfieaaQx2
namespace Go.Proofs.Ytjmgleomljfieaa.Q
open Go.RowKit Go.Proofs.YtjmgleomljfieaaW.PrintWords Go.Proofs.YtjmgleomljfieaaW.PrintLast Go.Proofs.YtjmgleomljfieaaW.PrintMore
attribute [local go_sem] max2_int min2_int max_two min_two max_three min_three max_four min_four   -- for this text's walks alone
set_option linter.unusedVariables false
set_option linter.unusedSimpArgs false

/-! ### spec_SubclassOf: function 18 -/
mutual
def spec_SubclassOf.j0 : Nat → Int → Int → Bool → List (S82) → Int → Option (Bool × Bool)
 | 0, _, _, _, _, _ => none
 | k + 1, x1, x2, x22, x120000, x120001 => if x22 = true then (some (false, false)) else (spec_SubclassOf.l0 k x1 x2 x120000 x120001)
def spec_SubclassOf.l0 : Nat → Int → Int → List (S82) → Int → Option (Bool × Bool)
 | 0, _, _, _, _ => none
 | k + 1, x1, x2, x120000, x120001 => if x1 > x2 then (if 0 ≤ x1 then (if x1 < (x120000.length : Int) then (spec_SubclassOf.l0 k ((rd_T82 x120000 x1).f0) x2 x120000 x120001) else (none)) else (none)) else (some ((x1 == x2), true))
end
def spec_SubclassOf.f (k : Nat) (l0_0 : List (S82)) (a0_1 : Int) (a1 : Int) (a2 : Int) : Option (Bool × Bool) := (spec_GoodWorld.f k l0_0 a0_1).bind fun t120 => (if t120 = true then ((spec_l12Class.f l0_0 a0_1 a1).bind fun t121 => (if t121 = true then ((spec_l12Class.f l0_0 a0_1 a2).bind fun t122 => (spec_SubclassOf.j0 k a1 a2 (!t122) l0_0 a0_1)) else (spec_SubclassOf.j0 k a1 a2 true l0_0 a0_1))) else (spec_SubclassOf.j0 k a1 a2 true l0_0 a0_1))
theorem spec_SubclassOf.mono_l : ∀ k, (∀ y0 y1 y2 y3 y4, LeO (spec_SubclassOf.j0 k y0 y1 y2 y3 y4) (spec_SubclassOf.j0 (k + 1) y0 y1 y2 y3 y4)) ∧ (∀ y0 y1 y2 y3, LeO (spec_SubclassOf.l0 k y0 y1 y2 y3) (spec_SubclassOf.l0 (k + 1) y0 y1 y2 y3))
 | 0 => ⟨fun _ _ _ _ _ r h => by simp [spec_SubclassOf.j0] at h, fun _ _ _ _ r h => by simp [spec_SubclassOf.l0] at h⟩
 | k + 1 => by
  obtain ⟨ih0, ih1⟩ := spec_SubclassOf.mono_l k
  refine ⟨?_, ?_⟩
  ·intro y0 y1 y2 y3 y4
   unfold spec_SubclassOf.j0
   repeat' first
   | with_reducible apply ih0
   | with_reducible apply ih1
   | with_reducible apply spec_GoodWorld.mono
   | (with_reducible exact LeO.refl _)
   | (with_reducible exact LeO.none _)
   | (with_reducible refine LeO.ite ?_ ?_)
   | (with_reducible refine LeO.bind ?_ (fun _ => ?_))
   | apply ih0
   | apply ih1
   | apply spec_GoodWorld.mono
   | exact LeO.none _
   | refine LeO.ite ?_ ?_
   | refine LeO.bind ?_ (fun _ => ?_)
  ·intro y0 y1 y2 y3
   unfold spec_SubclassOf.l0
   repeat' first
   | with_reducible apply ih0
   | with_reducible apply ih1
   | with_reducible apply spec_GoodWorld.mono
   | (with_reducible exact LeO.refl _)
   | (with_reducible exact LeO.none _)
   | (with_reducible refine LeO.ite ?_ ?_)
   | (with_reducible refine LeO.bind ?_ (fun _ => ?_))
   | apply ih0
   | apply ih1
   | apply spec_GoodWorld.mono
   | exact LeO.none _
   | refine LeO.ite ?_ ?_
   | refine LeO.bind ?_ (fun _ => ?_)
theorem spec_SubclassOf.mono : ∀ a0 a1 a2 a3 k, LeO (spec_SubclassOf.f k a0 a1 a2 a3) (spec_SubclassOf.f (k + 1) a0 a1 a2 a3) := by
 intro a0 a1 a2 a3 k
 obtain ⟨ih0, ih1⟩ := spec_SubclassOf.mono_l k
 unfold spec_SubclassOf.f
 repeat' first
   | with_reducible apply ih0
   | with_reducible apply ih1
   | with_reducible apply spec_GoodWorld.mono
   | (with_reducible exact LeO.refl _)
   | (with_reducible exact LeO.none _)
   | (with_reducible refine LeO.ite ?_ ?_)
   | (with_reducible refine LeO.bind ?_ (fun _ => ?_))
   | apply ih0
   | apply ih1
   | apply spec_GoodWorld.mono
   | exact LeO.none _
   | refine LeO.ite ?_ ?_
   | refine LeO.bind ?_ (fun _ => ?_)
set_option maxHeartbeats 8000000 in
set_option maxRecDepth 100000 in
theorem spec_SubclassOf.calls (k : Nat) (A0_0 : Option Addr) (c0_0 : Nat) (l0_0 : List (S82)) (a0_1 : Int) (a1 : Int) (a2 : Int) (r1 : Bool) (r2 : Bool) (w : World) (hr0_0 : Kd.C k82 w A0_0 l0_0.length l0_0) (hc0_0 : l0_0.length ≤ c0_0) (h : spec_SubclassOf.f k l0_0 a0_1 a1 a2 = some (r1, r2)) :
  Calls Try.prog 18 #[.agg #[.slice A0_0 l0_0.length c0_0, .int .i64 a0_1], .int .i64 a1, .int .i64 a2] w fun e w' => e = .returned (.tuple #[.bool r1, .bool r2]) ∧ Below w.heap.size w w' := by
 have hu29 := Try.underlying29
 have HR0_0 := Aside0.mk hr0_0
 have HC0_0 := Aside0.mk hc0_0
 clear hr0_0 hc0_0
 have HB := Aside0.mk (Below.refl w.heap.size w)
 have H : ((spec_GoodWorld.f k l0_0 a0_1).bind fun t120 => (if t120 = true then ((spec_l12Class.f l0_0 a0_1 a1).bind fun t121 => (if t121 = true then ((spec_l12Class.f l0_0 a0_1 a2).bind fun t122 => (spec_SubclassOf.j0 k a1 a2 (!t122) l0_0 a0_1)) else (spec_SubclassOf.j0 k a1 a2 true l0_0 a0_1))) else (spec_SubclassOf.j0 k a1 a2 true l0_0 a0_1))) = some (r1, r2) := h
 clear h
 have HC4 := Aside0.mk H
 clear H
 go_enter Try.func18, Try.ntmps18
 go_upto_region 1 with (first | ((with_reducible refine gate_dst (N := 3) rfl ?_); refine bxe 3 #[.slice A0_0 l0_0.length c0_0, .int .i64 a0_1] 29 ?_; intro gb119 hg w5 hbox hb; have n0_ := Aside0.mk (below_step lB hb); have n1_ := Aside0.mk (hbox); have n2_ := lG w hg; have n3_ := lG w hg; clear HB; have HB := n0_; have BK119 := n1_; have GW119 := n2_; have GE119 := n3_; clear n0_ n1_ n2_ n3_; clear hb hbox hg))
 (try simp only [Act.put, List.setIfInBounds_toArray, List.set_cons_zero, List.set_cons_succ])
 go_cut [22] (fun v22 wc => ∃ (kq : Nat) (x22_3 : Bool), v22 = .bool x22_3 ∧ Aside0 (spec_SubclassOf.j0 kq a1 a2 x22_3 l0_0 a0_1 = some (r1, r2)) ∧ Aside0 (kq ≤ k) ∧ Aside0 (wc.heap[gb119]? = some (.cells #[(.slice A0_0 l0_0.length c0_0), .int .i64 a0_1] 29 (0, 0))) ∧ Aside0 (Below w.heap.size w wc))
 case first =>
  have H := HC4.out
  clear HC4
  replace H := lO H
  obtain ⟨t120, A6, H⟩ := H
  by_cases c7 : t120 = true
  ·subst c7
   rw [if_pos rfl] at H
   replace H := lO H
   obtain ⟨t121, A8, H⟩ := H
   by_cases c9 : t121 = true
   ·subst c9
    rw [if_pos rfl] at H
    replace H := lO H
    obtain ⟨t122, A10, H⟩ := H
    have H' := Aside0.mk H
    clear H
    obtain ⟨hcz11_0, hfz11_0, hcz11_1, hfz11_1⟩ := bk2 BK119.out
    go_wp2_with (first | ((with_reducible refine gate_callee (f := 14) rfl ?_); refine gl_ (some 9) (Try.func14) #[.agg #[.slice A0_0 l0_0.length c0_0, .int .i64 a0_1]] ?_; (with_reducible refine (spec_GoodWorld.calls k _ _ l0_0 a0_1 true _ ?side1 ?side2 A6.out).mono ?_); (case side1 => exact lC (Kd.C_below HR0_0.out HB.out)); (case side2 => exact HC0_0.out); rintro e w12 ⟨rfl, hb⟩; refine ⟨_, rfl, ?_⟩; have n0_ := Aside0.mk (blk_below (lK BK119.out) hb); have n1_ := Aside0.mk (below_step lB hb); clear BK119; clear HB; have BK119 := n0_; have HB := n1_; clear n0_ n1_; (try clear hb); (try clear hb2); (try clear hk); (try clear hi); obtain ⟨hcz13_0, hfz13_0, hcz13_1, hfz13_1⟩ := bk2 BK119.out) | (go_at_call 58; (with_reducible refine (spec_l12Class.calls _ _ l0_0 a0_1 a1 true _ ?side1 ?side2 A8.out).mono ?_); (case side1 => exact lC (Kd.C_below HR0_0.out HB.out)); (case side2 => exact HC0_0.out); rintro e w14 ⟨rfl, hb⟩; have n0_ := Aside0.mk (blk_below (lK BK119.out) hb); have n1_ := Aside0.mk (below_step lB hb); clear BK119; clear HB; have BK119 := n0_; have HB := n1_; clear n0_ n1_; (try clear hb); (try clear hb2); (try clear hk); (try clear hi); obtain ⟨hcz15_0, hfz15_0, hcz15_1, hfz15_1⟩ := bk2 BK119.out) | (go_at_call 58; (with_reducible refine (spec_l12Class.calls _ _ l0_0 a0_1 a2 t122 _ ?side1 ?side2 A10.out).mono ?_); (case side1 => exact lC (Kd.C_below HR0_0.out HB.out)); (case side2 => exact HC0_0.out); rintro e w16 ⟨rfl, hb⟩; have n0_ := Aside0.mk (blk_below (lK BK119.out) hb); have n1_ := Aside0.mk (below_step lB hb); clear BK119; clear HB; have BK119 := n0_; have HB := n1_; clear n0_ n1_; (try clear hb); (try clear hb2); (try clear hk); (try clear hi)))
    go_meet
    case rel => exact ⟨_, (!t122), lF, H', ⟨lN⟩, ⟨lK BK119.out⟩, ⟨lB⟩⟩
   ·replace c9 := Bool.eq_false_iff.mpr c9
    subst c9
    rw [if_neg (show ¬ (false = true) by decide)] at H
    have H' := Aside0.mk H
    clear H
    obtain ⟨hcz17_0, hfz17_0, hcz17_1, hfz17_1⟩ := bk2 BK119.out
    go_wp2_with (first | ((with_reducible refine gate_callee (f := 14) rfl ?_); refine gl_ (some 9) (Try.func14) #[.agg #[.slice A0_0 l0_0.length c0_0, .int .i64 a0_1]] ?_; (with_reducible refine (spec_GoodWorld.calls k _ _ l0_0 a0_1 true _ ?side1 ?side2 A6.out).mono ?_); (case side1 => exact lC (Kd.C_below HR0_0.out HB.out)); (case side2 => exact HC0_0.out); rintro e w18 ⟨rfl, hb⟩; refine ⟨_, rfl, ?_⟩; have n0_ := Aside0.mk (blk_below (lK BK119.out) hb); have n1_ := Aside0.mk (below_step lB hb); clear BK119; clear HB; have BK119 := n0_; have HB := n1_; clear n0_ n1_; (try clear hb); (try clear hb2); (try clear hk); (try clear hi); obtain ⟨hcz19_0, hfz19_0, hcz19_1, hfz19_1⟩ := bk2 BK119.out) | (go_at_call 58; (with_reducible refine (spec_l12Class.calls _ _ l0_0 a0_1 a1 false _ ?side1 ?side2 A8.out).mono ?_); (case side1 => exact lC (Kd.C_below HR0_0.out HB.out)); (case side2 => exact HC0_0.out); rintro e w20 ⟨rfl, hb⟩; have n0_ := Aside0.mk (blk_below (lK BK119.out) hb); have n1_ := Aside0.mk (below_step lB hb); clear BK119; clear HB; have BK119 := n0_; have HB := n1_; clear n0_ n1_; (try clear hb); (try clear hb2); (try clear hk); (try clear hi)))
    go_meet
    case rel => exact ⟨_, (true), lF, H', ⟨lN⟩, ⟨lK BK119.out⟩, ⟨lB⟩⟩
  ·replace c7 := Bool.eq_false_iff.mpr c7
   subst c7
   rw [if_neg (show ¬ (false = true) by decide)] at H
   have H' := Aside0.mk H
   clear H
   obtain ⟨hcz21_0, hfz21_0, hcz21_1, hfz21_1⟩ := bk2 BK119.out
   go_wp2_with (first | ((with_reducible refine gate_callee (f := 14) rfl ?_); refine gl_ (some 9) (Try.func14) #[.agg #[.slice A0_0 l0_0.length c0_0, .int .i64 a0_1]] ?_; (with_reducible refine (spec_GoodWorld.calls k _ _ l0_0 a0_1 false _ ?side1 ?side2 A6.out).mono ?_); (case side1 => exact lC (Kd.C_below HR0_0.out HB.out)); (case side2 => exact HC0_0.out); rintro e w22 ⟨rfl, hb⟩; refine ⟨_, rfl, ?_⟩; have n0_ := Aside0.mk (blk_below (lK BK119.out) hb); have n1_ := Aside0.mk (below_step lB hb); clear BK119; clear HB; have BK119 := n0_; have HB := n1_; clear n0_ n1_; (try clear hb); (try clear hb2); (try clear hk); (try clear hi)))
   go_meet
   case rel => exact ⟨_, (true), lF, H', ⟨lN⟩, ⟨lK BK119.out⟩, ⟨lB⟩⟩
 case rest =>
  clear HC4
  try clear c1
  try clear p2
  try clear c7
  try clear c9
  try clear c14
  try clear c18
  try clear hcz11_0 hcz11_1
  try clear hcz13_0 hcz13_1
  try clear hcz15_0 hcz15_1
  try clear hcz17_0 hcz17_1
  try clear hcz19_0 hcz19_1
  try clear hcz21_0 hcz21_1
  try clear hfz11_0 hfz11_1
  try clear hfz13_0 hfz13_1
  try clear hfz15_0 hfz15_1
  try clear hfz17_0 hfz17_1
  try clear hfz19_0 hfz19_1
  try clear hfz21_0 hfz21_1
  obtain ⟨kq, x22_3, rfl, HA, HJ3, BK119, HB⟩ := hcut
  cases kq with
  | zero => exact absurd HA.out (by simp [spec_SubclassOf.j0])
  | succ kj3 =>
   have H := HA.out
   clear HA
   simp only [spec_SubclassOf.j0] at H
   by_cases c23 : x22_3 = true
   ·subst c23
    rw [if_pos rfl] at H
    simp only [Option.some.injEq, Prod.mk.injEq] at H
    obtain ⟨rfl, rfl⟩ := H
    go_wp2
    go_ret2
    exact ⟨lE, lB⟩
   ·replace c23 := Bool.eq_false_iff.mpr c23
    subst c23
    rw [if_neg (show ¬ (false = true) by decide)] at H
    have H' := Aside0.mk H
    clear H
    go_wp2
    go_loopg [1] kj3 (fun kq v1 w' => ∃ (x1_2 : Int), v1 = .int .i64 x1_2 ∧ Aside0 (spec_SubclassOf.l0 kq x1_2 a2 l0_0 a0_1 = some (r1, r2)) ∧ Aside0 (kq ≤ kj3) ∧ Aside0 (w'.heap[gb119]? = some (.cells #[(.slice A0_0 l0_0.length c0_0), .int .i64 a0_1] 29 (0, 0))) ∧ Aside0 (Below w.heap.size w w'))
    case atStart => exact ⟨(a1), lF, H', ⟨Nat.le_refl _⟩, ⟨lK BK119.out⟩, ⟨lB⟩⟩
    case round =>
     clear H'
     try clear c1
     try clear c2
     try clear p2
     try clear c7
     try clear c9
     try clear c14
     try clear c18
     try clear c23
     try clear hcz11_0 hcz11_1
     try clear hcz13_0 hcz13_1
     try clear hcz15_0 hcz15_1
     try clear hcz17_0 hcz17_1
     try clear hcz19_0 hcz19_1
     try clear hcz21_0 hcz21_1
     try clear hfz11_0 hfz11_1
     try clear hfz13_0 hfz13_1
     try clear hfz15_0 hfz15_1
     try clear hfz17_0 hfz17_1
     try clear hfz19_0 hfz19_1
     try clear hfz21_0 hfz21_1
     try clear p2
     obtain ⟨x1_2, rfl, HA, HK2, BK119, HB⟩ := hrel
     cases gk with
     | zero => exact absurd HA.out (by simp [spec_SubclassOf.l0])
     | succ k2 =>
      have H := HA.out
      clear HA
      simp only [spec_SubclassOf.l0] at H
      by_cases c24 : x1_2 > a2
      ·rw [if_pos c24] at H
       have c24b0 : decide (a2 < x1_2) = true := decide_eq_true c24
       clear c24
       by_cases c25 : 0 ≤ x1_2
       ·rw [if_pos c25] at H
        have c25b0 : decide (0 ≤ x1_2) = true := decide_eq_true c25
        clear c25
        by_cases c26 : x1_2 < (l0_0.length : Int)
        ·rw [if_pos c26] at H
         have c26b0 : decide (x1_2 < (l0_0.length : Int)) = true := decide_eq_true c26
         clear c26
         have H' := Aside0.mk H
         clear H
         obtain ⟨hcz27_0, hfz27_0, hcz27_1, hfz27_1⟩ := bk2 BK119.out
         have p123 : 0 ≤ (x1_2 : Int) := lD
         have q123 : x1_2 < (l0_0.length : Int) := lD
         obtain ⟨ad123, A123_1, c123_1, e123, hx123_0, hx123_1, hl123_1, hi123_1⟩ := at_T82 HR0_0.out x1_2 p123 q123
         cases e123
         replace hx123_0 := pw_cell_below HB.out hx123_0
         replace hx123_1 := pw_cell_below HB.out hx123_1
         have HR123_1 := Aside0.mk hi123_1
         have HC123_1 := Aside0.mk hl123_1
         clear hi123_1 hl123_1
         replace p123 := eq_true p123
         replace q123 := eq_true q123
         go_wp2
         go_roundg k2
         case measure => have := HJ3.out; have := HK2.out; omega
         case rel => exact ⟨((rd_T82 l0_0 x1_2).f0), lF, H', ⟨by have := HJ3.out; have := HK2.out; omega⟩, ⟨lK BK119.out⟩, ⟨lB⟩⟩
        ·rw [if_neg c26] at H
         exact absurd H (by simp)
       ·rw [if_neg c25] at H
        exact absurd H (by simp)
      ·rw [if_neg c24] at H
       have c24b0 : decide (a2 < x1_2) = false := decide_eq_false c24
       clear c24
       simp only [Option.some.injEq, Prod.mk.injEq] at H
       obtain ⟨rfl, rfl⟩ := H
       go_wp2
       go_ret2
       exact ⟨lE, lB⟩

/-! ### impl_SubclassOf: function 19 -/
mutual
def impl_SubclassOf.j0 : Nat → Int → Int → Bool → List (S82) → Int → Option (Bool × Bool)
 | 0, _, _, _, _, _ => none
 | k + 1, x1, x2, x28, x125000, x125001 => if x28 = true then (some (false, false)) else (impl_SubclassOf.l0 k x1 x2 x125000 x125001)
def impl_SubclassOf.l0 : Nat → Int → Int → List (S82) → Int → Option (Bool × Bool)
 | 0, _, _, _, _ => none
 | k + 1, x1, x2, x125000, x125001 => if x1 > x2 then (if 0 ≤ x1 then (if x1 < (x125000.length : Int) then (impl_SubclassOf.l0 k ((rd_T82 x125000 x1).f0) x2 x125000 x125001) else (none)) else (none)) else (some ((x1 == x2), true))
end
def impl_SubclassOf.f (k : Nat) (l0_0 : List (S82)) (a0_1 : Int) (a1 : Int) (a2 : Int) : Option (Bool × Bool) := (impl_isWorld.f k l0_0 a0_1).bind fun t125 => (if t125 = true then ((impl_in.f a1 0 (wrap64 ((l0_0.length : Int) - 1))).bind fun t126 => (if t126 = true then ((impl_in.f a2 0 (wrap64 ((l0_0.length : Int) - 1))).bind fun t127 => (impl_SubclassOf.j0 k a1 a2 (!t127) l0_0 a0_1)) else (impl_SubclassOf.j0 k a1 a2 true l0_0 a0_1))) else (impl_SubclassOf.j0 k a1 a2 true l0_0 a0_1))
theorem impl_SubclassOf.mono_l : ∀ k, (∀ y0 y1 y2 y3 y4, LeO (impl_SubclassOf.j0 k y0 y1 y2 y3 y4) (impl_SubclassOf.j0 (k + 1) y0 y1 y2 y3 y4)) ∧ (∀ y0 y1 y2 y3, LeO (impl_SubclassOf.l0 k y0 y1 y2 y3) (impl_SubclassOf.l0 (k + 1) y0 y1 y2 y3))
 | 0 => ⟨fun _ _ _ _ _ r h => by simp [impl_SubclassOf.j0] at h, fun _ _ _ _ r h => by simp [impl_SubclassOf.l0] at h⟩
 | k + 1 => by
  obtain ⟨ih0, ih1⟩ := impl_SubclassOf.mono_l k
  refine ⟨?_, ?_⟩
  ·intro y0 y1 y2 y3 y4
   unfold impl_SubclassOf.j0
   repeat' first
   | with_reducible apply ih0
   | with_reducible apply ih1
   | with_reducible apply impl_isWorld.mono
   | (with_reducible exact LeO.refl _)
   | (with_reducible exact LeO.none _)
   | (with_reducible refine LeO.ite ?_ ?_)
   | (with_reducible refine LeO.bind ?_ (fun _ => ?_))
   | apply ih0
   | apply ih1
   | apply impl_isWorld.mono
   | exact LeO.none _
   | refine LeO.ite ?_ ?_
   | refine LeO.bind ?_ (fun _ => ?_)
  ·intro y0 y1 y2 y3
   unfold impl_SubclassOf.l0
   repeat' first
   | with_reducible apply ih0
   | with_reducible apply ih1
   | with_reducible apply impl_isWorld.mono
   | (with_reducible exact LeO.refl _)
   | (with_reducible exact LeO.none _)
   | (with_reducible refine LeO.ite ?_ ?_)
   | (with_reducible refine LeO.bind ?_ (fun _ => ?_))
   | apply ih0
   | apply ih1
   | apply impl_isWorld.mono
   | exact LeO.none _
   | refine LeO.ite ?_ ?_
   | refine LeO.bind ?_ (fun _ => ?_)
theorem impl_SubclassOf.mono : ∀ a0 a1 a2 a3 k, LeO (impl_SubclassOf.f k a0 a1 a2 a3) (impl_SubclassOf.f (k + 1) a0 a1 a2 a3) := by
 intro a0 a1 a2 a3 k
 obtain ⟨ih0, ih1⟩ := impl_SubclassOf.mono_l k
 unfold impl_SubclassOf.f
 repeat' first
   | with_reducible apply ih0
   | with_reducible apply ih1
   | with_reducible apply impl_isWorld.mono
   | (with_reducible exact LeO.refl _)
   | (with_reducible exact LeO.none _)
   | (with_reducible refine LeO.ite ?_ ?_)
   | (with_reducible refine LeO.bind ?_ (fun _ => ?_))
   | apply ih0
   | apply ih1
   | apply impl_isWorld.mono
   | exact LeO.none _
   | refine LeO.ite ?_ ?_
   | refine LeO.bind ?_ (fun _ => ?_)
set_option maxHeartbeats 8000000 in
set_option maxRecDepth 100000 in
theorem impl_SubclassOf.calls (k : Nat) (A0_0 : Option Addr) (c0_0 : Nat) (l0_0 : List (S82)) (a0_1 : Int) (a1 : Int) (a2 : Int) (r1 : Bool) (r2 : Bool) (w : World) (hr0_0 : Kd.C k82 w A0_0 l0_0.length l0_0) (hc0_0 : l0_0.length ≤ c0_0) (h : impl_SubclassOf.f k l0_0 a0_1 a1 a2 = some (r1, r2)) :
  Calls Try.prog 19 #[.agg #[.slice A0_0 l0_0.length c0_0, .int .i64 a0_1], .int .i64 a1, .int .i64 a2] w fun e w' => e = .returned (.tuple #[.bool r1, .bool r2]) ∧ Below w.heap.size w w' := by
 have hu29 := Try.underlying29
 have HR0_0 := Aside0.mk hr0_0
 have HC0_0 := Aside0.mk hc0_0
 clear hr0_0 hc0_0
 have HB := Aside0.mk (Below.refl w.heap.size w)
 have H : ((impl_isWorld.f k l0_0 a0_1).bind fun t125 => (if t125 = true then ((impl_in.f a1 0 (wrap64 ((l0_0.length : Int) - 1))).bind fun t126 => (if t126 = true then ((impl_in.f a2 0 (wrap64 ((l0_0.length : Int) - 1))).bind fun t127 => (impl_SubclassOf.j0 k a1 a2 (!t127) l0_0 a0_1)) else (impl_SubclassOf.j0 k a1 a2 true l0_0 a0_1))) else (impl_SubclassOf.j0 k a1 a2 true l0_0 a0_1))) = some (r1, r2) := h
 clear h
 have HC4 := Aside0.mk H
 clear H
 go_enter Try.func19, Try.ntmps19
 go_upto_region 1 with (first | ((with_reducible refine gate_dst (N := 3) rfl ?_); (try (refine gate_guard (by rfl) ?_; dsimp only)); refine bxe 3 #[.slice A0_0 l0_0.length c0_0, .int .i64 a0_1] 29 ?_; intro gb124 hg w5 hbox hb; have n0_ := Aside0.mk (below_step lB hb); have n1_ := Aside0.mk (hbox); have n2_ := lG w hg; have n3_ := lG w hg; clear HB; have HB := n0_; have BK124 := n1_; have GW124 := n2_; have GE124 := n3_; clear n0_ n1_ n2_ n3_; clear hb hbox hg))
 (try simp only [Act.put, List.setIfInBounds_toArray, List.set_cons_zero, List.set_cons_succ])
 go_cut [28] (fun v28 wc => ∃ (kq : Nat) (x28_3 : Bool), v28 = .bool x28_3 ∧ Aside0 (impl_SubclassOf.j0 kq a1 a2 x28_3 l0_0 a0_1 = some (r1, r2)) ∧ Aside0 (kq ≤ k) ∧ Aside0 (wc.heap[gb124]? = some (.cells #[(.slice A0_0 l0_0.length c0_0), .int .i64 a0_1] 29 (0, 0))) ∧ Aside0 (Below w.heap.size w wc))
 case first =>
  have H := HC4.out
  clear HC4
  replace H := lO H
  obtain ⟨t125, A6, H⟩ := H
  by_cases c7 : t125 = true
  ·subst c7
   rw [if_pos rfl] at H
   replace H := lO H
   obtain ⟨t126, A8, H⟩ := H
   by_cases c9 : t126 = true
   ·subst c9
    rw [if_pos rfl] at H
    replace H := lO H
    obtain ⟨t127, A10, H⟩ := H
    have H' := Aside0.mk H
    clear H
    obtain ⟨hcz11_0, hfz11_0, hcz11_1, hfz11_1⟩ := bk2 BK124.out
    go_wp2_with (first | ((with_reducible refine gate_callee (f := 56) rfl ?_); refine gl_ (some 9) (Try.func56) #[.agg #[.slice A0_0 l0_0.length c0_0, .int .i64 a0_1]] ?_; (with_reducible refine (impl_isWorld.calls k _ _ l0_0 a0_1 true _ ?side1 ?side2 A6.out).mono ?_); (case side1 => exact lC (Kd.C_below HR0_0.out HB.out)); (case side2 => exact HC0_0.out); rintro e w12 ⟨rfl, hb⟩; refine ⟨_, rfl, ?_⟩; have n0_ := Aside0.mk (blk_below (lK BK124.out) hb); have n1_ := Aside0.mk (below_step lB hb); clear BK124; clear HB; have BK124 := n0_; have HB := n1_; clear n0_ n1_; (try clear hb); (try clear hb2); (try clear hk); (try clear hi); obtain ⟨hcz13_0, hfz13_0, hcz13_1, hfz13_1⟩ := bk2 BK124.out) | (go_at_call 59; (with_reducible refine (impl_in.calls a1 0 (wrap64 ((l0_0.length : Int) - 1)) true _ A8.out).mono ?_); rintro e w' ⟨rfl, ⟨nd, rfl⟩⟩) | (go_at_call 59; (with_reducible refine (impl_in.calls a2 0 (wrap64 ((l0_0.length : Int) - 1)) t127 _ A10.out).mono ?_); rintro e w' ⟨rfl, ⟨nd, rfl⟩⟩))
    go_meet
    case rel => exact ⟨_, (!t127), lF, H', ⟨lN⟩, ⟨lK BK124.out⟩, ⟨lB⟩⟩
   ·replace c9 := Bool.eq_false_iff.mpr c9
    subst c9
    rw [if_neg (show ¬ (false = true) by decide)] at H
    have H' := Aside0.mk H
    clear H
    obtain ⟨hcz14_0, hfz14_0, hcz14_1, hfz14_1⟩ := bk2 BK124.out
    go_wp2_with (first | ((with_reducible refine gate_callee (f := 56) rfl ?_); refine gl_ (some 9) (Try.func56) #[.agg #[.slice A0_0 l0_0.length c0_0, .int .i64 a0_1]] ?_; (with_reducible refine (impl_isWorld.calls k _ _ l0_0 a0_1 true _ ?side1 ?side2 A6.out).mono ?_); (case side1 => exact lC (Kd.C_below HR0_0.out HB.out)); (case side2 => exact HC0_0.out); rintro e w15 ⟨rfl, hb⟩; refine ⟨_, rfl, ?_⟩; have n0_ := Aside0.mk (blk_below (lK BK124.out) hb); have n1_ := Aside0.mk (below_step lB hb); clear BK124; clear HB; have BK124 := n0_; have HB := n1_; clear n0_ n1_; (try clear hb); (try clear hb2); (try clear hk); (try clear hi); obtain ⟨hcz16_0, hfz16_0, hcz16_1, hfz16_1⟩ := bk2 BK124.out) | (go_at_call 59; (with_reducible refine (impl_in.calls a1 0 (wrap64 ((l0_0.length : Int) - 1)) false _ A8.out).mono ?_); rintro e w' ⟨rfl, ⟨nd, rfl⟩⟩))
    go_meet
    case rel => exact ⟨_, (true), lF, H', ⟨lN⟩, ⟨lK BK124.out⟩, ⟨lB⟩⟩
  ·replace c7 := Bool.eq_false_iff.mpr c7
   subst c7
   rw [if_neg (show ¬ (false = true) by decide)] at H
   have H' := Aside0.mk H
   clear H
   obtain ⟨hcz17_0, hfz17_0, hcz17_1, hfz17_1⟩ := bk2 BK124.out
   go_wp2_with (first | ((with_reducible refine gate_callee (f := 56) rfl ?_); refine gl_ (some 9) (Try.func56) #[.agg #[.slice A0_0 l0_0.length c0_0, .int .i64 a0_1]] ?_; (with_reducible refine (impl_isWorld.calls k _ _ l0_0 a0_1 false _ ?side1 ?side2 A6.out).mono ?_); (case side1 => exact lC (Kd.C_below HR0_0.out HB.out)); (case side2 => exact HC0_0.out); rintro e w18 ⟨rfl, hb⟩; refine ⟨_, rfl, ?_⟩; have n0_ := Aside0.mk (blk_below (lK BK124.out) hb); have n1_ := Aside0.mk (below_step lB hb); clear BK124; clear HB; have BK124 := n0_; have HB := n1_; clear n0_ n1_; (try clear hb); (try clear hb2); (try clear hk); (try clear hi)))
   go_meet
   case rel => exact ⟨_, (true), lF, H', ⟨lN⟩, ⟨lK BK124.out⟩, ⟨lB⟩⟩
 case rest =>
  clear HC4
  try clear c1
  try clear p2
  try clear c5
  try clear p6
  try clear c7
  try clear c9
  try clear hcz11_0 hcz11_1
  try clear hcz13_0 hcz13_1
  try clear hcz14_0 hcz14_1
  try clear hcz16_0 hcz16_1
  try clear hcz17_0 hcz17_1
  try clear hfz11_0 hfz11_1
  try clear hfz13_0 hfz13_1
  try clear hfz14_0 hfz14_1
  try clear hfz16_0 hfz16_1
  try clear hfz17_0 hfz17_1
  obtain ⟨kq, x28_3, rfl, HA, HJ3, BK124, HB⟩ := hcut
  cases kq with
  | zero => exact absurd HA.out (by simp [impl_SubclassOf.j0])
  | succ kj3 =>
   have H := HA.out
   clear HA
   simp only [impl_SubclassOf.j0] at H
   by_cases c19 : x28_3 = true
   ·subst c19
    rw [if_pos rfl] at H
    simp only [Option.some.injEq, Prod.mk.injEq] at H
    obtain ⟨rfl, rfl⟩ := H
    go_wp2
    go_ret2
    exact ⟨lE, lB⟩
   ·replace c19 := Bool.eq_false_iff.mpr c19
    subst c19
    rw [if_neg (show ¬ (false = true) by decide)] at H
    have H' := Aside0.mk H
    clear H
    go_wp2
    go_loopg [1] kj3 (fun kq v1 w' => ∃ (x1_2 : Int), v1 = .int .i64 x1_2 ∧ Aside0 (impl_SubclassOf.l0 kq x1_2 a2 l0_0 a0_1 = some (r1, r2)) ∧ Aside0 (kq ≤ kj3) ∧ Aside0 (w'.heap[gb124]? = some (.cells #[(.slice A0_0 l0_0.length c0_0), .int .i64 a0_1] 29 (0, 0))) ∧ Aside0 (Below w.heap.size w w'))
    case atStart => exact ⟨(a1), lF, H', ⟨Nat.le_refl _⟩, ⟨lK BK124.out⟩, ⟨lB⟩⟩
    case round =>
     clear H'
     try clear c1
     try clear p2
     try clear c5
     try clear p6
     try clear c7
     try clear c9
     try clear c19
     try clear hcz11_0 hcz11_1
     try clear hcz13_0 hcz13_1
     try clear hcz14_0 hcz14_1
     try clear hcz16_0 hcz16_1
     try clear hcz17_0 hcz17_1
     try clear hfz11_0 hfz11_1
     try clear hfz13_0 hfz13_1
     try clear hfz14_0 hfz14_1
     try clear hfz16_0 hfz16_1
     try clear hfz17_0 hfz17_1
     try clear p2
     try clear p6
     obtain ⟨x1_2, rfl, HA, HK2, BK124, HB⟩ := hrel
     cases gk with
     | zero => exact absurd HA.out (by simp [impl_SubclassOf.l0])
     | succ k2 =>
      have H := HA.out
      clear HA
      simp only [impl_SubclassOf.l0] at H
      by_cases c20 : x1_2 > a2
      ·rw [if_pos c20] at H
       have c20b0 : decide (a2 < x1_2) = true := decide_eq_true c20
       clear c20
       by_cases c21 : 0 ≤ x1_2
       ·rw [if_pos c21] at H
        have c21b0 : decide (0 ≤ x1_2) = true := decide_eq_true c21
        clear c21
        by_cases c22 : x1_2 < (l0_0.length : Int)
        ·rw [if_pos c22] at H
         have c22b0 : decide (x1_2 < (l0_0.length : Int)) = true := decide_eq_true c22
         clear c22
         have H' := Aside0.mk H
         clear H
         obtain ⟨hcz23_0, hfz23_0, hcz23_1, hfz23_1⟩ := bk2 BK124.out
         have p128 : 0 ≤ (x1_2 : Int) := lD
         have q128 : x1_2 < (l0_0.length : Int) := lD
         obtain ⟨ad128, A128_1, c128_1, e128, hx128_0, hx128_1, hl128_1, hi128_1⟩ := at_T82 HR0_0.out x1_2 p128 q128
         cases e128
         replace hx128_0 := pw_cell_below HB.out hx128_0
         replace hx128_1 := pw_cell_below HB.out hx128_1
         have HR128_1 := Aside0.mk hi128_1
         have HC128_1 := Aside0.mk hl128_1
         clear hi128_1 hl128_1
         replace p128 := eq_true p128
         replace q128 := eq_true q128
         go_wp2
         go_roundg k2
         case measure => have := HJ3.out; have := HK2.out; omega
         case rel => exact ⟨((rd_T82 l0_0 x1_2).f0), lF, H', ⟨by have := HJ3.out; have := HK2.out; omega⟩, ⟨lK BK124.out⟩, ⟨lB⟩⟩
        ·rw [if_neg c22] at H
         exact absurd H (by simp)
       ·rw [if_neg c21] at H
        exact absurd H (by simp)
      ·rw [if_neg c20] at H
       have c20b0 : decide (a2 < x1_2) = false := decide_eq_false c20
       clear c20
       simp only [Option.some.injEq, Prod.mk.injEq] at H
       obtain ⟨rfl, rfl⟩ := H
       go_wp2
       go_ret2
       exact ⟨lE, lB⟩

/-! ### spec_l12Name: function 60 -/
def spec_l12Name.f (a0 : Int) : Option (Bool) := (spec_l1In.f a0 0 4).bind fun t129 => (some t129)
set_option maxHeartbeats 8000000 in
set_option maxRecDepth 100000 in
theorem spec_l12Name.calls (a0 : Int) (r : Bool) (w : World) (h : spec_l12Name.f a0 = some r) :
  Calls Try.prog 60 #[.int .i64 a0] w fun e w' => e = .returned (.bool r) ∧ Drawn0 w w' := by
 have H : ((spec_l1In.f a0 0 4).bind fun t129 => (some t129)) = some r := h
 clear h
 replace H := lO H
 obtain ⟨t129, A2, H⟩ := H
 obtain rfl := Option.some.inj H
 go_enter Try.func60, Try.ntmps60
 go_wp2_with (first | ((with_reducible refine gate_callee (f := 54) rfl ?_); refine gl_ (some 4) (Try.func54) #[.int .i64 a0, .int .i64 0, .int .i64 4] ?_; (with_reducible refine (spec_l1In.calls a0 0 4 t129 _ A2.out).mono ?_); rintro e w' ⟨rfl, ⟨nd, rfl⟩⟩; refine ⟨_, rfl, ?_⟩))
 go_ret
 exact ⟨by first | rfl | (simp; done) | (simp [*]; done), by repeat (first | exact Drawn0.refl _ | apply Drawn0.step)⟩

/-! ### spec_l12Find: function 61 -/
def spec_l12Find.l0 : Nat → Int → Int → List (S82) → Int → Option (Int)
 | 0, _, _, _, _ => none
 | k + 1, x1, x2, x131000, x131001 => if x1 ≥ 0 then (if 0 ≤ x1 then (if x1 < (x131000.length : Int) then (if 0 ≤ x2 then (if x2 < (((rd_T82 x131000 x1).f1).length : Int) then (if (rd ((rd_T82 x131000 x1).f1) x2) > 0 then (some (rd ((rd_T82 x131000 x1).f1) x2)) else (spec_l12Find.l0 k ((rd_T82 x131000 x1).f0) x2 x131000 x131001)) else (none)) else (none)) else (none)) else (none)) else (some 0)
def spec_l12Find.f (k : Nat) (l0_0 : List (S82)) (a0_1 : Int) (a1 : Int) (a2 : Int) : Option (Int) := spec_l12Find.l0 k a1 a2 l0_0 a0_1
theorem spec_l12Find.mono_l : ∀ k, (∀ y0 y1 y2 y3, LeO (spec_l12Find.l0 k y0 y1 y2 y3) (spec_l12Find.l0 (k + 1) y0 y1 y2 y3))
 | 0 => fun _ _ _ _ r h => by simp [spec_l12Find.l0] at h
 | k + 1 => by
  have ih0 := spec_l12Find.mono_l k
  ·intro y0 y1 y2 y3
   unfold spec_l12Find.l0
   repeat' first
   | with_reducible apply ih0
   | (with_reducible exact LeO.refl _)
   | (with_reducible exact LeO.none _)
   | (with_reducible refine LeO.ite ?_ ?_)
   | (with_reducible refine LeO.bind ?_ (fun _ => ?_))
   | apply ih0
   | exact LeO.none _
   | refine LeO.ite ?_ ?_
   | refine LeO.bind ?_ (fun _ => ?_)
theorem spec_l12Find.mono : ∀ a0 a1 a2 a3 k, LeO (spec_l12Find.f k a0 a1 a2 a3) (spec_l12Find.f (k + 1) a0 a1 a2 a3) := by
 intro a0 a1 a2 a3 k
 have ih0 := spec_l12Find.mono_l k
 unfold spec_l12Find.f
 repeat' first
   | with_reducible apply ih0
   | (with_reducible exact LeO.refl _)
   | (with_reducible exact LeO.none _)
   | (with_reducible refine LeO.ite ?_ ?_)
   | (with_reducible refine LeO.bind ?_ (fun _ => ?_))
   | apply ih0
   | exact LeO.none _
   | refine LeO.ite ?_ ?_
   | refine LeO.bind ?_ (fun _ => ?_)
set_option maxHeartbeats 8000000 in
set_option maxRecDepth 100000 in
theorem spec_l12Find.calls (k : Nat) (A0_0 : Option Addr) (c0_0 : Nat) (l0_0 : List (S82)) (a0_1 : Int) (a1 : Int) (a2 : Int) (r : Int) (w : World) (hr0_0 : Kd.C k82 w A0_0 l0_0.length l0_0) (hc0_0 : l0_0.length ≤ c0_0) (h : spec_l12Find.f k l0_0 a0_1 a1 a2 = some r) :
  Calls Try.prog 61 #[.agg #[.slice A0_0 l0_0.length c0_0, .int .i64 a0_1], .int .i64 a1, .int .i64 a2] w fun e w' => e = .returned (.int .i64 r) ∧ Below w.heap.size w w' := by
 have hu29 := Try.underlying29
 have HR0_0 := Aside0.mk hr0_0
 have HC0_0 := Aside0.mk hc0_0
 clear hr0_0 hc0_0
 have HB := Aside0.mk (Below.refl w.heap.size w)
 have H : (spec_l12Find.l0 k a1 a2 l0_0 a0_1) = some r := h
 clear h
 have H' := Aside0.mk H
 clear H
 go_enter Try.func61, Try.ntmps61
 go_wp2_with (first | ((with_reducible refine gate_dst (N := 3) rfl ?_); refine bxe 3 #[.slice A0_0 l0_0.length c0_0, .int .i64 a0_1] 29 ?_; intro gb130 hg w4 hbox hb; have n0_ := Aside0.mk (below_step lB hb); have n1_ := Aside0.mk (hbox); have n2_ := lG w hg; have n3_ := lG w hg; clear HB; have HB := n0_; have BK130 := n1_; have GW130 := n2_; have GE130 := n3_; clear n0_ n1_ n2_ n3_; clear hb hbox hg))
 go_loopg [1] k (fun kq v1 w' => ∃ (x1_1 : Int), v1 = .int .i64 x1_1 ∧ Aside0 (spec_l12Find.l0 kq x1_1 a2 l0_0 a0_1 = some r) ∧ Aside0 (kq ≤ k) ∧ Aside0 (w'.heap[gb130]? = some (.cells #[(.slice A0_0 l0_0.length c0_0), .int .i64 a0_1] 29 (0, 0))) ∧ Aside0 (Below w.heap.size w w'))
 case atStart => exact ⟨(a1), lF, H', ⟨Nat.le_refl _⟩, ⟨lK BK130.out⟩, ⟨lB⟩⟩
 case round =>
  clear H'
  try clear p2
  obtain ⟨x1_1, rfl, HA, HK1, BK130, HB⟩ := hrel
  cases gk with
  | zero => exact absurd HA.out (by simp [spec_l12Find.l0])
  | succ k1 =>
   have H := HA.out
   clear HA
   simp only [spec_l12Find.l0] at H
   by_cases c5 : x1_1 ≥ 0
   ·rw [if_pos c5] at H
    have c5b0 : decide (0 ≤ x1_1) = true := decide_eq_true c5
    clear c5
    by_cases c6 : 0 ≤ x1_1
    ·rw [if_pos c6] at H
     have c6b0 : decide (0 ≤ x1_1) = true := decide_eq_true c6
     clear c6
     by_cases c7 : x1_1 < (l0_0.length : Int)
     ·rw [if_pos c7] at H
      have c7b0 : decide (x1_1 < (l0_0.length : Int)) = true := decide_eq_true c7
      clear c7
      by_cases c8 : 0 ≤ a2
      ·rw [if_pos c8] at H
       have c8b0 : decide (0 ≤ a2) = true := decide_eq_true c8
       clear c8
       by_cases c9 : a2 < (((rd_T82 l0_0 x1_1).f1).length : Int)
       ·rw [if_pos c9] at H
        have c9b0 : decide (a2 < (((rd_T82 l0_0 x1_1).f1).length : Int)) = true := decide_eq_true c9
        clear c9
        by_cases c10 : (rd ((rd_T82 l0_0 x1_1).f1) a2) > 0
        ·rw [if_pos c10] at H
         have c10b0 : decide (0 < (rd ((rd_T82 l0_0 x1_1).f1) a2)) = true := decide_eq_true c10
         clear c10
         obtain rfl := Option.some.inj H
         obtain ⟨hcz11_0, hfz11_0, hcz11_1, hfz11_1⟩ := bk2 BK130.out
         have p131 : 0 ≤ (x1_1 : Int) := lD
         have q131 : x1_1 < (l0_0.length : Int) := lD
         obtain ⟨ad131, A131_1, c131_1, e131, hx131_0, hx131_1, hl131_1, hi131_1⟩ := at_T82 HR0_0.out x1_1 p131 q131
         cases e131
         replace hx131_0 := pw_cell_below HB.out hx131_0
         replace hx131_1 := pw_cell_below HB.out hx131_1
         have HR131_1 := Aside0.mk hi131_1
         have HC131_1 := Aside0.mk hl131_1
         clear hi131_1 hl131_1
         replace p131 := eq_true p131
         replace q131 := eq_true q131
         have p132 : 0 ≤ (a2 : Int) := lD
         have q132 : a2 < (((rd_T82 l0_0 x1_1).f1).length : Int) := lD
         obtain ⟨ad132, e132, hx132_0⟩ := Kd.at_int HR131_1.out a2 p132 q132
         cases e132
         replace hx132_0 := pw_cell_below HB.out hx132_0
         replace p132 := eq_true p132
         replace q132 := eq_true q132
         first | (go_wp2; go_ret; exact ⟨lE, lB⟩) | (exfalso; simp only [decide_eq_false_iff_not, decide_eq_true_eq] at *; omega)
        ·rw [if_neg c10] at H
         have c10b0 : decide (0 < (rd ((rd_T82 l0_0 x1_1).f1) a2)) = false := decide_eq_false c10
         clear c10
         have H' := Aside0.mk H
         clear H
         obtain ⟨hcz12_0, hfz12_0, hcz12_1, hfz12_1⟩ := bk2 BK130.out
         have p131 : 0 ≤ (x1_1 : Int) := lD
         have q131 : x1_1 < (l0_0.length : Int) := lD
         obtain ⟨ad131, A131_1, c131_1, e131, hx131_0, hx131_1, hl131_1, hi131_1⟩ := at_T82 HR0_0.out x1_1 p131 q131
         cases e131
         replace hx131_0 := pw_cell_below HB.out hx131_0
         replace hx131_1 := pw_cell_below HB.out hx131_1
         have HR131_1 := Aside0.mk hi131_1
         have HC131_1 := Aside0.mk hl131_1
         clear hi131_1 hl131_1
         replace p131 := eq_true p131
         replace q131 := eq_true q131
         have p132 : 0 ≤ (a2 : Int) := lD
         have q132 : a2 < (((rd_T82 l0_0 x1_1).f1).length : Int) := lD
         obtain ⟨ad132, e132, hx132_0⟩ := Kd.at_int HR131_1.out a2 p132 q132
         cases e132
         replace hx132_0 := pw_cell_below HB.out hx132_0
         replace p132 := eq_true p132
         replace q132 := eq_true q132
         have p133 : 0 ≤ (x1_1 : Int) := lD
         have q133 : x1_1 < (l0_0.length : Int) := lD
         obtain ⟨ad133, A133_1, c133_1, e133, hx133_0, hx133_1, hl133_1, hi133_1⟩ := at_T82 HR0_0.out x1_1 p133 q133
         obtain rfl : ad131 = ad133 := (by injection e133)
         replace hx133_0 := pw_cell_below HB.out hx133_0
         replace hx133_1 := pw_cell_below HB.out hx133_1
         have HR133_1 := Aside0.mk hi133_1
         have HC133_1 := Aside0.mk hl133_1
         clear hi133_1 hl133_1
         replace p133 := eq_true p133
         replace q133 := eq_true q133
         have ea_ := Option.some.inj (hx131_1.symm.trans hx133_1)
         injection ea_ with ea_ en_ ec_
         subst ea_
         subst ec_
         clear en_
         go_wp2
         go_roundg k1
         case measure => have := HK1.out; omega
         case rel => exact ⟨((rd_T82 l0_0 x1_1).f0), lF, H', ⟨by have := HK1.out; omega⟩, ⟨lK BK130.out⟩, ⟨lB⟩⟩
       ·rw [if_neg c9] at H
        exact absurd H (by simp)
      ·rw [if_neg c8] at H
       exact absurd H (by simp)
     ·rw [if_neg c7] at H
      exact absurd H (by simp)
    ·rw [if_neg c6] at H
     exact absurd H (by simp)
   ·rw [if_neg c5] at H
    have c5b0 : decide (0 ≤ x1_1) = false := decide_eq_false c5
    clear c5
    obtain rfl := Option.some.inj H
    first | (go_wp2; go_ret; exact ⟨lE, lB⟩) | (exfalso; simp only [decide_eq_false_iff_not, decide_eq_true_eq] at *; omega)

/-! ### spec_FindMethod: function 20 -/
def spec_FindMethod.f (k : Nat) (l0_0 : List (S82)) (a0_1 : Int) (a1 : Int) (a2 : Int) : Option (Int × Bool) := (spec_GoodWorld.f k l0_0 a0_1).bind fun t135 => (if t135 = true then ((spec_l12Class.f l0_0 a0_1 a1).bind fun t136 => (if t136 = true then ((spec_l12Name.f a2).bind fun t137 => (if t137 = true then ((spec_l12Find.f k l0_0 a0_1 a1 a2).bind fun t138 => (some (t138, decide (t138 > 0)))) else (some (0, false)))) else (some (0, false)))) else (some (0, false)))
theorem spec_FindMethod.mono : ∀ a0 a1 a2 a3 k, LeO (spec_FindMethod.f k a0 a1 a2 a3) (spec_FindMethod.f (k + 1) a0 a1 a2 a3) := by
 intro a0 a1 a2 a3 k
 unfold spec_FindMethod.f
 repeat' first
   | with_reducible apply spec_GoodWorld.mono
   | with_reducible apply spec_l12Find.mono
   | (with_reducible exact LeO.refl _)
   | (with_reducible exact LeO.none _)
   | (with_reducible refine LeO.ite ?_ ?_)
   | (with_reducible refine LeO.bind ?_ (fun _ => ?_))
   | apply spec_GoodWorld.mono
   | apply spec_l12Find.mono
   | exact LeO.none _
   | refine LeO.ite ?_ ?_
   | refine LeO.bind ?_ (fun _ => ?_)
set_option maxHeartbeats 8000000 in
set_option maxRecDepth 100000 in
theorem spec_FindMethod.calls (k : Nat) (A0_0 : Option Addr) (c0_0 : Nat) (l0_0 : List (S82)) (a0_1 : Int) (a1 : Int) (a2 : Int) (r1 : Int) (r2 : Bool) (w : World) (hr0_0 : Kd.C k82 w A0_0 l0_0.length l0_0) (hc0_0 : l0_0.length ≤ c0_0) (h : spec_FindMethod.f k l0_0 a0_1 a1 a2 = some (r1, r2)) :
  Calls Try.prog 20 #[.agg #[.slice A0_0 l0_0.length c0_0, .int .i64 a0_1], .int .i64 a1, .int .i64 a2] w fun e w' => e = .returned (.tuple #[.int .i64 r1, .bool r2]) ∧ Below w.heap.size w w' := by
 have hu29 := Try.underlying29
 have HR0_0 := Aside0.mk hr0_0
 have HC0_0 := Aside0.mk hc0_0
 clear hr0_0 hc0_0
 have HB := Aside0.mk (Below.refl w.heap.size w)
 have H : ((spec_GoodWorld.f k l0_0 a0_1).bind fun t135 => (if t135 = true then ((spec_l12Class.f l0_0 a0_1 a1).bind fun t136 => (if t136 = true then ((spec_l12Name.f a2).bind fun t137 => (if t137 = true then ((spec_l12Find.f k l0_0 a0_1 a1 a2).bind fun t138 => (some (t138, decide (t138 > 0)))) else (some (0, false)))) else (some (0, false)))) else (some (0, false)))) = some (r1, r2) := h
 clear h
 replace H := lO H
 obtain ⟨t135, A4, H⟩ := H
 by_cases c5 : t135 = true
 ·subst c5
  rw [if_pos rfl] at H
  replace H := lO H
  obtain ⟨t136, A6, H⟩ := H
  by_cases c7 : t136 = true
  ·subst c7
   rw [if_pos rfl] at H
   replace H := lO H
   obtain ⟨t137, A8, H⟩ := H
   by_cases c9 : t137 = true
   ·subst c9
    rw [if_pos rfl] at H
    replace H := lO H
    obtain ⟨t138, A10, H⟩ := H
    simp only [Option.some.injEq, Prod.mk.injEq] at H
    obtain ⟨rfl, rfl⟩ := H
    go_enter Try.func20, Try.ntmps20
    go_wp2_with (first | ((with_reducible refine gate_dst (N := 3) rfl ?_); refine bxe 3 #[.slice A0_0 l0_0.length c0_0, .int .i64 a0_1] 29 ?_; intro gb134 hg w11 hbox hb; have n0_ := Aside0.mk (below_step lB hb); have n1_ := Aside0.mk (hbox); have n2_ := lG w hg; have n3_ := lG w hg; clear HB; have HB := n0_; have BK134 := n1_; have GW134 := n2_; have GE134 := n3_; clear n0_ n1_ n2_ n3_; clear hb hbox hg; obtain ⟨hcz12_0, hfz12_0, hcz12_1, hfz12_1⟩ := bk2 BK134.out) | ((with_reducible refine gate_callee (f := 14) rfl ?_); refine gl_ (some 10) (Try.func14) #[.agg #[.slice A0_0 l0_0.length c0_0, .int .i64 a0_1]] ?_; (with_reducible refine (spec_GoodWorld.calls k _ _ l0_0 a0_1 true _ ?side1 ?side2 A4.out).mono ?_); (case side1 => exact lC (Kd.C_below HR0_0.out HB.out)); (case side2 => exact HC0_0.out); rintro e w13 ⟨rfl, hb⟩; refine ⟨_, rfl, ?_⟩; have n0_ := Aside0.mk (blk_below (lK BK134.out) hb); have n1_ := Aside0.mk (below_step lB hb); clear BK134; clear HB; have BK134 := n0_; have HB := n1_; clear n0_ n1_; (try clear hb); (try clear hb2); (try clear hk); (try clear hi); obtain ⟨hcz14_0, hfz14_0, hcz14_1, hfz14_1⟩ := bk2 BK134.out) | (go_at_call 58; (with_reducible refine (spec_l12Class.calls _ _ l0_0 a0_1 a1 true _ ?side1 ?side2 A6.out).mono ?_); (case side1 => exact lC (Kd.C_below HR0_0.out HB.out)); (case side2 => exact HC0_0.out); rintro e w15 ⟨rfl, hb⟩; have n0_ := Aside0.mk (blk_below (lK BK134.out) hb); have n1_ := Aside0.mk (below_step lB hb); clear BK134; clear HB; have BK134 := n0_; have HB := n1_; clear n0_ n1_; (try clear hb); (try clear hb2); (try clear hk); (try clear hi)) | (go_at_call 60; (with_reducible refine (spec_l12Name.calls a2 true _ A8.out).mono ?_); rintro e w' ⟨rfl, ⟨nd, rfl⟩⟩; obtain ⟨hcz16_0, hfz16_0, hcz16_1, hfz16_1⟩ := bk2 BK134.out) | ((with_reducible refine gate_callee (f := 61) rfl ?_); refine gl_ (some 26) (Try.func61) #[.agg #[.slice A0_0 l0_0.length c0_0, .int .i64 a0_1], .int .i64 a1, .int .i64 a2] ?_; (with_reducible refine (spec_l12Find.calls k _ _ l0_0 a0_1 a1 a2 t138 _ ?side1 ?side2 A10.out).mono ?_); (case side1 => repeat (first | exact (Kd.C_below HR0_0.out lB) | (with_reducible refine Kd.C_alloc ?_ _) | (with_reducible refine Kd.C_drewN ?_ _) | (with_reducible refine Kd.C_drew ?_))); (case side2 => exact HC0_0.out); rintro e w17 ⟨rfl, hb⟩; refine ⟨_, rfl, ?_⟩; have n0_ := Aside0.mk (blk_below (lK BK134.out) hb); have n1_ := Aside0.mk (below_step lB hb); clear BK134; clear HB; have BK134 := n0_; have HB := n1_; clear n0_ n1_; (try clear hb); (try clear hb2); (try clear hk); (try clear hi)))
    go_ret2
    exact ⟨lE, lB⟩
   ·replace c9 := Bool.eq_false_iff.mpr c9
    subst c9
    rw [if_neg (show ¬ (false = true) by decide)] at H
    simp only [Option.some.injEq, Prod.mk.injEq] at H
    obtain ⟨rfl, rfl⟩ := H
    go_enter Try.func20, Try.ntmps20
    go_wp2_with (first | ((with_reducible refine gate_dst (N := 3) rfl ?_); refine bxe 3 #[.slice A0_0 l0_0.length c0_0, .int .i64 a0_1] 29 ?_; intro gb134 hg w18 hbox hb; have n0_ := Aside0.mk (below_step lB hb); have n1_ := Aside0.mk (hbox); have n2_ := lG w hg; have n3_ := lG w hg; clear HB; have HB := n0_; have BK134 := n1_; have GW134 := n2_; have GE134 := n3_; clear n0_ n1_ n2_ n3_; clear hb hbox hg; obtain ⟨hcz19_0, hfz19_0, hcz19_1, hfz19_1⟩ := bk2 BK134.out) | ((with_reducible refine gate_callee (f := 14) rfl ?_); refine gl_ (some 10) (Try.func14) #[.agg #[.slice A0_0 l0_0.length c0_0, .int .i64 a0_1]] ?_; (with_reducible refine (spec_GoodWorld.calls k _ _ l0_0 a0_1 true _ ?side1 ?side2 A4.out).mono ?_); (case side1 => exact lC (Kd.C_below HR0_0.out HB.out)); (case side2 => exact HC0_0.out); rintro e w20 ⟨rfl, hb⟩; refine ⟨_, rfl, ?_⟩; have n0_ := Aside0.mk (blk_below (lK BK134.out) hb); have n1_ := Aside0.mk (below_step lB hb); clear BK134; clear HB; have BK134 := n0_; have HB := n1_; clear n0_ n1_; (try clear hb); (try clear hb2); (try clear hk); (try clear hi); obtain ⟨hcz21_0, hfz21_0, hcz21_1, hfz21_1⟩ := bk2 BK134.out) | (go_at_call 58; (with_reducible refine (spec_l12Class.calls _ _ l0_0 a0_1 a1 true _ ?side1 ?side2 A6.out).mono ?_); (case side1 => exact lC (Kd.C_below HR0_0.out HB.out)); (case side2 => exact HC0_0.out); rintro e w22 ⟨rfl, hb⟩; have n0_ := Aside0.mk (blk_below (lK BK134.out) hb); have n1_ := Aside0.mk (below_step lB hb); clear BK134; clear HB; have BK134 := n0_; have HB := n1_; clear n0_ n1_; (try clear hb); (try clear hb2); (try clear hk); (try clear hi)) | (go_at_call 60; (with_reducible refine (spec_l12Name.calls a2 false _ A8.out).mono ?_); rintro e w' ⟨rfl, ⟨nd, rfl⟩⟩))
    go_ret2
    exact ⟨lE, lB⟩
  ·replace c7 := Bool.eq_false_iff.mpr c7
   subst c7
   rw [if_neg (show ¬ (false = true) by decide)] at H
   simp only [Option.some.injEq, Prod.mk.injEq] at H
   obtain ⟨rfl, rfl⟩ := H
   go_enter Try.func20, Try.ntmps20
   go_wp2_with (first | ((with_reducible refine gate_dst (N := 3) rfl ?_); refine bxe 3 #[.slice A0_0 l0_0.length c0_0, .int .i64 a0_1] 29 ?_; intro gb134 hg w23 hbox hb; have n0_ := Aside0.mk (below_step lB hb); have n1_ := Aside0.mk (hbox); have n2_ := lG w hg; have n3_ := lG w hg; clear HB; have HB := n0_; have BK134 := n1_; have GW134 := n2_; have GE134 := n3_; clear n0_ n1_ n2_ n3_; clear hb hbox hg; obtain ⟨hcz24_0, hfz24_0, hcz24_1, hfz24_1⟩ := bk2 BK134.out) | ((with_reducible refine gate_callee (f := 14) rfl ?_); refine gl_ (some 10) (Try.func14) #[.agg #[.slice A0_0 l0_0.length c0_0, .int .i64 a0_1]] ?_; (with_reducible refine (spec_GoodWorld.calls k _ _ l0_0 a0_1 true _ ?side1 ?side2 A4.out).mono ?_); (case side1 => exact lC (Kd.C_below HR0_0.out HB.out)); (case side2 => exact HC0_0.out); rintro e w25 ⟨rfl, hb⟩; refine ⟨_, rfl, ?_⟩; have n0_ := Aside0.mk (blk_below (lK BK134.out) hb); have n1_ := Aside0.mk (below_step lB hb); clear BK134; clear HB; have BK134 := n0_; have HB := n1_; clear n0_ n1_; (try clear hb); (try clear hb2); (try clear hk); (try clear hi); obtain ⟨hcz26_0, hfz26_0, hcz26_1, hfz26_1⟩ := bk2 BK134.out) | (go_at_call 58; (with_reducible refine (spec_l12Class.calls _ _ l0_0 a0_1 a1 false _ ?side1 ?side2 A6.out).mono ?_); (case side1 => exact lC (Kd.C_below HR0_0.out HB.out)); (case side2 => exact HC0_0.out); rintro e w27 ⟨rfl, hb⟩; have n0_ := Aside0.mk (blk_below (lK BK134.out) hb); have n1_ := Aside0.mk (below_step lB hb); clear BK134; clear HB; have BK134 := n0_; have HB := n1_; clear n0_ n1_; (try clear hb); (try clear hb2); (try clear hk); (try clear hi)))
   go_ret2
   exact ⟨lE, lB⟩
 ·replace c5 := Bool.eq_false_iff.mpr c5
  subst c5
  rw [if_neg (show ¬ (false = true) by decide)] at H
  simp only [Option.some.injEq, Prod.mk.injEq] at H
  obtain ⟨rfl, rfl⟩ := H
  go_enter Try.func20, Try.ntmps20
  go_wp2_with (first | ((with_reducible refine gate_dst (N := 3) rfl ?_); refine bxe 3 #[.slice A0_0 l0_0.length c0_0, .int .i64 a0_1] 29 ?_; intro gb134 hg w28 hbox hb; have n0_ := Aside0.mk (below_step lB hb); have n1_ := Aside0.mk (hbox); have n2_ := lG w hg; have n3_ := lG w hg; clear HB; have HB := n0_; have BK134 := n1_; have GW134 := n2_; have GE134 := n3_; clear n0_ n1_ n2_ n3_; clear hb hbox hg; obtain ⟨hcz29_0, hfz29_0, hcz29_1, hfz29_1⟩ := bk2 BK134.out) | ((with_reducible refine gate_callee (f := 14) rfl ?_); refine gl_ (some 10) (Try.func14) #[.agg #[.slice A0_0 l0_0.length c0_0, .int .i64 a0_1]] ?_; (with_reducible refine (spec_GoodWorld.calls k _ _ l0_0 a0_1 false _ ?side1 ?side2 A4.out).mono ?_); (case side1 => exact lC (Kd.C_below HR0_0.out HB.out)); (case side2 => exact HC0_0.out); rintro e w30 ⟨rfl, hb⟩; refine ⟨_, rfl, ?_⟩; have n0_ := Aside0.mk (blk_below (lK BK134.out) hb); have n1_ := Aside0.mk (below_step lB hb); clear BK134; clear HB; have BK134 := n0_; have HB := n1_; clear n0_ n1_; (try clear hb); (try clear hb2); (try clear hk); (try clear hi)))
  go_ret2
  exact ⟨lE, lB⟩

end Go.Proofs.Ytjmgleomljfieaa.Q
