-- Written by the program wip/tools/pr.py of this claim's session, over the kit's print.py.
import Derived.Test.YtnocadhibajaoaaQx0
import Derived.Test.YtnocadhibajaoaaQx6
import Derived.Test.YtnocadhibajaoaaQx7
namespace Go.Proofs.Ytnocadhibajaoaa.Q
open Go.RowKit Go.Proofs.YtnocadhibajaoaaW.PrintWords Go.Proofs.YtnocadhibajaoaaW.PrintLast Go.Proofs.YtnocadhibajaoaaW.PrintMore
attribute [local go_sem] max2_int min2_int max_two min_two max_three min_three max_four min_four   -- for this text's walks alone
set_option linter.unusedVariables false
set_option linter.unusedSimpArgs false

/-! ### slices_Equal_int_int: function 45 -/
def slices_Equal_int_int.l0 : Nat → List Int → List Int → Int → Int → Option (Bool)
 | 0, _, _, _, _ => none
 | k + 1, x0, x1, x12, x13 => if x13 < x12 then (if 0 ≤ x13 then (if x13 < (x0.length : Int) then (if x13 < (x1.length : Int) then (if (rd x0 x13) = (rd x1 x13) then (slices_Equal_int_int.l0 k x0 x1 x12 (wrap64 (x13 + 1))) else (some false)) else (none)) else (none)) else (none)) else (some true)
def slices_Equal_int_int.f (k : Nat) (l0 : List Int) (l1 : List Int) : Option (Bool) := if (l0.length : Int) = (l1.length : Int) then (slices_Equal_int_int.l0 k l0 l1 (l0.length : Int) 0) else (some false)
theorem slices_Equal_int_int.mono_l : ∀ k, (∀ y0 y1 y2 y3, LeO (slices_Equal_int_int.l0 k y0 y1 y2 y3) (slices_Equal_int_int.l0 (k + 1) y0 y1 y2 y3))
 | 0 => fun _ _ _ _ r h => by simp [slices_Equal_int_int.l0] at h
 | k + 1 => by
  have ih0 := slices_Equal_int_int.mono_l k
  ·intro y0 y1 y2 y3
   unfold slices_Equal_int_int.l0
   repeat' first
   | with_reducible apply ih0
   | (with_reducible exact LeO.refl _)
   | (with_reducible exact LeO.none _)
   | (with_reducible refine LeO.ite ?_ ?_)
   | (with_reducible refine LeO.bind ?_ (fun _ => ?_))
   | apply ih0
   | exact LeO.none _
   | refine LeO.ite ?_ ?_
   | refine LeO.bind ?_ (fun _ => ?_)
theorem slices_Equal_int_int.mono : ∀ a0 a1 k, LeO (slices_Equal_int_int.f k a0 a1) (slices_Equal_int_int.f (k + 1) a0 a1) := by
 intro a0 a1 k
 have ih0 := slices_Equal_int_int.mono_l k
 unfold slices_Equal_int_int.f
 repeat' first
   | with_reducible apply ih0
   | (with_reducible exact LeO.refl _)
   | (with_reducible exact LeO.none _)
   | (with_reducible refine LeO.ite ?_ ?_)
   | (with_reducible refine LeO.bind ?_ (fun _ => ?_))
   | apply ih0
   | exact LeO.none _
   | refine LeO.ite ?_ ?_
   | refine LeO.bind ?_ (fun _ => ?_)
set_option maxHeartbeats 8000000 in
set_option maxRecDepth 100000 in
theorem slices_Equal_int_int.calls (k : Nat) (A0 : Option Addr) (c0 : Nat) (l0 : List Int) (A1 : Option Addr) (c1 : Nat) (l1 : List Int) (r : Bool) (w : World) (hr0 : Kd.C (Kd.int .i64) w A0 l0.length l0) (hc0 : l0.length ≤ c0) (hr1 : Kd.C (Kd.int .i64) w A1 l1.length l1) (hc1 : l1.length ≤ c1) (h : slices_Equal_int_int.f k l0 l1 = some r) :
  Calls Try.prog 45 #[.slice A0 l0.length c0, .slice A1 l1.length c1] w fun e w' => e = .returned (.bool r) ∧ Drawn0 w w' := by
 have HR0 := Aside0.mk hr0
 have HC0 := Aside0.mk hc0
 clear hr0 hc0
 have HR1 := Aside0.mk hr1
 have HC1 := Aside0.mk hc1
 clear hr1 hc1
 have H : (if (l0.length : Int) = (l1.length : Int) then (slices_Equal_int_int.l0 k l0 l1 (l0.length : Int) 0) else (some false)) = some r := h
 clear h
 by_cases c3 : (l0.length : Int) = (l1.length : Int)
 ·rw [if_pos c3] at H
  have c3b0 : ((l0.length : Int) == (l1.length : Int)) = true := beq_iff_eq.mpr c3
  have c3b1 : ((l0.length : Int) != (l1.length : Int)) = false := bne_eq_false_iff_eq.mpr c3
  have c3b2 : (l0.length == l1.length) = true := by first | simpa using c3 | (simp at c3 ⊢; omega)
  clear c3
  have H' := Aside0.mk H
  clear H
  go_enter Try.func45, Try.ntmps45
  go_wp2
  repeat (go_quiet (fail); try go_wp2)
  go_loopg [13] k (fun kq v13 w' => ∃ (x13_1 : Int), v13 = .int .i64 x13_1 ∧ Aside0 (slices_Equal_int_int.l0 kq l0 l1 (l0.length : Int) x13_1 = some r) ∧ Aside0 (kq ≤ k) ∧ Drawn0 w w')
  case atStart => exact ⟨(0), lF, H', ⟨Nat.le_refl _⟩, by repeat (first | exact Drawn0.refl _ | apply Drawn0.step)⟩
  case round =>
   clear H'
   try clear c1
   try clear p2
   try clear c3
   try clear c3b0
   try clear c3b1
   try clear c3b2
   obtain ⟨x13_1, rfl, HA, HK1, ⟨m1, rfl⟩⟩ := hrel
   cases gk with
   | zero => exact absurd HA.out (by simp [slices_Equal_int_int.l0])
   | succ k1 =>
    have H := HA.out
    clear HA
    simp only [slices_Equal_int_int.l0] at H
    by_cases c4 : x13_1 < (l0.length : Int)
    ·rw [if_pos c4] at H
     have c4b0 : decide (x13_1 < (l0.length : Int)) = true := decide_eq_true c4
     clear c4
     by_cases c5 : 0 ≤ x13_1
     ·rw [if_pos c5] at H
      have c5b0 : decide (0 ≤ x13_1) = true := decide_eq_true c5
      clear c5
      by_cases c6 : x13_1 < (l0.length : Int)
      ·rw [if_pos c6] at H
       have c6b0 : decide (x13_1 < (l0.length : Int)) = true := decide_eq_true c6
       clear c6
       by_cases c7 : x13_1 < (l1.length : Int)
       ·rw [if_pos c7] at H
        have c7b0 : decide (x13_1 < (l1.length : Int)) = true := decide_eq_true c7
        clear c7
        by_cases c8 : (rd l0 x13_1) = (rd l1 x13_1)
        ·rw [if_pos c8] at H
         have c8b0 : ((rd l0 x13_1) == (rd l1 x13_1)) = true := beq_iff_eq.mpr c8
         have c8b1 : ((rd l0 x13_1) != (rd l1 x13_1)) = false := bne_eq_false_iff_eq.mpr c8
         clear c8
         have H' := Aside0.mk H
         clear H
         have p254 : 0 ≤ (x13_1 : Int) := lD
         have q254 : x13_1 < (l0.length : Int) := lD
         obtain ⟨ad254, e254, hx254_0⟩ := Kd.at_int HR0.out x13_1 p254 q254
         cases e254
         replace p254 := eq_true p254
         replace q254 := eq_true q254
         have p255 : 0 ≤ (x13_1 : Int) := lD
         have q255 : x13_1 < (l1.length : Int) := lD
         obtain ⟨ad255, e255, hx255_0⟩ := Kd.at_int HR1.out x13_1 p255 q255
         cases e255
         replace p255 := eq_true p255
         replace q255 := eq_true q255
         go_wp2
         repeat (go_quiet (fail); try go_wp2)
         go_roundg k1
         case measure => have := HK1.out; omega
         case rel => exact ⟨(wrap64 (x13_1 + 1)), lF, H', ⟨by have := HK1.out; omega⟩, by repeat (first | exact Drawn0.refl _ | apply Drawn0.step)⟩
        ·rw [if_neg c8] at H
         have c8b0 : ((rd l0 x13_1) == (rd l1 x13_1)) = false := beq_eq_false_iff_ne.mpr c8
         have c8b1 : ((rd l0 x13_1) != (rd l1 x13_1)) = true := bne_iff_ne.mpr c8
         obtain rfl := Option.some.inj H
         have p254 : 0 ≤ (x13_1 : Int) := lD
         have q254 : x13_1 < (l0.length : Int) := lD
         obtain ⟨ad254, e254, hx254_0⟩ := Kd.at_int HR0.out x13_1 p254 q254
         cases e254
         replace p254 := eq_true p254
         replace q254 := eq_true q254
         have p255 : 0 ≤ (x13_1 : Int) := lD
         have q255 : x13_1 < (l1.length : Int) := lD
         obtain ⟨ad255, e255, hx255_0⟩ := Kd.at_int HR1.out x13_1 p255 q255
         cases e255
         replace p255 := eq_true p255
         replace q255 := eq_true q255
         go_wp2
         repeat (go_quiet (fail); try go_wp2)
         go_ret
         exact ⟨by first | rfl | (simp; done) | (simp [*]; done), by repeat (first | exact Drawn0.refl _ | apply Drawn0.step)⟩
       ·rw [if_neg c7] at H
        exact absurd H (by simp)
      ·rw [if_neg c6] at H
       exact absurd H (by simp)
     ·rw [if_neg c5] at H
      exact absurd H (by simp)
    ·rw [if_neg c4] at H
     have c4b0 : decide (x13_1 < (l0.length : Int)) = false := decide_eq_false c4
     clear c4
     obtain rfl := Option.some.inj H
     go_wp2
     repeat (go_quiet (fail); try go_wp2)
     go_ret
     exact ⟨by first | rfl | (simp; done) | (simp [*]; done), by repeat (first | exact Drawn0.refl _ | apply Drawn0.step)⟩
 ·rw [if_neg c3] at H
  have c3b0 : ((l0.length : Int) == (l1.length : Int)) = false := beq_eq_false_iff_ne.mpr c3
  have c3b1 : ((l0.length : Int) != (l1.length : Int)) = true := bne_iff_ne.mpr c3
  have c3b2 : (l0.length == l1.length) = false := by first | simpa using c3 | (simp at c3 ⊢; omega)
  obtain rfl := Option.some.inj H
  go_enter Try.func45, Try.ntmps45
  go_wp2
  repeat (go_quiet (fail); try go_wp2)
  go_ret
  exact ⟨by first | rfl | (simp; done) | (simp [*]; done), by repeat (first | exact Drawn0.refl _ | apply Drawn0.step)⟩

/-! ### impl_Heap_shape_1: function 61 -/
def impl_Heap_shape_1.f (k : Nat) (a : List Int) (x : Int) : Option (List Int × Int) :=
  if x < 0 then some (a, -1) else (slices_Contains_int_int.f k a x).bind fun c => if c = true then (slices_Index_int_int.f k a x).bind fun i => some (a, i) else if a.length < 17592186044416 then (slices_Index_int_int.f k (a ++ [x]) x).bind fun i => some (a ++ [x], i) else none
theorem impl_Heap_shape_1.mono : ∀ (a0 : List Int) (a1 : Int) (k : Nat), LeO (impl_Heap_shape_1.f k a0 a1) (impl_Heap_shape_1.f (k + 1) a0 a1) := by
 intro a0 a1 k
 unfold impl_Heap_shape_1.f
 exact LeO.ite (LeO.refl _) (LeO.bind (slices_Contains_int_int.mono _ _ _) (fun c => LeO.ite (LeO.bind (slices_Index_int_int.mono _ _ _) (fun _ => LeO.refl _)) (LeO.ite (LeO.bind (slices_Index_int_int.mono _ _ _) (fun _ => LeO.refl _)) (LeO.none _))))
/-- What a call leaves: the box, its row, a second row that it does not touch. -/
def Sh.Post (B gb : Nat) (w : World) (a : List Int) (v : Value) (out : List Int) (w' : World) : Prop :=
  ∃ (A : Option Addr) (c : Nat), w'.heap[gb]? = some (.cells #[.slice A a.length c] 23 (0, 0)) ∧ Kd.R (Kd.int .i64) 3 w' B (fun k_ => some k_ ≠ v.ownBlock) (.slice A a.length c) a ∧ Kd.R (Kd.int .i64) 3 w' B (fun k_ => some k_ ≠ (Value.slice A a.length c).ownBlock) v out ∧ Below B w w'
def Sh.PostI (B gb : Nat) (w : World) (a : List Int) (v : Value) (out : List Int) (i : Int) (e : Ending) (w' : World) : Prop := e = .returned (.int .i64 i) ∧ Sh.Post B gb w a v out w'
set_option maxHeartbeats 8000000 in
set_option maxRecDepth 100000 in
theorem impl_Heap_shape_1.calls (k : Nat) (w : World) (B gb : Nat) {A : Option Addr} {c : Nat} (a : List Int) (x : Int) (v : Value) (out r : List Int) (i : Int) (hgb : B ≤ gb) (hBw : B ≤ w.heap.size) (hbx : w.heap[gb]? = some (.cells #[.slice A a.length c] 23 (0, 0))) (hA : Kd.R (Kd.int .i64) 3 w B (fun k_ => some k_ ≠ v.ownBlock) (.slice A a.length c) a) (hV : Kd.R (Kd.int .i64) 3 w B (fun k_ => some k_ ≠ (Value.slice A a.length c).ownBlock) v out) (h : impl_Heap_shape_1.f k a x = some (r, i)) :
  Calls Try.prog 61 #[.int .i64 x, .pointer (some ⟨gb, 0, none⟩)] w (Sh.PostI B gb w r v out i) := by
 have HBX := Aside0.mk hbx
 have HA := Aside0.mk hA
 have HV := Aside0.mk hV
 have HB := Aside0.mk (Below.refl B w)
 have HS := Aside0.mk hBw
 have HG := Aside0.mk hgb
 clear hbx hA hV hBw hgb
 unfold impl_Heap_shape_1.f at h
 go_enter Try.func61, Try.ntmps61
 by_cases hx : x < 0
 ·have hxb : decide (x < 0) = true := decide_eq_true hx
  rw [if_pos hx] at h
  simp only [Option.some.injEq, Prod.mk.injEq] at h
  obtain ⟨rfl, rfl⟩ := h
  go_wp2
  go_ret
  exact ⟨rfl, A, c, HBX.out, HA.out, HV.out, HB.out⟩
 ·have hxb : decide (x < 0) = false := decide_eq_false hx
  rw [if_neg hx] at h
  obtain ⟨b, hc, h⟩ := Option.bind_eq_some_iff.1 h
  obtain ⟨hcz, hcf⟩ := bk1 HBX.out
  cases b with
  | true =>
   rw [if_pos rfl] at h
   obtain ⟨j, hj, h⟩ := Option.bind_eq_some_iff.1 h
   simp only [Option.some.injEq, Prod.mk.injEq] at h
   obtain ⟨rfl, rfl⟩ := h
   go_wp2_with (first | (go_at_call 57; (with_reducible refine (slices_Contains_int_int.calls k _ _ a x true _ ?side1 ?side2 hc).mono ?_); (case side1 => repeat (first | exact (Kd.R_reads' HA.out).2.2 | (with_reducible refine Kd.C_alloc ?_ _) | (with_reducible refine Kd.C_drewN ?_ _) | (with_reducible refine Kd.C_drew ?_))); (case side2 => exact (Kd.R_reads' HA.out).2.1); rintro e w' ⟨rfl, ⟨nd, rfl⟩⟩) | (go_at_call 62; (with_reducible refine (slices_Index_int_int.calls k _ _ a x j _ ?side1 ?side2 hj).mono ?_); (case side1 => repeat (first | exact (Kd.R_reads' HA.out).2.2 | (with_reducible refine Kd.C_alloc ?_ _) | (with_reducible refine Kd.C_drewN ?_ _) | (with_reducible refine Kd.C_drew ?_))); (case side2 => exact (Kd.R_reads' HA.out).2.1); rintro e w' ⟨rfl, ⟨nd2, rfl⟩⟩))
   go_ret
   exact ⟨rfl, A, c, HBX.out, by (with_reducible repeat (first | apply Kd.R_drewN | apply Kd.R_drew)); exact HA.out, by (with_reducible repeat (first | apply Kd.R_drewN | apply Kd.R_drew)); exact HV.out, pw_below_drewN HB.out _⟩
  | false =>
   rw [if_neg (by simp)] at h
   by_cases hl : a.length < 17592186044416
   ·rw [if_pos hl] at h
    obtain ⟨j, hj, h⟩ := Option.bind_eq_some_iff.1 h
    simp only [Option.some.injEq, Prod.mk.injEq] at h
    obtain ⟨rfl, rfl⟩ := h
    go_wp2_with (first | (go_at_call 57; (with_reducible refine (slices_Contains_int_int.calls k _ _ a x false _ ?side1 ?side2 hc).mono ?_); (case side1 => repeat (first | exact (Kd.R_reads' HA.out).2.2 | (with_reducible refine Kd.C_alloc ?_ _) | (with_reducible refine Kd.C_drewN ?_ _) | (with_reducible refine Kd.C_drew ?_))); (case side2 => exact (Kd.R_reads' HA.out).2.1); rintro e w' ⟨rfl, ⟨nd, rfl⟩⟩) | ((with_reducible refine gate_builtin (b := .append) (xs := #[.tmp 10, .tmp 12]) rfl ?_); at_builtin; refine Kd.R_append (Kd.int .i64) (w0 := w) B rfl (.tmp 10) (.tmp 12) 23 3 (.int .i64 0) 8 rfl Try.underlying23 info3 rfl (by decide) (by omega) (.slice A a.length c) a x [.int .i64 x] (fun k_ => some k_ ≠ v.ownBlock) (fun _ => False) rfl rfl ?aP (fun _ hk => hk.elim) ?aF ?aO ?aB ?aS ?aL ?_; (case aP => exact rfl); (case aB => exact pw_below_drewN HB.out _); (case aF => exact (fun k_ hk => Kd.fresh' (Kd.R_lt (by (with_reducible repeat (first | apply Kd.R_drewN | apply Kd.R_drew)); exact HV.out)) k_ hk)); (case aO => (with_reducible repeat (first | apply Kd.R_drewN | apply Kd.R_drew)); exact HA.out); (case aS => exact HS.out); (case aL => omega); intro v1 w1 ho hb hg hat; have n0_ := Aside0.mk (blk_grown (show (World.heap (World.drewN w _))[gb]? = _ from HBX.out) hg (Kd.R_ne HA.out HBX.out (by decide))); have n1_ := Aside0.mk (Kd.R_after (ok := fun _ => True) (Kd.R_mono (Kd.R_drewN HV.out _) (fun _ hk => ⟨trivial, hk⟩)) hg hat); have n2_ := Aside0.mk hb; have n3_ := Aside0.mk ho; clear HBX HV HB HA hcz hcf ho hb hg hat; have HBX := n0_; have HV := n1_; have HB := n2_; have HA := n3_; clear n0_ n1_ n2_ n3_; obtain ⟨A1, c1, e1⟩ := Kd.R_slice HA.out; subst e1; obtain ⟨hcz, hcf⟩ := bk1 HBX.out))
    have hln : (a ++ [x]).length = a.length + 1 := by simp
    rw [← hln]
    have n0_ := Aside0.mk (blk_put (cs := #[.slice A a.length c]) (cs' := #[.slice A1 (a ++ [x]).length c1]) HBX.out 0 (.slice A1 (a ++ [x]).length c1) rfl)
    have n1_ := Aside0.mk (Kd.R_set HA.out HBX.out (by decide) 0 (.slice A1 (a ++ [x]).length c1))
    have n2_ := Aside0.mk (Kd.R_set HV.out HBX.out (by decide) 0 (.slice A1 (a ++ [x]).length c1))
    have n3_ := Aside0.mk (HB.out.setCell (p := ⟨gb, 0, none⟩) HG.out (.slice A1 (a ++ [x]).length c1))
    clear HBX HA HV HB hcz hcf
    generalize w1.setCell ⟨gb, 0, none⟩ (.slice A1 (a ++ [x]).length c1) = w7 at n0_ n1_ n2_ n3_ ⊢
    refine (slices_Index_int_int.calls k A1 c1 (a ++ [x]) x j _ (Kd.R_reads' n1_.out).2.2 (Kd.R_reads' n1_.out).2.1 hj).mono ?_
    rintro e w' ⟨rfl, ⟨nd2, rfl⟩⟩
    go_wp2
    go_ret
    exact ⟨rfl, A1, c1, n0_.out, by (with_reducible repeat (first | apply Kd.R_drewN | apply Kd.R_drew)); exact n1_.out, by (with_reducible repeat (first | apply Kd.R_drewN | apply Kd.R_drew)); exact Kd.R_mono n2_.out (fun _ hk => hk.2), pw_below_drewN n3_.out _⟩
   ·rw [if_neg hl] at h; cases h


/-! ### impl_Heap_shape: function 46 -/
mutual
def impl_Heap_shape.l0 : Nat → List Int → List Int → Int → Int → List (S45) → List Int → List Int → Int → List Int → Option (List Int)
 | 0, _, _, _, _, _, _, _, _, _ => none
 | k + 1, x5, x17, x18, x19, x1000, x1001, x1002, x1003, x260000 => if x19 < x18 then (if 0 ≤ x19 then (if x19 < (x17.length : Int) then ((impl_Heap_shape_1.f k x260000 (rd x17 x19)).bind fun t264 => (if x5.length < 17592186044416 then (impl_Heap_shape.l0 k (x5 ++ [t264.2]) x17 x18 (wrap64 (x19 + 1)) x1000 x1001 x1002 x1003 t264.1) else (none))) else (none)) else (none)) else (impl_Heap_shape.l1 k x5 0 x1000 x1001 x1002 x1003 x260000)
def impl_Heap_shape.l1 : Nat → List Int → Int → List (S45) → List Int → List Int → Int → List Int → Option (List Int)
 | 0, _, _, _, _, _, _, _ => none
 | k + 1, x5, x8, x1000, x1001, x1002, x1003, x260000 => if x8 < (x260000.length : Int) then (if 0 ≤ x8 then ((impl_Heap_at.f x1000 x1001 x1002 x1003 (rd x260000 x8)).bind fun t269 => (if 0 ≤ t269 then (if t269 < (x1000.length : Int) then (impl_Heap_shape.l2 k x5 x8 ((rd_T45 x1000 t269).f2) (((rd_T45 x1000 t269).f2).length : Int) 0 x1000 x1001 x1002 x1003 x260000) else (none)) else (none))) else (none)) else (some x5)
def impl_Heap_shape.l2 : Nat → List Int → Int → List Int → Int → Int → List (S45) → List Int → List Int → Int → List Int → Option (List Int)
 | 0, _, _, _, _, _, _, _, _, _, _ => none
 | k + 1, x5, x8, x48, x49, x50, x1000, x1001, x1002, x1003, x260000 => if x50 < x49 then (if 0 ≤ x50 then (if x50 < (x48.length : Int) then ((impl_Heap_shape_1.f k x260000 (rd x48 x50)).bind fun t272 => (if x5.length < 17592186044416 then (impl_Heap_shape.l2 k (x5 ++ [t272.2]) x8 x48 x49 (wrap64 (x50 + 1)) x1000 x1001 x1002 x1003 t272.1) else (none))) else (none)) else (none)) else (impl_Heap_shape.l1 k x5 (wrap64 (x8 + 1)) x1000 x1001 x1002 x1003 x260000)
end
def impl_Heap_shape.f (k : Nat) (l0_0 : List (S45)) (l0_1 : List Int) (l0_2 : List Int) (a0_3 : Int) : Option (List Int) := impl_Heap_shape.l0 k (([] : List Int)) l0_1 (l0_1.length : Int) 0 l0_0 l0_1 l0_2 a0_3 (([] : List Int))
theorem impl_Heap_shape.mono_l : ∀ k, (∀ y0 y1 y2 y3 y4 y5 y6 y7 y8, LeO (impl_Heap_shape.l0 k y0 y1 y2 y3 y4 y5 y6 y7 y8) (impl_Heap_shape.l0 (k + 1) y0 y1 y2 y3 y4 y5 y6 y7 y8)) ∧ (∀ y0 y1 y2 y3 y4 y5 y6, LeO (impl_Heap_shape.l1 k y0 y1 y2 y3 y4 y5 y6) (impl_Heap_shape.l1 (k + 1) y0 y1 y2 y3 y4 y5 y6)) ∧ (∀ y0 y1 y2 y3 y4 y5 y6 y7 y8 y9, LeO (impl_Heap_shape.l2 k y0 y1 y2 y3 y4 y5 y6 y7 y8 y9) (impl_Heap_shape.l2 (k + 1) y0 y1 y2 y3 y4 y5 y6 y7 y8 y9))
 | 0 => ⟨fun _ _ _ _ _ _ _ _ _ r h => by simp [impl_Heap_shape.l0] at h, fun _ _ _ _ _ _ _ r h => by simp [impl_Heap_shape.l1] at h, fun _ _ _ _ _ _ _ _ _ _ r h => by simp [impl_Heap_shape.l2] at h⟩
 | k + 1 => by
  obtain ⟨ih0, ih1, ih2⟩ := impl_Heap_shape.mono_l k
  refine ⟨?_, ?_, ?_⟩
  ·intro y0 y1 y2 y3 y4 y5 y6 y7 y8
   unfold impl_Heap_shape.l0
   repeat' first
   | with_reducible apply ih0
   | with_reducible apply ih1
   | with_reducible apply ih2
   | with_reducible apply impl_Heap_shape_1.mono
   | (with_reducible exact LeO.refl _)
   | (with_reducible exact LeO.none _)
   | (with_reducible refine LeO.ite ?_ ?_)
   | (with_reducible refine LeO.bind ?_ (fun _ => ?_))
   | apply ih0
   | apply ih1
   | apply ih2
   | apply impl_Heap_shape_1.mono
   | exact LeO.none _
   | refine LeO.ite ?_ ?_
   | refine LeO.bind ?_ (fun _ => ?_)
  ·intro y0 y1 y2 y3 y4 y5 y6
   unfold impl_Heap_shape.l1
   repeat' first
   | with_reducible apply ih0
   | with_reducible apply ih1
   | with_reducible apply ih2
   | with_reducible apply impl_Heap_shape_1.mono
   | (with_reducible exact LeO.refl _)
   | (with_reducible exact LeO.none _)
   | (with_reducible refine LeO.ite ?_ ?_)
   | (with_reducible refine LeO.bind ?_ (fun _ => ?_))
   | apply ih0
   | apply ih1
   | apply ih2
   | apply impl_Heap_shape_1.mono
   | exact LeO.none _
   | refine LeO.ite ?_ ?_
   | refine LeO.bind ?_ (fun _ => ?_)
  ·intro y0 y1 y2 y3 y4 y5 y6 y7 y8 y9
   unfold impl_Heap_shape.l2
   repeat' first
   | with_reducible apply ih0
   | with_reducible apply ih1
   | with_reducible apply ih2
   | with_reducible apply impl_Heap_shape_1.mono
   | (with_reducible exact LeO.refl _)
   | (with_reducible exact LeO.none _)
   | (with_reducible refine LeO.ite ?_ ?_)
   | (with_reducible refine LeO.bind ?_ (fun _ => ?_))
   | apply ih0
   | apply ih1
   | apply ih2
   | apply impl_Heap_shape_1.mono
   | exact LeO.none _
   | refine LeO.ite ?_ ?_
   | refine LeO.bind ?_ (fun _ => ?_)
theorem impl_Heap_shape.mono : ∀ a0 a1 a2 a3 k, LeO (impl_Heap_shape.f k a0 a1 a2 a3) (impl_Heap_shape.f (k + 1) a0 a1 a2 a3) := by
 intro a0 a1 a2 a3 k
 obtain ⟨ih0, ih1, ih2⟩ := impl_Heap_shape.mono_l k
 unfold impl_Heap_shape.f
 repeat' first
   | with_reducible apply ih0
   | with_reducible apply ih1
   | with_reducible apply ih2
   | with_reducible apply impl_Heap_shape_1.mono
   | (with_reducible exact LeO.refl _)
   | (with_reducible exact LeO.none _)
   | (with_reducible refine LeO.ite ?_ ?_)
   | (with_reducible refine LeO.bind ?_ (fun _ => ?_))
   | apply ih0
   | apply ih1
   | apply ih2
   | apply impl_Heap_shape_1.mono
   | exact LeO.none _
   | refine LeO.ite ?_ ?_
   | refine LeO.bind ?_ (fun _ => ?_)
def impl_Heap_shape.T12 : Bool × List (List Nat × List Nat) := (true, [([], []), ([0], [0]), ([1], [1]), ([2], [2]), ([], []), ([], []), ([], []), ([5, 6], [5, 6]), ([7], [7]), ([4, 8], [4, 8]), ([3, 9], [3, 9]), ([10], [10]), ([11], [11]), ([12], [12]), ([], [])])
def impl_Heap_shape.B12 : List Nat := [0, 1, 3, 7, 0, 0, 0, 96, 224, 496, 1023, 2047, 4095, 8191, 0]
theorem impl_Heap_shape.tab12 : rtab .any (opsOf Try.f46 12) = impl_Heap_shape.T12 := by kernel_rfl
theorem impl_Heap_shape.bits12 : waitsOk impl_Heap_shape.T12.2 impl_Heap_shape.B12 = true := by kernel_rfl
set_option maxHeartbeats 8000000 in
set_option maxRecDepth 100000 in
theorem impl_Heap_shape.calls (k : Nat) (g0 : Nat) (A0_0 : Option Addr) (c0_0 : Nat) (l0_0 : List (S45)) (A0_1 : Option Addr) (c0_1 : Nat) (l0_1 : List Int) (A0_2 : Option Addr) (c0_2 : Nat) (l0_2 : List Int) (a0_3 : Int) (r : List Int) (w : World) (hb0 : w.heap[g0]? = some (.cells #[.slice A0_0 l0_0.length c0_0, .slice A0_1 l0_1.length c0_1, .slice A0_2 l0_2.length c0_2, .int .i64 a0_3] 25 (0, 0))) (hr0_0 : Kd.C k45 w A0_0 l0_0.length l0_0) (hc0_0 : l0_0.length ≤ c0_0) (hr0_1 : Kd.C (Kd.int .i64) w A0_1 l0_1.length l0_1) (hc0_1 : l0_1.length ≤ c0_1) (hr0_2 : Kd.C (Kd.int .i64) w A0_2 l0_2.length l0_2) (hc0_2 : l0_2.length ≤ c0_2) (h : impl_Heap_shape.f k l0_0 l0_1 l0_2 a0_3 = some r) :
  Calls Try.prog 46 #[.pointer (some ⟨g0, 0, none⟩)] w fun e w' => ∃ v0_ : Value, e = .returned (v0_) ∧ Kd.R (Kd.int .i64) 3 w' w.heap.size (fun _ => True) v0_ r ∧ Below w.heap.size w w' := by
 have HR0_0 := Aside0.mk hr0_0
 have HC0_0 := Aside0.mk hc0_0
 clear hr0_0 hc0_0
 have HR0_1 := Aside0.mk hr0_1
 have HC0_1 := Aside0.mk hc0_1
 clear hr0_1 hc0_1
 have HR0_2 := Aside0.mk hr0_2
 have HC0_2 := Aside0.mk hc0_2
 clear hr0_2 hc0_2
 have BK0 := Aside0.mk hb0
 have BK00 := Aside0.mk hb0
 clear hb0
 have HB := Aside0.mk (Below.refl w.heap.size w)
 have H : (impl_Heap_shape.l0 k (([] : List Int)) l0_1 (l0_1.length : Int) 0 l0_0 l0_1 l0_2 a0_3 (([] : List Int))) = some r := h
 clear h
 obtain ⟨y256, hy256⟩ : ∃ y_ : List Int, y_ = (([] : List Int)) := ⟨_, rfl⟩
 replace H : (impl_Heap_shape.l0 k (([] : List Int)) l0_1 (l0_1.length : Int) 0 l0_0 l0_1 l0_2 a0_3 y256) = some r := by first | (rw [hy256]; with_reducible exact H) | (have H2_ := (Option.bind_some _ _).symm.trans H; rw [hy256]; with_reducible exact H2_) | (have H2_ := (Option.bind_some _ _).symm.trans H; with_reducible exact H2_) | with_reducible exact H | (rw [hy256]; exact H) | exact H
 have Ny256 := Aside0.mk hy256
 clear hy256
 obtain ⟨y260, hy260⟩ : ∃ y_ : List Int, y_ = (([] : List Int)) := ⟨_, rfl⟩
 replace H : (impl_Heap_shape.l0 k y260 l0_1 (l0_1.length : Int) 0 l0_0 l0_1 l0_2 a0_3 y256) = some r := by first | (rw [hy260]; with_reducible exact H) | (have H2_ := (Option.bind_some _ _).symm.trans H; rw [hy260]; with_reducible exact H2_) | (have H2_ := (Option.bind_some _ _).symm.trans H; with_reducible exact H2_) | with_reducible exact H | (rw [hy260]; exact H) | exact H
 have Ny260 := Aside0.mk hy260
 clear hy260
 have H' := Aside0.mk H
 clear H
 go_enter Try.func46, Try.ntmps46
 go_wp2_with (first | ((with_reducible refine gate_dst (N := 11) rfl ?_); refine Kd.R_lit (Kd.int .i64) _ 3 ?hg (N := 11) ?hd (xs := ([] : List Int)) (inner := []) (ok := fun _ => True) (okp := fun _ => True) ?hr ?hp (fun _ hk => hk) trivial (Below.refl _ _) (Nat.le_refl _) (by simp) ?_; (case hd => rfl); (case hg => rfl); (case hr => first | (go_simp; done) | (go_simp; rfl)); (case hp => exact (Reps.none _ _)); intro v257 w2 ho3 hb hg_ hnew_; clear hg_ hnew_; (first | rw [← Ny256.out] at ho3 | (simp only [Int.reduceToNat] at ho3; rw [← Ny256.out] at ho3)); have n0_ := Aside0.mk (Kd.R_lower ho3 (below_size lB)); have n1_ := Aside0.mk (blk_below (lK BK0.out) hb); have n2_ := Aside0.mk (below_step lB hb); clear BK0; clear HB; have HO258 := n0_; have BK0 := n1_; have HB := n2_; clear n0_ n1_ n2_; clear hb ho3) | ((with_reducible refine gate_dst (N := 3) rfl ?_); refine bxe 3 #[.slice none 0 0] 23 ?_; intro gb259 hg w4 hbox hb; have n0_ := Aside0.mk (Kd.R_below (lR HO258.out) hb); have n1_ := Aside0.mk (blk_below (lK BK0.out) hb); have n2_ := Aside0.mk (below_step lB hb); have n3_ := Aside0.mk (hbox); have n4_ := lG w hg; have n5_ := lG w hg; have n6_ := Aside0.mk ((by rw [hg]; exact Nat.ne_of_lt (blk_lt (lK BK0.out)) : g0 ≠ gb259)); have n7_ := Aside0.mk ((by rw [hg]; exact Nat.ne_of_gt (blk_lt (lK BK0.out)) : gb259 ≠ g0)); clear HO258; clear BK0; clear HB; have HO258 := n0_; have BK0 := n1_; have HB := n2_; have BK259 := n3_; have GW259 := n4_; have GE259 := n5_; have NB0_259 := n6_; have NB259_0 := n7_; clear n0_ n1_ n2_ n3_ n4_ n5_ n6_ n7_; clear hb hbox hg; obtain ⟨Ao5, co5, eo5⟩ := Kd.R_slice HO258.out; subst eo5; have hnb6 := NB259_0.out; have hnc6 := NB0_259.out; obtain ⟨hcz7_0, hfz7_0⟩ := bk1 BK259.out) | ((with_reducible refine gate_dst (N := 13) rfl ?_); refine Kd.R_lit (Kd.int .i64) _ 3 ?hg (N := 13) ?hd (xs := ([] : List Int)) (inner := []) (ok := fun _ => True) (okp := fun _ => True) ?hr ?hp (fun _ hk => hk) trivial (Below.refl _ _) (Nat.le_refl _) (by simp) ?_; (case hd => rfl); (case hg => rfl); (case hr => first | (go_simp; done) | (go_simp; rfl)); (case hp => exact (Reps.none _ _)); intro v261 w8 ho9 hb hg_ hnew_; clear hg_ hnew_; (first | rw [← Ny260.out] at ho9 | (simp only [Int.reduceToNat] at ho9; rw [← Ny260.out] at ho9)); have n0_ := Aside0.mk (Kd.R_elder' (by (with_reducible repeat (first | apply Kd.R_alloc | apply Kd.R_drewN | apply Kd.R_drew)); exact (Kd.R_mono (Kd.R_far (p := ⟨gb259, 0, none⟩) (Kd.R_types HO258.out BK259.out (by decide)) (fun _ hk => hk.2) (.slice Ao5 y256.length co5)) (fun _ h_ => h_.1))) (Kd.R_base ho9) hb); have n1_ := Aside0.mk (Kd.R_lower (Kd.R_new' ho9 (Kd.R_lt (by (with_reducible repeat (first | apply Kd.R_alloc | apply Kd.R_drewN | apply Kd.R_drew)); exact (Kd.R_mono (Kd.R_far (p := ⟨gb259, 0, none⟩) (Kd.R_types HO258.out BK259.out (by decide)) (fun _ hk => hk.2) (.slice Ao5 y256.length co5)) (fun _ h_ => h_.1))))) (below_size lB)); have n2_ := Aside0.mk (blk_below (lJ BK0.out) hb); have n3_ := Aside0.mk (blk_below (g := gb259) (o := .cells #[.slice Ao5 y256.length co5] 23 (0, 0)) (by (with_reducible repeat first | apply bN | apply bD | apply bA); refine blk_put (cs := #[.slice none 0 0]) ?_ 0 _ rfl; (with_reducible repeat first | apply bN | apply bD | apply bA); exact BK259.out) hb); have n4_ := Aside0.mk (below_step lB hb); clear HO258; clear BK0; clear BK259; clear HB; have HO258 := n0_; have HO262 := n1_; have BK0 := n2_; have BK259 := n3_; have HB := n4_; clear n0_ n1_ n2_ n3_ n4_; clear hb ho9; obtain ⟨hcz10_0, hfz10_0, hcz10_1, hfz10_1, hcz10_2, hfz10_2, hcz10_3, hfz10_3⟩ := bk4 BK0.out))
 go_loopg [5, 19] k (fun kq v5 v19 w' => ∃ (a1_ : List Int) (A1_ : Option Addr) (c1_ : Nat) (x5_1 : List Int) (x19_1 : Int), v19 = .int .i64 x19_1 ∧ Aside0 (impl_Heap_shape.l0 kq x5_1 l0_1 (l0_1.length : Int) x19_1 l0_0 l0_1 l0_2 a0_3 a1_ = some r) ∧ Aside0 (kq ≤ k) ∧ Aside0 (Kd.R (Kd.int .i64) 3 w' w.heap.size (fun k_ => some k_ ≠ ((.slice A1_ a1_.length c1_) : Value).ownBlock) v5 x5_1) ∧ Aside0 (Kd.R (Kd.int .i64) 3 w' w.heap.size (fun k_ => some k_ ≠ (v5 : Value).ownBlock) (.slice A1_ a1_.length c1_) a1_) ∧ Aside0 (w'.heap[g0]? = some (.cells #[(.slice A0_0 l0_0.length c0_0), (.slice A0_1 l0_1.length c0_1), (.slice A0_2 l0_2.length c0_2), .int .i64 a0_3] 25 (0, 0))) ∧ Aside0 (w'.heap[gb259]? = some (.cells #[(.slice A1_ a1_.length c1_)] 23 (0, 0))) ∧ Aside0 (Below w.heap.size w w'))
 case atStart => exact ⟨y256, Ao5, co5, (y260), (0), lF, H', ⟨Nat.le_refl _⟩, ⟨by (with_reducible repeat (first | apply Kd.R_alloc | apply Kd.R_drewN | apply Kd.R_drew)); exact Kd.R_mono HO262.out (fun _ hk => hk.2)⟩, ⟨by (with_reducible repeat (first | apply Kd.R_alloc | apply Kd.R_drewN | apply Kd.R_drew)); exact Kd.R_mono HO258.out (fun _ hk => hk.2)⟩, ⟨lK BK0.out⟩, ⟨lK BK259.out⟩, ⟨lB⟩⟩
 case round =>
  clear H'
  try clear p2
  try clear c4
  try clear c6
  try clear hcz10_0 hcz10_1 hcz10_2 hcz10_3
  try clear hcz7_0
  try clear hfz10_0 hfz10_1 hfz10_2 hfz10_3
  try clear hfz7_0
  obtain ⟨a1_, A1_, c1_, x5_1, x19_1, rfl, HA, HK1, HO_5, HO_260000, BK0, BK259, HB⟩ := hrel
  cases gk with
  | zero => exact absurd HA.out (by simp [impl_Heap_shape.l0])
  | succ k1 =>
   have H := HA.out
   clear HA
   simp only [impl_Heap_shape.l0] at H
   by_cases c11 : x19_1 < (l0_1.length : Int)
   ·rw [if_pos c11] at H
    have c11b0 : decide (x19_1 < (l0_1.length : Int)) = true := decide_eq_true c11
    clear c11
    by_cases c12 : 0 ≤ x19_1
    ·rw [if_pos c12] at H
     have c12b0 : decide (0 ≤ x19_1) = true := decide_eq_true c12
     clear c12
     by_cases c13 : x19_1 < (l0_1.length : Int)
     ·rw [if_pos c13] at H
      have c13b0 : decide (x19_1 < (l0_1.length : Int)) = true := decide_eq_true c13
      clear c13
      replace H := lO H
      obtain ⟨⟨ta264, t264⟩, A14, H⟩ := H
      dsimp only at H
      by_cases c15 : x5_1.length < 17592186044416
      ·rw [if_pos c15] at H
       have LMc15 := Aside0.mk c15
       clear c15
       obtain ⟨y265, hy265⟩ : ∃ y_ : List Int, y_ = (x5_1 ++ [t264]) := ⟨_, rfl⟩
       replace H : (impl_Heap_shape.l0 k1 y265 l0_1 (l0_1.length : Int) (wrap64 (x19_1 + 1)) l0_0 l0_1 l0_2 a0_3 ta264) = some r := by first | (rw [hy265]; with_reducible exact H) | (have H2_ := (Option.bind_some _ _).symm.trans H; rw [hy265]; with_reducible exact H2_) | (have H2_ := (Option.bind_some _ _).symm.trans H; with_reducible exact H2_) | with_reducible exact H | (rw [hy265]; exact H) | exact H
       have Ny265 := Aside0.mk hy265
       clear hy265
       have H' := Aside0.mk H
       clear H
       have p263 : 0 ≤ (x19_1 : Int) := lD
       have q263 : x19_1 < (l0_1.length : Int) := lD
       obtain ⟨ad263, e263, hx263_0⟩ := Kd.at_int HR0_1.out x19_1 p263 q263
       cases e263
       replace hx263_0 := pw_cell_below HB.out hx263_0
       replace p263 := eq_true p263
       replace q263 := eq_true q263
       go_wp2_with (first | (go_at_call 61; (with_reducible refine (impl_Heap_shape_1.calls k1 _ w.heap.size gb259 (A := A1_) (c := c1_) a1_ (rd l0_1 x19_1) u5 x5_1 ta264 t264 ?side0 ?side1 ?side2 ?side3 ?side4 A14.out).mono ?_); (case side0 => exact GE259.out); (case side1 => exact below_size lB); (case side2 => exact lK BK259.out); (case side3 => exact lR HO_260000.out); (case side4 => exact lR HO_5.out); rintro e w16 ⟨rfl, A1b_, c1b_, hbx_, hA_, hV_, hb_⟩; have n0_ := Aside0.mk hV_; have n1_ := Aside0.mk hA_; have n3_ := Aside0.mk hbx_; have n4_ := Aside0.mk (Below.trans lB hb_); have n2_ := Aside0.mk (blk_below BK00.out n4_.out); clear HO_5; clear HO_260000; clear BK0; clear BK259; clear HB; have HO_5 := n0_; have HO_260000 := n1_; have BK0 := n2_; have BK259 := n3_; have HB := n4_; clear n0_ n1_ n2_ n3_ n4_; clear hV_ hA_ hbx_ hb_) | ((with_reducible refine gate_builtin (b := .append) (xs := #[.tmp 23, .tmp 27]) rfl ?_); at_builtin; refine Kd.R_append (Kd.int .i64) (w0 := w) w.heap.size rfl (.tmp 23) (.tmp 27) 23 3 (.int .i64 0) 8 rfl Try.underlying23 info3 rfl (by decide) (by omega) u5 x5_1 t264 [.int .i64 t264] (fun k_ => some k_ ≠ (.slice A1b_ ta264.length c1b_ : Value).ownBlock) (fun _ => False) rfl rfl ?aP (fun _ hk => hk.elim) ?aF ?aO ?aB ?aS ?aL ?_; (case aP => exact rfl); (case aB => exact lB); (case aF => exact (fun k_ hk => Kd.fresh' (Kd.R_lt (lR HO_260000.out)) k_ hk)); (case aO => exact (lR HO_5.out)); (case aS => exact (below_size lB)); (case aL => have := LMc15.out; omega); intro v266 w17 ho hb hg hat; rw [← Ny265.out] at ho; have n0_ := Aside0.mk (Kd.R_after (ok := (fun _ => True)) (by (with_reducible repeat (first | apply Kd.R_alloc | apply Kd.R_drewN | apply Kd.R_drew)); exact Kd.R_mono HO_260000.out (fun _ hk => ⟨trivial, hk⟩)) hg hat); have n1_ := Aside0.mk (blk_grown (lK BK0.out) hg (Kd.R_ne HO_5.out BK0.out (by decide))); have n2_ := Aside0.mk (blk_grown (lK BK259.out) hg (Kd.R_ne HO_5.out BK259.out (by decide))); have n3_ := Aside0.mk (hb); have n4_ := Aside0.mk (ho); clear HO_260000; clear BK0; clear BK259; clear HB; clear HO_5; have HO_260000 := n0_; have BK0 := n1_; have BK259 := n2_; have HB := n3_; have HO267 := n4_; clear n0_ n1_ n2_ n3_ n4_; clear ho hb hg hat))
       go_roundg k1
       case measure => have := HK1.out; omega
       case rel => exact ⟨ta264, A1b_, c1b_, (y265), (wrap64 (x19_1 + 1)), lF, H', ⟨by have := HK1.out; omega⟩, ⟨lR HO267.out⟩, ⟨by (with_reducible repeat (first | apply Kd.R_alloc | apply Kd.R_drewN | apply Kd.R_drew)); exact Kd.R_mono HO_260000.out (fun _ hk => hk.2)⟩, ⟨lK BK0.out⟩, ⟨lK BK259.out⟩, ⟨lB⟩⟩
      ·rw [if_neg c15] at H
       exact absurd H (by simp)
     ·rw [if_neg c13] at H
      exact absurd H (by simp)
    ·rw [if_neg c12] at H
     exact absurd H (by simp)
   ·rw [if_neg c11] at H
    have c11b0 : decide (x19_1 < (l0_1.length : Int)) = false := decide_eq_false c11
    clear c11
    have H' := Aside0.mk H
    clear H
    go_wp2
    go_loopg [5, 8] k1 (fun kq v5 v8 w' => ∃ (a2_ : List Int) (A2_ : Option Addr) (c2_ : Nat) (x5_2 : List Int) (x8_2 : Int), v8 = .int .i64 x8_2 ∧ Aside0 (impl_Heap_shape.l1 kq x5_2 x8_2 l0_0 l0_1 l0_2 a0_3 a2_ = some r) ∧ Aside0 (kq ≤ k1) ∧ Aside0 (Kd.R (Kd.int .i64) 3 w' w.heap.size (fun k_ => some k_ ≠ ((.slice A2_ a2_.length c2_) : Value).ownBlock) v5 x5_2) ∧ Aside0 (Kd.R (Kd.int .i64) 3 w' w.heap.size (fun k_ => some k_ ≠ (v5 : Value).ownBlock) (.slice A2_ a2_.length c2_) a2_) ∧ Aside0 (w'.heap[g0]? = some (.cells #[(.slice A0_0 l0_0.length c0_0), (.slice A0_1 l0_1.length c0_1), (.slice A0_2 l0_2.length c0_2), .int .i64 a0_3] 25 (0, 0))) ∧ Aside0 (w'.heap[gb259]? = some (.cells #[(.slice A2_ a2_.length c2_)] 23 (0, 0))) ∧ Aside0 (Below w.heap.size w w'))
    case atStart => exact ⟨a1_, A1_, c1_, (x5_1), (0), lF, H', ⟨Nat.le_refl _⟩, ⟨lR HO_5.out⟩, ⟨lR HO_260000.out⟩, ⟨lK BK0.out⟩, ⟨lK BK259.out⟩, ⟨lB⟩⟩
    case round =>
     clear H'
     try clear c1
     try clear p2
     try clear q2
     try clear hx2
     try clear c4
     try clear c6
     try clear p6
     try clear c11
     try clear c11b0
     try clear c12
     try clear c12b0
     try clear c13
     try clear c13b0
     try clear c15
     try clear hcz10_0 hcz10_1 hcz10_2 hcz10_3
     try clear hcz7_0
     try clear hfz10_0 hfz10_1 hfz10_2 hfz10_3
     try clear hfz7_0
     try clear hx263_0
     try clear p2
     try clear p263
     try clear q263
     obtain ⟨a2_, A2_, c2_, x5_2, x8_2, rfl, HA, HK2, HO_5, HO_260000, BK0, BK259, HB⟩ := hrel
     cases gk with
     | zero => exact absurd HA.out (by simp [impl_Heap_shape.l1])
     | succ k2 =>
      have H := HA.out
      clear HA
      simp only [impl_Heap_shape.l1] at H
      by_cases c18 : x8_2 < (a2_.length : Int)
      ·rw [if_pos c18] at H
       have c18b0 : decide (x8_2 < (a2_.length : Int)) = true := decide_eq_true c18
       clear c18
       by_cases c19 : 0 ≤ x8_2
       ·rw [if_pos c19] at H
        have c19b0 : decide (0 ≤ x8_2) = true := decide_eq_true c19
        clear c19
        replace H := lO H
        obtain ⟨t269, A20, H⟩ := H
        by_cases c21 : 0 ≤ t269
        ·rw [if_pos c21] at H
         have c21b0 : decide (0 ≤ t269) = true := decide_eq_true c21
         clear c21
         by_cases c22 : t269 < (l0_0.length : Int)
         ·rw [if_pos c22] at H
          have c22b0 : decide (t269 < (l0_0.length : Int)) = true := decide_eq_true c22
          clear c22
          have H' := Aside0.mk H
          clear H
          have hnb23 := NB259_0.out
          have hnc23 := NB0_259.out
          obtain ⟨hcz24_0, hfz24_0⟩ := bk1 BK259.out
          try go_wp2
          have n0_ := Aside0.mk (Kd.R_drew HO_5.out)
          have n1_ := Aside0.mk (Kd.R_drew HO_260000.out)
          have n2_ := Aside0.mk (blk_drew BK0.out)
          have n3_ := Aside0.mk (blk_drew BK259.out)
          have n4_ := Aside0.mk (below_drew1 HB.out)
          clear HO_5
          clear HO_260000
          clear BK0
          clear BK259
          clear HB
          have HO_5 := n0_
          have HO_260000 := n1_
          have BK0 := n2_
          have BK259 := n3_
          have HB := n4_
          clear n0_ n1_ n2_ n3_ n4_
          have p268 : 0 ≤ (x8_2 : Int) := lD
          have q268 : x8_2 < (a2_.length : Int) := lD
          obtain ⟨ad268, e268, hx268_0⟩ := Kd.at_int (Kd.R_reads' HO_260000.out).2.2 x8_2 p268 q268
          cases e268
          replace p268 := eq_true p268
          replace q268 := eq_true q268
          have p270 : 0 ≤ (t269 : Int) := lD
          have q270 : t269 < (l0_0.length : Int) := lD
          obtain ⟨ad270, A270_2, c270_2, e270, hx270_0, hx270_1, hx270_2, hl270_2, hi270_2⟩ := at_T45 HR0_0.out t269 p270 q270
          have hw270_2 := hx270_2
          have hw270_1 := hx270_1
          have hw270_0 := hx270_0
          cases e270
          replace hx270_0 := pw_cell_below HB.out hx270_0
          replace hx270_1 := pw_cell_below HB.out hx270_1
          replace hx270_2 := pw_cell_below HB.out hx270_2
          have HR270_2 := Aside0.mk hi270_2
          have HC270_2 := Aside0.mk hl270_2
          clear hi270_2 hl270_2
          replace p270 := eq_true p270
          replace q270 := eq_true q270
          refine start_ (n := 15) (S := fun w' => w'.cell? ⟨g0, 0, none⟩ = some (.slice (some ad270) l0_0.length c0_0) ∧ w'.cell? ⟨g0, 1, none⟩ = some (.slice A0_1 l0_1.length c0_1) ∧ w'.cell? ⟨g0, 2, none⟩ = some (.slice A0_2 l0_2.length c0_2) ∧ w'.cell? ⟨g0, 3, none⟩ = some (.int .i64 a0_3) ∧ w'.cell? ⟨gb259, 0, none⟩ = some (.slice (some ad268) a2_.length c2_) ∧ w'.cell? (ad268.add (x8_2).toNat) = some (.int .i64 (rd a2_ x8_2)) ∧ w'.cell? (ad270.add ((t269).toNat * 3)) = some (.int .i64 ((rd_T45 l0_0 t269).f0)) ∧ w'.cell? ⟨(ad270.add ((t269).toNat * 3)).block, (ad270.add ((t269).toNat * 3)).off + 1, none⟩ = some (.bool ((rd_T45 l0_0 t269).f1)) ∧ w'.cell? ⟨(ad270.add ((t269).toNat * 3)).block, (ad270.add ((t269).toNat * 3)).off + 2, none⟩ = some (.slice A270_2 ((rd_T45 l0_0 t269).f2).length c270_2)) (ds := []) (bs 15 0) kR rfl kR ⟨bZ BK0.out 0, bZ BK0.out 1, bZ BK0.out 2, bZ BK0.out 3, bZ BK259.out 0, hx268_0, ((HB.out.cell (World.block_lt_of_cell? w _ hw270_0)).trans hw270_0), ((HB.out.cell (World.block_lt_of_cell? w _ hw270_1)).trans hw270_1), ((HB.out.cell (World.block_lt_of_cell? w _ hw270_2)).trans hw270_2)⟩ (fun hHeld => ?_); refine with_tabW impl_Heap_shape.tab12 impl_Heap_shape.bits12 (fun HT_ HW_ => ?_)
          generalize wr.drew = w25 at HO_5 HO_260000 BK0 BK259 HB HR270_2 hx268_0 hx270_0 hx270_1 hx270_2 hHeld ⊢
          refine pur_ 0 36 (bs 15 1) (any_of HT_.out kR) ?_
          refine pur_ 1 37 (bs 15 3) (any_of HT_.out kR) ?_
          refine pur_ 2 38 (bs 15 7) (any_of HT_.out kR) ?_
          refine pur_ 4 40 (bs 15 23) (any_of HT_.out kR) ?_
          refine pur_ 6 42 (bs 15 87) (any_of HT_.out kR) ?_
          refine pur_ 14 50 (bs 15 16471) (any_of HT_.out kR) ?_
          refine tak_ 3 39 (bs 15 16479) (take_ofW HT_.out HW_.out kR) hHeld ?_
          refine tak_ 5 41 (bs 15 16511) (take_ofW HT_.out HW_.out kR) hHeld ?_
          refine pur_ 7 43 (bs 15 16639) (any_of HT_.out kR) ?_
          refine tak_ 8 44 (bs 15 16895) (take_ofW HT_.out HW_.out kR) hHeld ?_
          refine one_ (i := 9) (N := some 45) (bs 15 17407) rfl rfl (one_of HT_.out (by kernel_rfl)) (by decide) (fun K hK => ?_)
          refine goes_ Try.func58 (by kernel_rfl) rfl #[.pointer (some ⟨g0, 0, none⟩), .int .i64 (rd a2_ x8_2)] (by rfl) rfl rfl (by (try simp only [List.map_toArray, List.map_cons, List.map_nil]); first | done | rfl | (simp only [List.length_drop, List.length_take]; rfl)) ?_
          with_reducible refine (impl_Heap_at.calls g0 (some ad270) c0_0 l0_0 A0_1 c0_1 l0_1 A0_2 c0_2 l0_2 a0_3 (rd a2_ x8_2) t269 _ ?side1 ?side2 ?side3 ?side4 ?side5 ?side6 ?side7 A20.out).mono ?_
          (case side1 => exact (lK BK0.out))
          (case side2 => exact lC (Kd.C_below HR0_0.out HB.out))
          (case side3 => exact HC0_0.out)
          (case side4 => exact lC (Kd.C_below HR0_1.out HB.out))
          (case side5 => exact HC0_1.out)
          (case side6 => exact lC (Kd.C_below HR0_2.out HB.out))
          (case side7 => exact HC0_2.out)
          rintro e w26 ⟨rfl, hb⟩
          have HS5_ := (hb.cell (World.block_lt_of_cell? _ _ (hHeld.2.2.2.2.2.1))).trans (hHeld.2.2.2.2.2.1)
          refine ⟨_, rfl, ?_⟩
          have n0_ := Aside0.mk (Kd.R_below (lR HO_5.out) hb)
          have n1_ := Aside0.mk (Kd.R_below (lR HO_260000.out) hb)
          have n2_ := Aside0.mk (blk_below (lK BK0.out) hb)
          have n3_ := Aside0.mk (blk_below (lK BK259.out) hb)
          have n4_ := Aside0.mk (below_step lB hb)
          clear HO_5
          clear HO_260000
          clear BK0
          clear BK259
          clear HB
          have HO_5 := n0_
          have HO_260000 := n1_
          have BK0 := n2_
          have BK259 := n3_
          have HB := n4_
          clear n0_ n1_ n2_ n3_ n4_
          (try clear hb)
          (try clear hb2)
          (try clear hk)
          (try clear hi)
          refine hK.out _ _ ⟨bZ BK0.out 0, bZ BK0.out 1, bZ BK0.out 2, bZ BK0.out 3, bZ BK259.out 0, HS5_, ((HB.out.cell (World.block_lt_of_cell? w _ hw270_0)).trans hw270_0), ((HB.out.cell (World.block_lt_of_cell? w _ hw270_1)).trans hw270_1), ((HB.out.cell (World.block_lt_of_cell? w _ hw270_2)).trans hw270_2)⟩ (fun hHeld => ?_)
          clear hK K
          refine norm_ (a' := ?_) ?_ ?_
          rotate_left
          ·show Act.put _ (some 45) _ = _
           simp only [Act.put, List.setIfInBounds_toArray, List.set_cons_zero, List.set_cons_succ, i64_w, i32_w]
           rfl
          refine pur_ 10 46 (bs 15 18431) (any_of HT_.out kR) ?_
          refine pur_ 11 47 (bs 15 20479) (any_of HT_.out kR) ?_
          refine tak_ 12 48 (bs 15 24575) (take_ofW HT_.out HW_.out kR) hHeld ?_
          refine pur_ 13 49 (bs 15 32767) (any_of HT_.out kR) ?_
          refine done_ (done_of HT_.out (by kernel_rfl)) ?_
          try go_wp2
          go_loopg [5, 50] k2 (fun kq v5 v50 w' => ∃ (a3_ : List Int) (A3_ : Option Addr) (c3_ : Nat) (x5_3 : List Int) (x50_3 : Int), v50 = .int .i64 x50_3 ∧ Aside0 (impl_Heap_shape.l2 kq x5_3 x8_2 ((rd_T45 l0_0 t269).f2) (((rd_T45 l0_0 t269).f2).length : Int) x50_3 l0_0 l0_1 l0_2 a0_3 a3_ = some r) ∧ Aside0 (kq ≤ k2) ∧ Aside0 (Kd.R (Kd.int .i64) 3 w' w.heap.size (fun k_ => some k_ ≠ ((.slice A3_ a3_.length c3_) : Value).ownBlock) v5 x5_3) ∧ Aside0 (Kd.R (Kd.int .i64) 3 w' w.heap.size (fun k_ => some k_ ≠ (v5 : Value).ownBlock) (.slice A3_ a3_.length c3_) a3_) ∧ Aside0 (w'.heap[g0]? = some (.cells #[(.slice (some ad270) l0_0.length c0_0), (.slice A0_1 l0_1.length c0_1), (.slice A0_2 l0_2.length c0_2), .int .i64 a0_3] 25 (0, 0))) ∧ Aside0 (w'.heap[gb259]? = some (.cells #[(.slice A3_ a3_.length c3_)] 23 (0, 0))) ∧ Aside0 (Below w.heap.size w w'))
          case atStart => exact ⟨a2_, (some ad268), c2_, (x5_2), (0), lF, H', ⟨Nat.le_refl _⟩, ⟨lR HO_5.out⟩, ⟨lR HO_260000.out⟩, ⟨lK BK0.out⟩, ⟨lK BK259.out⟩, ⟨lB⟩⟩
          case round =>
           clear H'
           try clear c1
           try clear c2
           try clear p2
           try clear q2
           try clear hx2
           try clear c4
           try clear c5
           try clear c6
           try clear p6
           try clear c11
           try clear c11b0
           try clear c12
           try clear c12b0
           try clear c13
           try clear c13b0
           try clear c15
           try clear c18
           try clear c18b0
           try clear c19
           try clear c19b0
           try clear c21
           try clear c21b0
           try clear c22
           try clear c22b0
           try clear c23
           try clear p26
           try clear q26
           try clear hx26
           try clear hcz10_0 hcz10_1 hcz10_2 hcz10_3
           try clear hcz24_0
           try clear hcz7_0
           try clear hfz10_0 hfz10_1 hfz10_2 hfz10_3
           try clear hfz24_0
           try clear hfz7_0
           try clear hx263_0
           try clear hx268_0
           try clear hx270_0
           try clear hx270_1
           try clear hx270_2
           try clear p2
           try clear p263
           try clear p268
           try clear p270
           try clear p6
           try clear q2
           try clear q263
           try clear q268
           try clear q270
           obtain ⟨a3_, A3_, c3_, x5_3, x50_3, rfl, HA, HK3, HO_5, HO_260000, BK0, BK259, HB⟩ := hrel
           cases gk with
           | zero => exact absurd HA.out (by simp [impl_Heap_shape.l2])
           | succ k3 =>
            have H := HA.out
            clear HA
            simp only [impl_Heap_shape.l2] at H
            by_cases c27 : x50_3 < (((rd_T45 l0_0 t269).f2).length : Int)
            ·rw [if_pos c27] at H
             have c27b0 : decide (x50_3 < (((rd_T45 l0_0 t269).f2).length : Int)) = true := decide_eq_true c27
             clear c27
             by_cases c28 : 0 ≤ x50_3
             ·rw [if_pos c28] at H
              have c28b0 : decide (0 ≤ x50_3) = true := decide_eq_true c28
              clear c28
              by_cases c29 : x50_3 < (((rd_T45 l0_0 t269).f2).length : Int)
              ·rw [if_pos c29] at H
               have c29b0 : decide (x50_3 < (((rd_T45 l0_0 t269).f2).length : Int)) = true := decide_eq_true c29
               clear c29
               replace H := lO H
               obtain ⟨⟨ta272, t272⟩, A30, H⟩ := H
               dsimp only at H
               by_cases c31 : x5_3.length < 17592186044416
               ·rw [if_pos c31] at H
                have LMc31 := Aside0.mk c31
                clear c31
                obtain ⟨y273, hy273⟩ : ∃ y_ : List Int, y_ = (x5_3 ++ [t272]) := ⟨_, rfl⟩
                replace H : (impl_Heap_shape.l2 k3 y273 x8_2 ((rd_T45 l0_0 t269).f2) (((rd_T45 l0_0 t269).f2).length : Int) (wrap64 (x50_3 + 1)) l0_0 l0_1 l0_2 a0_3 ta272) = some r := by first | (rw [hy273]; with_reducible exact H) | (have H2_ := (Option.bind_some _ _).symm.trans H; rw [hy273]; with_reducible exact H2_) | (have H2_ := (Option.bind_some _ _).symm.trans H; with_reducible exact H2_) | with_reducible exact H | (rw [hy273]; exact H) | exact H
                have Ny273 := Aside0.mk hy273
                clear hy273
                have H' := Aside0.mk H
                clear H
                have p271 : 0 ≤ (x50_3 : Int) := lD
                have q271 : x50_3 < (((rd_T45 l0_0 t269).f2).length : Int) := lD
                obtain ⟨ad271, e271, hx271_0⟩ := Kd.at_int HR270_2.out x50_3 p271 q271
                cases e271
                replace hx271_0 := pw_cell_below HB.out hx271_0
                replace p271 := eq_true p271
                replace q271 := eq_true q271
                go_wp2_with (first | (go_at_call 61; (with_reducible refine (impl_Heap_shape_1.calls k3 _ w.heap.size gb259 (A := A3_) (c := c3_) a3_ (rd ((rd_T45 l0_0 t269).f2) x50_3) u5 x5_3 ta272 t272 ?side0 ?side1 ?side2 ?side3 ?side4 A30.out).mono ?_); (case side0 => exact GE259.out); (case side1 => exact below_size lB); (case side2 => exact lK BK259.out); (case side3 => exact lR HO_260000.out); (case side4 => exact lR HO_5.out); rintro e w32 ⟨rfl, A3b_, c3b_, hbx_, hA_, hV_, hb_⟩; have n0_ := Aside0.mk hV_; have n1_ := Aside0.mk hA_; have n3_ := Aside0.mk hbx_; have n4_ := Aside0.mk (Below.trans lB hb_); have n2_ := Aside0.mk (blk_below BK00.out n4_.out); clear HO_5; clear HO_260000; clear BK0; clear BK259; clear HB; have HO_5 := n0_; have HO_260000 := n1_; have BK0 := n2_; have BK259 := n3_; have HB := n4_; clear n0_ n1_ n2_ n3_ n4_; clear hV_ hA_ hbx_ hb_) | ((with_reducible refine gate_builtin (b := .append) (xs := #[.tmp 54, .tmp 58]) rfl ?_); at_builtin; refine Kd.R_append (Kd.int .i64) (w0 := w) w.heap.size rfl (.tmp 54) (.tmp 58) 23 3 (.int .i64 0) 8 rfl Try.underlying23 info3 rfl (by decide) (by omega) u5 x5_3 t272 [.int .i64 t272] (fun k_ => some k_ ≠ (.slice A3b_ ta272.length c3b_ : Value).ownBlock) (fun _ => False) rfl rfl ?aP (fun _ hk => hk.elim) ?aF ?aO ?aB ?aS ?aL ?_; (case aP => exact rfl); (case aB => exact lB); (case aF => exact (fun k_ hk => Kd.fresh' (Kd.R_lt (lR HO_260000.out)) k_ hk)); (case aO => exact (lR HO_5.out)); (case aS => exact (below_size lB)); (case aL => have := LMc31.out; omega); intro v274 w33 ho hb hg hat; rw [← Ny273.out] at ho; have n0_ := Aside0.mk (Kd.R_after (ok := (fun _ => True)) (by (with_reducible repeat (first | apply Kd.R_alloc | apply Kd.R_drewN | apply Kd.R_drew)); exact Kd.R_mono HO_260000.out (fun _ hk => ⟨trivial, hk⟩)) hg hat); have n1_ := Aside0.mk (blk_grown (lK BK0.out) hg (Kd.R_ne HO_5.out BK0.out (by decide))); have n2_ := Aside0.mk (blk_grown (lK BK259.out) hg (Kd.R_ne HO_5.out BK259.out (by decide))); have n3_ := Aside0.mk (hb); have n4_ := Aside0.mk (ho); clear HO_260000; clear BK0; clear BK259; clear HB; clear HO_5; have HO_260000 := n0_; have BK0 := n1_; have BK259 := n2_; have HB := n3_; have HO275 := n4_; clear n0_ n1_ n2_ n3_ n4_; clear ho hb hg hat))
                go_roundg k3
                case measure => have := HK1.out; have := HK2.out; have := HK3.out; omega
                case rel => exact ⟨ta272, A3b_, c3b_, (y273), (wrap64 (x50_3 + 1)), lF, H', ⟨by have := HK1.out; have := HK2.out; have := HK3.out; omega⟩, ⟨lR HO275.out⟩, ⟨by (with_reducible repeat (first | apply Kd.R_alloc | apply Kd.R_drewN | apply Kd.R_drew)); exact Kd.R_mono HO_260000.out (fun _ hk => hk.2)⟩, ⟨lK BK0.out⟩, ⟨lK BK259.out⟩, ⟨lB⟩⟩
               ·rw [if_neg c31] at H
                exact absurd H (by simp)
              ·rw [if_neg c29] at H
               exact absurd H (by simp)
             ·rw [if_neg c28] at H
              exact absurd H (by simp)
            ·rw [if_neg c27] at H
             have c27b0 : decide (x50_3 < (((rd_T45 l0_0 t269).f2).length : Int)) = false := decide_eq_false c27
             clear c27
             have H' := Aside0.mk H
             clear H
             go_wp2
             go_roundg k3
             case measure => have := HK1.out; have := HK2.out; have := HK3.out; omega
             case rel => exact ⟨a3_, A3_, c3_, (x5_3), (wrap64 (x8_2 + 1)), lF, H', ⟨by have := HK1.out; have := HK2.out; have := HK3.out; omega⟩, ⟨lR HO_5.out⟩, ⟨lR HO_260000.out⟩, ⟨lK BK0.out⟩, ⟨lK BK259.out⟩, ⟨lB⟩⟩
         ·rw [if_neg c22] at H
          exact absurd H (by simp)
        ·rw [if_neg c21] at H
         exact absurd H (by simp)
       ·rw [if_neg c19] at H
        exact absurd H (by simp)
      ·rw [if_neg c18] at H
       have c18b0 : decide (x8_2 < (a2_.length : Int)) = false := decide_eq_false c18
       clear c18
       obtain rfl := Option.some.inj H
       have hnb34 := NB259_0.out
       have hnc34 := NB0_259.out
       obtain ⟨hcz35_0, hfz35_0⟩ := bk1 BK259.out
       first | (go_wp2; go_ret; exact ⟨_, lE, by (with_reducible repeat (first | apply Kd.R_alloc | apply Kd.R_drewN | apply Kd.R_drew)); exact Kd.R_mono HO_5.out (fun _ hk => trivial), lB⟩) | (exfalso; simp only [decide_eq_false_iff_not, decide_eq_true_eq] at *; omega)


/-! ### impl_SameShape: function 24 -/
def impl_SameShape.j0 : Nat → Bool → List (S45) → List Int → List Int → Int → List (S45) → List Int → List Int → Int → Option (Bool × Bool)
 | 0, _, _, _, _, _, _, _, _, _ => none
 | k + 1, x13, x257000, x257001, x257002, x257003, x258000, x258001, x258002, x258003 => if x13 = true then (some (false, false)) else ((impl_Heap_shape.f k x257000 x257001 x257002 x257003).bind fun t260 => ((impl_Heap_shape.f k x258000 x258001 x258002 x258003).bind fun t263 => ((slices_Equal_int_int.f k t260 t263).bind fun t266 => (some (t266, true)))))
def impl_SameShape.f (k : Nat) (l0_0 : List (S45)) (l0_1 : List Int) (l0_2 : List Int) (a0_3 : Int) (l1_0 : List (S45)) (l1_1 : List Int) (l1_2 : List Int) (a1_3 : Int) : Option (Bool × Bool) := (impl_isHeap.f k l0_0 l0_1 l0_2 a0_3).bind fun t258 => (if t258 = true then ((impl_isHeap.f k l1_0 l1_1 l1_2 a1_3).bind fun t259 => (impl_SameShape.j0 k (!t259) l0_0 l0_1 l0_2 a0_3 l1_0 l1_1 l1_2 a1_3)) else (impl_SameShape.j0 k true l0_0 l0_1 l0_2 a0_3 l1_0 l1_1 l1_2 a1_3))
theorem impl_SameShape.mono_l : ∀ k, (∀ y0 y1 y2 y3 y4 y5 y6 y7 y8, LeO (impl_SameShape.j0 k y0 y1 y2 y3 y4 y5 y6 y7 y8) (impl_SameShape.j0 (k + 1) y0 y1 y2 y3 y4 y5 y6 y7 y8))
 | 0 => fun _ _ _ _ _ _ _ _ _ r h => by simp [impl_SameShape.j0] at h
 | k + 1 => by
  have ih0 := impl_SameShape.mono_l k
  ·intro y0 y1 y2 y3 y4 y5 y6 y7 y8
   unfold impl_SameShape.j0
   repeat' first
   | with_reducible apply ih0
   | with_reducible apply impl_Heap_shape.mono
   | with_reducible apply impl_isHeap.mono
   | with_reducible apply slices_Equal_int_int.mono
   | (with_reducible exact LeO.refl _)
   | (with_reducible exact LeO.none _)
   | (with_reducible refine LeO.ite ?_ ?_)
   | (with_reducible refine LeO.bind ?_ (fun _ => ?_))
   | apply ih0
   | apply impl_Heap_shape.mono
   | apply impl_isHeap.mono
   | apply slices_Equal_int_int.mono
   | exact LeO.none _
   | refine LeO.ite ?_ ?_
   | refine LeO.bind ?_ (fun _ => ?_)
theorem impl_SameShape.mono : ∀ a0 a1 a2 a3 a4 a5 a6 a7 k, LeO (impl_SameShape.f k a0 a1 a2 a3 a4 a5 a6 a7) (impl_SameShape.f (k + 1) a0 a1 a2 a3 a4 a5 a6 a7) := by
 intro a0 a1 a2 a3 a4 a5 a6 a7 k
 have ih0 := impl_SameShape.mono_l k
 unfold impl_SameShape.f
 repeat' first
   | with_reducible apply ih0
   | with_reducible apply impl_Heap_shape.mono
   | with_reducible apply impl_isHeap.mono
   | with_reducible apply slices_Equal_int_int.mono
   | (with_reducible exact LeO.refl _)
   | (with_reducible exact LeO.none _)
   | (with_reducible refine LeO.ite ?_ ?_)
   | (with_reducible refine LeO.bind ?_ (fun _ => ?_))
   | apply ih0
   | apply impl_Heap_shape.mono
   | apply impl_isHeap.mono
   | apply slices_Equal_int_int.mono
   | exact LeO.none _
   | refine LeO.ite ?_ ?_
   | refine LeO.bind ?_ (fun _ => ?_)
set_option maxHeartbeats 8000000 in
set_option maxRecDepth 100000 in
theorem impl_SameShape.calls (k : Nat) (A0_0 : Option Addr) (c0_0 : Nat) (l0_0 : List (S45)) (A0_1 : Option Addr) (c0_1 : Nat) (l0_1 : List Int) (A0_2 : Option Addr) (c0_2 : Nat) (l0_2 : List Int) (a0_3 : Int) (A1_0 : Option Addr) (c1_0 : Nat) (l1_0 : List (S45)) (A1_1 : Option Addr) (c1_1 : Nat) (l1_1 : List Int) (A1_2 : Option Addr) (c1_2 : Nat) (l1_2 : List Int) (a1_3 : Int) (r1 : Bool) (r2 : Bool) (w : World) (hr0_0 : Kd.C k45 w A0_0 l0_0.length l0_0) (hc0_0 : l0_0.length ≤ c0_0) (hr0_1 : Kd.C (Kd.int .i64) w A0_1 l0_1.length l0_1) (hc0_1 : l0_1.length ≤ c0_1) (hr0_2 : Kd.C (Kd.int .i64) w A0_2 l0_2.length l0_2) (hc0_2 : l0_2.length ≤ c0_2) (hr1_0 : Kd.C k45 w A1_0 l1_0.length l1_0) (hc1_0 : l1_0.length ≤ c1_0) (hr1_1 : Kd.C (Kd.int .i64) w A1_1 l1_1.length l1_1) (hc1_1 : l1_1.length ≤ c1_1) (hr1_2 : Kd.C (Kd.int .i64) w A1_2 l1_2.length l1_2) (hc1_2 : l1_2.length ≤ c1_2) (h : impl_SameShape.f k l0_0 l0_1 l0_2 a0_3 l1_0 l1_1 l1_2 a1_3 = some (r1, r2)) :
  Calls Try.prog 24 #[.agg #[.slice A0_0 l0_0.length c0_0, .slice A0_1 l0_1.length c0_1, .slice A0_2 l0_2.length c0_2, .int .i64 a0_3], .agg #[.slice A1_0 l1_0.length c1_0, .slice A1_1 l1_1.length c1_1, .slice A1_2 l1_2.length c1_2, .int .i64 a1_3]] w fun e w' => e = .returned (.tuple #[.bool r1, .bool r2]) ∧ Below w.heap.size w w' := by
 have hu25 := Try.underlying25
 have HR0_0 := Aside0.mk hr0_0
 have HC0_0 := Aside0.mk hc0_0
 clear hr0_0 hc0_0
 have HR0_1 := Aside0.mk hr0_1
 have HC0_1 := Aside0.mk hc0_1
 clear hr0_1 hc0_1
 have HR0_2 := Aside0.mk hr0_2
 have HC0_2 := Aside0.mk hc0_2
 clear hr0_2 hc0_2
 have HR1_0 := Aside0.mk hr1_0
 have HC1_0 := Aside0.mk hc1_0
 clear hr1_0 hc1_0
 have HR1_1 := Aside0.mk hr1_1
 have HC1_1 := Aside0.mk hc1_1
 clear hr1_1 hc1_1
 have HR1_2 := Aside0.mk hr1_2
 have HC1_2 := Aside0.mk hc1_2
 clear hr1_2 hc1_2
 have HB := Aside0.mk (Below.refl w.heap.size w)
 have H : ((impl_isHeap.f k l0_0 l0_1 l0_2 a0_3).bind fun t258 => (if t258 = true then ((impl_isHeap.f k l1_0 l1_1 l1_2 a1_3).bind fun t259 => (impl_SameShape.j0 k (!t259) l0_0 l0_1 l0_2 a0_3 l1_0 l1_1 l1_2 a1_3)) else (impl_SameShape.j0 k true l0_0 l0_1 l0_2 a0_3 l1_0 l1_1 l1_2 a1_3))) = some (r1, r2) := h
 clear h
 have HC3 := Aside0.mk H
 clear H
 go_enter Try.func24, Try.ntmps24
 go_upto_region 1 with (first | ((with_reducible refine gate_dst (N := 2) rfl ?_); refine bxe 2 #[.slice A0_0 l0_0.length c0_0, .slice A0_1 l0_1.length c0_1, .slice A0_2 l0_2.length c0_2, .int .i64 a0_3] 25 ?_; intro gb256 hg w4 hbox hb; have n0_ := Aside0.mk (below_step lB hb); have n1_ := Aside0.mk (hbox); have n2_ := lG w hg; have n3_ := lG w hg; clear HB; have HB := n0_; have BK256 := n1_; have GW256 := n2_; have GE256 := n3_; clear n0_ n1_ n2_ n3_; clear hb hbox hg) | ((with_reducible refine gate_dst (N := 3) rfl ?_); refine bxe 3 #[.slice A1_0 l1_0.length c1_0, .slice A1_1 l1_1.length c1_1, .slice A1_2 l1_2.length c1_2, .int .i64 a1_3] 25 ?_; intro gb257 hg w5 hbox hb; have n0_ := Aside0.mk (blk_below (lK BK256.out) hb); have n1_ := Aside0.mk (below_step lB hb); have n2_ := Aside0.mk (hbox); have n3_ := lG w hg; have n4_ := lG w hg; have n5_ := Aside0.mk ((by rw [hg]; exact Nat.ne_of_lt (blk_lt (lK BK256.out)) : gb256 ≠ gb257)); have n6_ := Aside0.mk ((by rw [hg]; exact Nat.ne_of_gt (blk_lt (lK BK256.out)) : gb257 ≠ gb256)); clear BK256; clear HB; have BK256 := n0_; have HB := n1_; have BK257 := n2_; have GW257 := n3_; have GE257 := n4_; have NB256_257 := n5_; have NB257_256 := n6_; clear n0_ n1_ n2_ n3_ n4_ n5_ n6_; clear hb hbox hg))
 (try simp only [Act.put, List.setIfInBounds_toArray, List.set_cons_zero, List.set_cons_succ])
 go_cut [13] (fun v13 wc => ∃ (kq : Nat) (x13_2 : Bool), v13 = .bool x13_2 ∧ Aside0 (impl_SameShape.j0 kq x13_2 l0_0 l0_1 l0_2 a0_3 l1_0 l1_1 l1_2 a1_3 = some (r1, r2)) ∧ Aside0 (kq ≤ k) ∧ Aside0 (wc.heap[gb256]? = some (.cells #[(.slice A0_0 l0_0.length c0_0), (.slice A0_1 l0_1.length c0_1), (.slice A0_2 l0_2.length c0_2), .int .i64 a0_3] 25 (0, 0))) ∧ Aside0 (wc.heap[gb257]? = some (.cells #[(.slice A1_0 l1_0.length c1_0), (.slice A1_1 l1_1.length c1_1), (.slice A1_2 l1_2.length c1_2), .int .i64 a1_3] 25 (0, 0))) ∧ Aside0 (Below w.heap.size w wc))
 case first =>
  have H := HC3.out
  clear HC3
  replace H := lO H
  obtain ⟨t258, A6, H⟩ := H
  by_cases c7 : t258 = true
  ·subst c7
   rw [if_pos rfl] at H
   replace H := lO H
   obtain ⟨t259, A8, H⟩ := H
   have H' := Aside0.mk H
   clear H
   have hnb9 := NB256_257.out
   have hnc9 := NB257_256.out
   obtain ⟨hcz10_0, hfz10_0, hcz10_1, hfz10_1, hcz10_2, hfz10_2, hcz10_3, hfz10_3⟩ := bk4 BK256.out
   go_wp2_with (first | ((with_reducible refine gate_callee (f := 42) rfl ?_); refine gl_ (some 7) (Try.func42) #[.agg #[.slice A0_0 l0_0.length c0_0, .slice A0_1 l0_1.length c0_1, .slice A0_2 l0_2.length c0_2, .int .i64 a0_3]] ?_; (with_reducible refine (impl_isHeap.calls k _ _ l0_0 _ _ l0_1 _ _ l0_2 a0_3 true _ ?side1 ?side2 ?side3 ?side4 ?side5 ?side6 A6.out).mono ?_); (case side1 => exact lC (Kd.C_below HR0_0.out HB.out)); (case side2 => exact HC0_0.out); (case side3 => exact lC (Kd.C_below HR0_1.out HB.out)); (case side4 => exact HC0_1.out); (case side5 => exact lC (Kd.C_below HR0_2.out HB.out)); (case side6 => exact HC0_2.out); rintro e w11 ⟨rfl, hb⟩; refine ⟨_, rfl, ?_⟩; have n0_ := Aside0.mk (blk_below (lK BK256.out) hb); have n1_ := Aside0.mk (blk_below (lK BK257.out) hb); have n2_ := Aside0.mk (below_step lB hb); clear BK256; clear BK257; clear HB; have BK256 := n0_; have BK257 := n1_; have HB := n2_; clear n0_ n1_ n2_; (try clear hb); (try clear hb2); (try clear hk); (try clear hi); obtain ⟨hcz12_0, hfz12_0, hcz12_1, hfz12_1, hcz12_2, hfz12_2, hcz12_3, hfz12_3⟩ := bk4 BK257.out) | (go_at_call 42; (with_reducible refine (impl_isHeap.calls k _ _ l1_0 _ _ l1_1 _ _ l1_2 a1_3 t259 _ ?side1 ?side2 ?side3 ?side4 ?side5 ?side6 A8.out).mono ?_); (case side1 => exact lC (Kd.C_below HR1_0.out HB.out)); (case side2 => exact HC1_0.out); (case side3 => exact lC (Kd.C_below HR1_1.out HB.out)); (case side4 => exact HC1_1.out); (case side5 => exact lC (Kd.C_below HR1_2.out HB.out)); (case side6 => exact HC1_2.out); rintro e w13 ⟨rfl, hb⟩; have n0_ := Aside0.mk (blk_below (lK BK256.out) hb); have n1_ := Aside0.mk (blk_below (lK BK257.out) hb); have n2_ := Aside0.mk (below_step lB hb); clear BK256; clear BK257; clear HB; have BK256 := n0_; have BK257 := n1_; have HB := n2_; clear n0_ n1_ n2_; (try clear hb); (try clear hb2); (try clear hk); (try clear hi)))
   go_meet
   case rel => exact ⟨_, (!t259), lF, H', ⟨lN⟩, ⟨lK BK256.out⟩, ⟨lK BK257.out⟩, ⟨lB⟩⟩
  ·replace c7 := Bool.eq_false_iff.mpr c7
   subst c7
   rw [if_neg (show ¬ (false = true) by decide)] at H
   have H' := Aside0.mk H
   clear H
   have hnb14 := NB256_257.out
   have hnc14 := NB257_256.out
   obtain ⟨hcz15_0, hfz15_0, hcz15_1, hfz15_1, hcz15_2, hfz15_2, hcz15_3, hfz15_3⟩ := bk4 BK256.out
   go_wp2_with (first | ((with_reducible refine gate_callee (f := 42) rfl ?_); refine gl_ (some 7) (Try.func42) #[.agg #[.slice A0_0 l0_0.length c0_0, .slice A0_1 l0_1.length c0_1, .slice A0_2 l0_2.length c0_2, .int .i64 a0_3]] ?_; (with_reducible refine (impl_isHeap.calls k _ _ l0_0 _ _ l0_1 _ _ l0_2 a0_3 false _ ?side1 ?side2 ?side3 ?side4 ?side5 ?side6 A6.out).mono ?_); (case side1 => exact lC (Kd.C_below HR0_0.out HB.out)); (case side2 => exact HC0_0.out); (case side3 => exact lC (Kd.C_below HR0_1.out HB.out)); (case side4 => exact HC0_1.out); (case side5 => exact lC (Kd.C_below HR0_2.out HB.out)); (case side6 => exact HC0_2.out); rintro e w16 ⟨rfl, hb⟩; refine ⟨_, rfl, ?_⟩; have n0_ := Aside0.mk (blk_below (lK BK256.out) hb); have n1_ := Aside0.mk (blk_below (lK BK257.out) hb); have n2_ := Aside0.mk (below_step lB hb); clear BK256; clear BK257; clear HB; have BK256 := n0_; have BK257 := n1_; have HB := n2_; clear n0_ n1_ n2_; (try clear hb); (try clear hb2); (try clear hk); (try clear hi)))
   go_meet
   case rel => exact ⟨_, (true), lF, H', ⟨lN⟩, ⟨lK BK256.out⟩, ⟨lK BK257.out⟩, ⟨lB⟩⟩
 case rest =>
  clear HC3
  try clear c1
  try clear c2
  try clear p2
  try clear c4
  try clear c7
  try clear c9
  try clear c14
  try clear hcz10_0 hcz10_1 hcz10_2 hcz10_3
  try clear hcz12_0 hcz12_1 hcz12_2 hcz12_3
  try clear hcz15_0 hcz15_1 hcz15_2 hcz15_3
  try clear hfz10_0 hfz10_1 hfz10_2 hfz10_3
  try clear hfz12_0 hfz12_1 hfz12_2 hfz12_3
  try clear hfz15_0 hfz15_1 hfz15_2 hfz15_3
  obtain ⟨kq, x13_2, rfl, HA, HJ2, BK256, BK257, HB⟩ := hcut
  cases kq with
  | zero => exact absurd HA.out (by simp [impl_SameShape.j0])
  | succ kj2 =>
   have H := HA.out
   clear HA
   simp only [impl_SameShape.j0] at H
   by_cases c17 : x13_2 = true
   ·subst c17
    rw [if_pos rfl] at H
    simp only [Option.some.injEq, Prod.mk.injEq] at H
    obtain ⟨rfl, rfl⟩ := H
    go_wp2
    go_ret2
    exact ⟨lE, lB⟩
   ·replace c17 := Bool.eq_false_iff.mpr c17
    subst c17
    rw [if_neg (show ¬ (false = true) by decide)] at H
    replace H := lO H
    obtain ⟨t260, A18, H⟩ := H
    replace H := lO H
    obtain ⟨t263, A19, H⟩ := H
    replace H := lO H
    obtain ⟨t266, A20, H⟩ := H
    simp only [Option.some.injEq, Prod.mk.injEq] at H
    obtain ⟨rfl, rfl⟩ := H
    go_wp2_with (first | ((with_reducible refine gate_callee (f := 46) rfl ?_); refine gl_ (some 14) (Try.func46) #[.pointer (some ⟨gb256, 0, none⟩)] ?_; (with_reducible refine (impl_Heap_shape.calls kj2 gb256 A0_0 c0_0 l0_0 A0_1 c0_1 l0_1 A0_2 c0_2 l0_2 a0_3 t260 _ ?side1 ?side2 ?side3 ?side4 ?side5 ?side6 ?side7 A18.out).mono ?_); (case side1 => exact (lK BK256.out)); (case side2 => exact lC (Kd.C_below HR0_0.out HB.out)); (case side3 => exact HC0_0.out); (case side4 => exact lC (Kd.C_below HR0_1.out HB.out)); (case side5 => exact HC0_1.out); (case side6 => exact lC (Kd.C_below HR0_2.out HB.out)); (case side7 => exact HC0_2.out); rintro e w21 ⟨v261, rfl, ho0, hb⟩; refine ⟨_, rfl, ?_⟩; have n0_ := Aside0.mk (Kd.R_lower ho0 (below_size lB)); have n1_ := Aside0.mk (blk_below (lK BK256.out) hb); have n2_ := Aside0.mk (blk_below (lK BK257.out) hb); have n3_ := Aside0.mk (below_step lB hb); clear BK256; clear BK257; clear HB; have HO262 := n0_; have BK256 := n1_; have BK257 := n2_; have HB := n3_; clear n0_ n1_ n2_ n3_; (try clear hb); (try clear hb2); (try clear hk); (try clear hi); (try clear ho0)) | ((with_reducible refine gate_callee (f := 46) rfl ?_); refine gl_ (some 15) (Try.func46) #[.pointer (some ⟨gb257, 0, none⟩)] ?_; (with_reducible refine (impl_Heap_shape.calls kj2 gb257 A1_0 c1_0 l1_0 A1_1 c1_1 l1_1 A1_2 c1_2 l1_2 a1_3 t263 _ ?side1 ?side2 ?side3 ?side4 ?side5 ?side6 ?side7 A19.out).mono ?_); (case side1 => exact (lK BK257.out)); (case side2 => exact lC (Kd.C_below HR1_0.out HB.out)); (case side3 => exact HC1_0.out); (case side4 => exact lC (Kd.C_below HR1_1.out HB.out)); (case side5 => exact HC1_1.out); (case side6 => exact lC (Kd.C_below HR1_2.out HB.out)); (case side7 => exact HC1_2.out); rintro e w22 ⟨v264, rfl, ho0, hb⟩; refine ⟨_, rfl, ?_⟩; have n0_ := Aside0.mk (Kd.R_elder' (lR HO262.out) (Kd.R_base ho0) hb); have n1_ := Aside0.mk (Kd.R_lower (Kd.R_new' ho0 (Kd.R_lt (lR HO262.out))) (below_size lB)); have n2_ := Aside0.mk (blk_below (lK BK256.out) hb); have n3_ := Aside0.mk (blk_below (lK BK257.out) hb); have n4_ := Aside0.mk (below_step lB hb); clear HO262; clear BK256; clear BK257; clear HB; have HO262 := n0_; have HO265 := n1_; have BK256 := n2_; have BK257 := n3_; have HB := n4_; clear n0_ n1_ n2_ n3_ n4_; (try clear hb); (try clear hb2); (try clear hk); (try clear hi); (try clear ho0); obtain ⟨Ao23, co23, eo23⟩ := Kd.R_slice HO262.out; subst eo23; obtain ⟨Ao24, co24, eo24⟩ := Kd.R_slice HO265.out; subst eo24) | ((with_reducible refine gate_callee (f := 45) rfl ?_); refine gl_ (some 16) (Try.func45) #[.slice Ao23 t260.length co23, .slice Ao24 t263.length co24] ?_; (with_reducible refine (slices_Equal_int_int.calls kj2 _ _ t260 _ _ t263 t266 _ ?side1 ?side2 ?side3 ?side4 A20.out).mono ?_); (case side1 => repeat (first | exact (Kd.R_reads' HO262.out).2.2 | (with_reducible refine Kd.C_alloc ?_ _) | (with_reducible refine Kd.C_drewN ?_ _) | (with_reducible refine Kd.C_drew ?_))); (case side2 => exact (Kd.R_reads' HO262.out).2.1); (case side3 => repeat (first | exact (Kd.R_reads' HO265.out).2.2 | (with_reducible refine Kd.C_alloc ?_ _) | (with_reducible refine Kd.C_drewN ?_ _) | (with_reducible refine Kd.C_drew ?_))); (case side4 => exact (Kd.R_reads' HO265.out).2.1); rintro e w' ⟨rfl, ⟨nd, rfl⟩⟩; refine ⟨_, rfl, ?_⟩))
    go_ret2
    exact ⟨lE, lB⟩

end Go.Proofs.Ytnocadhibajaoaa.Q
