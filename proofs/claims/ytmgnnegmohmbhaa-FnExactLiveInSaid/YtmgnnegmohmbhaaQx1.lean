-- Written by the program wip/tools/pr.py of this claim's session, over the kit's print.py.
import Derived.Test.YtmgnnegmohmbhaaQx0
namespace Go.Proofs.Ytmgnnegmohmbhaa.Q
open Go.RowKit Go.Proofs.YtmgnnegmohmbhaaW.PrintWords Go.Proofs.YtmgnnegmohmbhaaW.PrintLast Go.Proofs.YtmgnnegmohmbhaaW.PrintMore
attribute [local go_sem] max2_int min2_int max_two min_two max_three min_three max_four min_four   -- for this text's walks alone
set_option linter.unusedVariables false
set_option linter.unusedSimpArgs false

/-! ### laws_eqIntS: function 18 -/
def laws_eqIntS.l0 : Nat → List Int → List Int → Int → Option (Bool)
 | 0, _, _, _ => none
 | k + 1, x0, x1, x5 => if x5 < (x0.length : Int) then (if 0 ≤ x5 then (if x5 < (x1.length : Int) then (if (rd x0 x5) = (rd x1 x5) then (laws_eqIntS.l0 k x0 x1 (wrap64 (x5 + 1))) else (some false)) else (none)) else (none)) else (some true)
def laws_eqIntS.f (k : Nat) (l0 : List Int) (l1 : List Int) : Option (Bool) := if (l0.length : Int) = (l1.length : Int) then (laws_eqIntS.l0 k l0 l1 0) else (some false)
theorem laws_eqIntS.mono_l : ∀ k, (∀ y0 y1 y2, LeO (laws_eqIntS.l0 k y0 y1 y2) (laws_eqIntS.l0 (k + 1) y0 y1 y2))
 | 0 => fun _ _ _ r h => by simp [laws_eqIntS.l0] at h
 | k + 1 => by
  have ih0 := laws_eqIntS.mono_l k
  ·intro y0 y1 y2
   unfold laws_eqIntS.l0
   repeat' first
   | with_reducible apply ih0
   | (with_reducible exact LeO.refl _)
   | (with_reducible exact LeO.none _)
   | (with_reducible refine LeO.ite ?_ ?_)
   | (with_reducible refine LeO.bind ?_ (fun _ => ?_))
   | apply ih0
   | exact LeO.none _
   | refine LeO.ite ?_ ?_
   | refine LeO.bind ?_ (fun _ => ?_)
theorem laws_eqIntS.mono : ∀ a0 a1 k, LeO (laws_eqIntS.f k a0 a1) (laws_eqIntS.f (k + 1) a0 a1) := by
 intro a0 a1 k
 have ih0 := laws_eqIntS.mono_l k
 unfold laws_eqIntS.f
 repeat' first
   | with_reducible apply ih0
   | (with_reducible exact LeO.refl _)
   | (with_reducible exact LeO.none _)
   | (with_reducible refine LeO.ite ?_ ?_)
   | (with_reducible refine LeO.bind ?_ (fun _ => ?_))
   | apply ih0
   | exact LeO.none _
   | refine LeO.ite ?_ ?_
   | refine LeO.bind ?_ (fun _ => ?_)
set_option maxHeartbeats 8000000 in
set_option maxRecDepth 100000 in
theorem laws_eqIntS.calls (k : Nat) (A0 : Option Addr) (c0 : Nat) (l0 : List Int) (A1 : Option Addr) (c1 : Nat) (l1 : List Int) (r : Bool) (w : World) (hr0 : Kd.C (Kd.int .i64) w A0 l0.length l0) (hc0 : l0.length ≤ c0) (hr1 : Kd.C (Kd.int .i64) w A1 l1.length l1) (hc1 : l1.length ≤ c1) (h : laws_eqIntS.f k l0 l1 = some r) :
  Calls Try.prog 18 #[.slice A0 l0.length c0, .slice A1 l1.length c1] w fun e w' => e = .returned (.bool r) ∧ Drawn0 w w' := by
 have HR0 := Aside0.mk hr0
 have HC0 := Aside0.mk hc0
 clear hr0 hc0
 have HR1 := Aside0.mk hr1
 have HC1 := Aside0.mk hc1
 clear hr1 hc1
 have H : (if (l0.length : Int) = (l1.length : Int) then (laws_eqIntS.l0 k l0 l1 0) else (some false)) = some r := h
 clear h
 by_cases c3 : (l0.length : Int) = (l1.length : Int)
 ·rw [if_pos c3] at H
  have c3b0 : ((l0.length : Int) == (l1.length : Int)) = true := beq_iff_eq.mpr c3
  have c3b1 : ((l0.length : Int) != (l1.length : Int)) = false := bne_eq_false_iff_eq.mpr c3
  have c3b2 : (l0.length == l1.length) = true := by first | simpa using c3 | (simp at c3 ⊢; omega)
  clear c3
  have H' := Aside0.mk H
  clear H
  go_enter Try.func18, Try.ntmps18
  go_wp2
  repeat (go_quiet (fail); try go_wp2)
  go_loopg [5] k (fun kq v5 w' => ∃ (x5_1 : Int), v5 = .int .i64 x5_1 ∧ Aside0 (laws_eqIntS.l0 kq l0 l1 x5_1 = some r) ∧ Aside0 (kq ≤ k) ∧ Drawn0 w w')
  case atStart => exact ⟨(0), lF, H', ⟨Nat.le_refl _⟩, by repeat (first | exact Drawn0.refl _ | apply Drawn0.step)⟩
  case round =>
   clear H'
   try clear c1
   try clear p2
   try clear c3
   try clear c3b0
   try clear c3b1
   try clear c3b2
   obtain ⟨x5_1, rfl, HA, HK1, ⟨m1, rfl⟩⟩ := hrel
   cases gk with
   | zero => exact absurd HA.out (by simp [laws_eqIntS.l0])
   | succ k1 =>
    have H := HA.out
    clear HA
    simp only [laws_eqIntS.l0] at H
    by_cases c4 : x5_1 < (l0.length : Int)
    ·rw [if_pos c4] at H
     have c4b0 : decide (x5_1 < (l0.length : Int)) = true := decide_eq_true c4
     clear c4
     by_cases c5 : 0 ≤ x5_1
     ·rw [if_pos c5] at H
      have c5b0 : decide (0 ≤ x5_1) = true := decide_eq_true c5
      clear c5
      by_cases c6 : x5_1 < (l1.length : Int)
      ·rw [if_pos c6] at H
       have c6b0 : decide (x5_1 < (l1.length : Int)) = true := decide_eq_true c6
       clear c6
       by_cases c7 : (rd l0 x5_1) = (rd l1 x5_1)
       ·rw [if_pos c7] at H
        have c7b0 : ((rd l0 x5_1) == (rd l1 x5_1)) = true := beq_iff_eq.mpr c7
        have c7b1 : ((rd l0 x5_1) != (rd l1 x5_1)) = false := bne_eq_false_iff_eq.mpr c7
        clear c7
        have H' := Aside0.mk H
        clear H
        have p101 : 0 ≤ (x5_1 : Int) := lD
        have q101 : x5_1 < (l0.length : Int) := lD
        obtain ⟨ad101, e101, hx101_0⟩ := Kd.at_int HR0.out x5_1 p101 q101
        cases e101
        replace p101 := eq_true p101
        replace q101 := eq_true q101
        have p102 : 0 ≤ (x5_1 : Int) := lD
        have q102 : x5_1 < (l1.length : Int) := lD
        obtain ⟨ad102, e102, hx102_0⟩ := Kd.at_int HR1.out x5_1 p102 q102
        cases e102
        replace p102 := eq_true p102
        replace q102 := eq_true q102
        go_wp2
        repeat (go_quiet (fail); try go_wp2)
        go_roundg k1
        case measure => have := HK1.out; omega
        case rel => exact ⟨(wrap64 (x5_1 + 1)), lF, H', ⟨by have := HK1.out; omega⟩, by repeat (first | exact Drawn0.refl _ | apply Drawn0.step)⟩
       ·rw [if_neg c7] at H
        have c7b0 : ((rd l0 x5_1) == (rd l1 x5_1)) = false := beq_eq_false_iff_ne.mpr c7
        have c7b1 : ((rd l0 x5_1) != (rd l1 x5_1)) = true := bne_iff_ne.mpr c7
        obtain rfl := Option.some.inj H
        have p101 : 0 ≤ (x5_1 : Int) := lD
        have q101 : x5_1 < (l0.length : Int) := lD
        obtain ⟨ad101, e101, hx101_0⟩ := Kd.at_int HR0.out x5_1 p101 q101
        cases e101
        replace p101 := eq_true p101
        replace q101 := eq_true q101
        have p102 : 0 ≤ (x5_1 : Int) := lD
        have q102 : x5_1 < (l1.length : Int) := lD
        obtain ⟨ad102, e102, hx102_0⟩ := Kd.at_int HR1.out x5_1 p102 q102
        cases e102
        replace p102 := eq_true p102
        replace q102 := eq_true q102
        go_wp2
        repeat (go_quiet (fail); try go_wp2)
        go_ret
        exact ⟨by first | rfl | (simp; done) | (simp [*]; done), by repeat (first | exact Drawn0.refl _ | apply Drawn0.step)⟩
      ·rw [if_neg c6] at H
       exact absurd H (by simp)
     ·rw [if_neg c5] at H
      exact absurd H (by simp)
    ·rw [if_neg c4] at H
     have c4b0 : decide (x5_1 < (l0.length : Int)) = false := decide_eq_false c4
     clear c4
     obtain rfl := Option.some.inj H
     go_wp2
     repeat (go_quiet (fail); try go_wp2)
     go_ret
     exact ⟨by first | rfl | (simp; done) | (simp [*]; done), by repeat (first | exact Drawn0.refl _ | apply Drawn0.step)⟩
 ·rw [if_neg c3] at H
  have c3b0 : ((l0.length : Int) == (l1.length : Int)) = false := beq_eq_false_iff_ne.mpr c3
  have c3b1 : ((l0.length : Int) != (l1.length : Int)) = true := bne_iff_ne.mpr c3
  have c3b2 : (l0.length == l1.length) = false := by first | simpa using c3 | (simp at c3 ⊢; omega)
  obtain rfl := Option.some.inj H
  go_enter Try.func18, Try.ntmps18
  go_wp2
  repeat (go_quiet (fail); try go_wp2)
  go_ret
  exact ⟨by first | rfl | (simp; done) | (simp [*]; done), by repeat (first | exact Drawn0.refl _ | apply Drawn0.step)⟩

/-! ### laws_eqCell: function 40 -/
def laws_eqCell.f (k : Nat) (l0_0 : List Int) (a0_1 : Int) (a0_2 : Bool) (l1_0 : List Int) (a1_1 : Int) (a1_2 : Bool) : Option (Bool) := (laws_eqIntS.f k l0_0 l1_0).bind fun t105 => (if t105 = true then (if a0_1 = a1_1 then (if (a0_2 != a1_2) = true then (some false) else (some true)) else (some false)) else (some false))
theorem laws_eqCell.mono : ∀ a0 a1 a2 a3 a4 a5 k, LeO (laws_eqCell.f k a0 a1 a2 a3 a4 a5) (laws_eqCell.f (k + 1) a0 a1 a2 a3 a4 a5) := by
 intro a0 a1 a2 a3 a4 a5 k
 unfold laws_eqCell.f
 repeat' first
   | with_reducible apply laws_eqIntS.mono
   | (with_reducible exact LeO.refl _)
   | (with_reducible exact LeO.none _)
   | (with_reducible refine LeO.ite ?_ ?_)
   | (with_reducible refine LeO.bind ?_ (fun _ => ?_))
   | apply laws_eqIntS.mono
   | exact LeO.none _
   | refine LeO.ite ?_ ?_
   | refine LeO.bind ?_ (fun _ => ?_)
set_option maxHeartbeats 8000000 in
set_option maxRecDepth 100000 in
theorem laws_eqCell.calls (k : Nat) (A0_0 : Option Addr) (c0_0 : Nat) (l0_0 : List Int) (a0_1 : Int) (a0_2 : Bool) (A1_0 : Option Addr) (c1_0 : Nat) (l1_0 : List Int) (a1_1 : Int) (a1_2 : Bool) (r : Bool) (w : World) (hr0_0 : Kd.C (Kd.int .i64) w A0_0 l0_0.length l0_0) (hc0_0 : l0_0.length ≤ c0_0) (hr1_0 : Kd.C (Kd.int .i64) w A1_0 l1_0.length l1_0) (hc1_0 : l1_0.length ≤ c1_0) (h : laws_eqCell.f k l0_0 a0_1 a0_2 l1_0 a1_1 a1_2 = some r) :
  Calls Try.prog 40 #[.agg #[.slice A0_0 l0_0.length c0_0, .int .i64 a0_1, .bool a0_2], .agg #[.slice A1_0 l1_0.length c1_0, .int .i64 a1_1, .bool a1_2]] w fun e w' => e = .returned (.bool r) ∧ Below w.heap.size w w' := by
 have hu44 := Try.underlying44
 have HR0_0 := Aside0.mk hr0_0
 have HC0_0 := Aside0.mk hc0_0
 clear hr0_0 hc0_0
 have HR1_0 := Aside0.mk hr1_0
 have HC1_0 := Aside0.mk hc1_0
 clear hr1_0 hc1_0
 have HB := Aside0.mk (Below.refl w.heap.size w)
 have H : ((laws_eqIntS.f k l0_0 l1_0).bind fun t105 => (if t105 = true then (if a0_1 = a1_1 then (if (a0_2 != a1_2) = true then (some false) else (some true)) else (some false)) else (some false))) = some r := h
 clear h
 replace H := lO H
 obtain ⟨t105, A3, H⟩ := H
 by_cases c4 : t105 = true
 ·subst c4
  rw [if_pos rfl] at H
  by_cases c5 : a0_1 = a1_1
  ·rw [if_pos c5] at H
   have c5b0 : (a0_1 == a1_1) = true := beq_iff_eq.mpr c5
   have c5b1 : (a0_1 != a1_1) = false := bne_eq_false_iff_eq.mpr c5
   clear c5
   by_cases c6 : (a0_2 != a1_2) = true
   ·rw [if_pos c6] at H
    have c6b0 : (a0_2 != a1_2) = true := c6
    (try (have c6b1 : decide (a0_2 = a1_2) = false := by simpa using c6))
    (try (have c6b2 : (a0_2 == a1_2) = false := by simpa using c6))
    (try (have c6b3 : ¬ (a0_2 = a1_2) := by simpa using c6))
    clear c6
    obtain rfl := Option.some.inj H
    go_enter Try.func40, Try.ntmps40
    go_wp2_with (first | ((with_reducible refine gate_dst (N := 2) rfl ?_); refine bxe 2 #[.slice A0_0 l0_0.length c0_0, .int .i64 a0_1, .bool a0_2] 44 ?_; intro gb103 hg w7 hbox hb; have n0_ := Aside0.mk (below_step lB hb); have n1_ := Aside0.mk (hbox); have n2_ := lG w hg; have n3_ := lG w hg; clear HB; have HB := n0_; have BK103 := n1_; have GW103 := n2_; have GE103 := n3_; clear n0_ n1_ n2_ n3_; clear hb hbox hg) | ((with_reducible refine gate_dst (N := 3) rfl ?_); refine bxe 3 #[.slice A1_0 l1_0.length c1_0, .int .i64 a1_1, .bool a1_2] 44 ?_; intro gb104 hg w8 hbox hb; have n0_ := Aside0.mk (blk_below (lK BK103.out) hb); have n1_ := Aside0.mk (below_step lB hb); have n2_ := Aside0.mk (hbox); have n3_ := lG w hg; have n4_ := lG w hg; have n5_ := Aside0.mk ((by rw [hg]; exact Nat.ne_of_lt (blk_lt (lK BK103.out)) : gb103 ≠ gb104)); have n6_ := Aside0.mk ((by rw [hg]; exact Nat.ne_of_gt (blk_lt (lK BK103.out)) : gb104 ≠ gb103)); clear BK103; clear HB; have BK103 := n0_; have HB := n1_; have BK104 := n2_; have GW104 := n3_; have GE104 := n4_; have NB103_104 := n5_; have NB104_103 := n6_; clear n0_ n1_ n2_ n3_ n4_ n5_ n6_; clear hb hbox hg; have hnb9 := NB103_104.out; have hnc9 := NB104_103.out; obtain ⟨hcz10_0, hfz10_0, hcz10_1, hfz10_1, hcz10_2, hfz10_2⟩ := bk3 BK103.out; obtain ⟨hcz11_0, hfz11_0, hcz11_1, hfz11_1, hcz11_2, hfz11_2⟩ := bk3 BK104.out) | ((with_reducible refine gate_callee (f := 18) rfl ?_); refine gl_ (some 9) (Try.func18) #[.slice A0_0 l0_0.length c0_0, .slice A1_0 l1_0.length c1_0] ?_; (with_reducible refine (laws_eqIntS.calls k _ _ l0_0 _ _ l1_0 true _ ?side1 ?side2 ?side3 ?side4 A3.out).mono ?_); (case side1 => exact lC (Kd.C_below HR0_0.out HB.out)); (case side2 => exact HC0_0.out); (case side3 => exact lC (Kd.C_below HR1_0.out HB.out)); (case side4 => exact HC1_0.out); rintro e w' ⟨rfl, ⟨nd, rfl⟩⟩; refine ⟨_, rfl, ?_⟩))
    go_ret
    exact ⟨lE, lB⟩
   ·rw [if_neg c6] at H
    have c6b0 : (a0_2 != a1_2) = false := by simpa using c6
    (try (have c6b1 : decide (a0_2 = a1_2) = true := by simpa using c6))
    (try (have c6b2 : (a0_2 == a1_2) = true := by simpa using c6))
    clear c6
    obtain rfl := Option.some.inj H
    go_enter Try.func40, Try.ntmps40
    go_wp2_with (first | ((with_reducible refine gate_dst (N := 2) rfl ?_); refine bxe 2 #[.slice A0_0 l0_0.length c0_0, .int .i64 a0_1, .bool a0_2] 44 ?_; intro gb103 hg w12 hbox hb; have n0_ := Aside0.mk (below_step lB hb); have n1_ := Aside0.mk (hbox); have n2_ := lG w hg; have n3_ := lG w hg; clear HB; have HB := n0_; have BK103 := n1_; have GW103 := n2_; have GE103 := n3_; clear n0_ n1_ n2_ n3_; clear hb hbox hg) | ((with_reducible refine gate_dst (N := 3) rfl ?_); refine bxe 3 #[.slice A1_0 l1_0.length c1_0, .int .i64 a1_1, .bool a1_2] 44 ?_; intro gb104 hg w13 hbox hb; have n0_ := Aside0.mk (blk_below (lK BK103.out) hb); have n1_ := Aside0.mk (below_step lB hb); have n2_ := Aside0.mk (hbox); have n3_ := lG w hg; have n4_ := lG w hg; have n5_ := Aside0.mk ((by rw [hg]; exact Nat.ne_of_lt (blk_lt (lK BK103.out)) : gb103 ≠ gb104)); have n6_ := Aside0.mk ((by rw [hg]; exact Nat.ne_of_gt (blk_lt (lK BK103.out)) : gb104 ≠ gb103)); clear BK103; clear HB; have BK103 := n0_; have HB := n1_; have BK104 := n2_; have GW104 := n3_; have GE104 := n4_; have NB103_104 := n5_; have NB104_103 := n6_; clear n0_ n1_ n2_ n3_ n4_ n5_ n6_; clear hb hbox hg; have hnb14 := NB103_104.out; have hnc14 := NB104_103.out; obtain ⟨hcz15_0, hfz15_0, hcz15_1, hfz15_1, hcz15_2, hfz15_2⟩ := bk3 BK103.out; obtain ⟨hcz16_0, hfz16_0, hcz16_1, hfz16_1, hcz16_2, hfz16_2⟩ := bk3 BK104.out) | ((with_reducible refine gate_callee (f := 18) rfl ?_); refine gl_ (some 9) (Try.func18) #[.slice A0_0 l0_0.length c0_0, .slice A1_0 l1_0.length c1_0] ?_; (with_reducible refine (laws_eqIntS.calls k _ _ l0_0 _ _ l1_0 true _ ?side1 ?side2 ?side3 ?side4 A3.out).mono ?_); (case side1 => exact lC (Kd.C_below HR0_0.out HB.out)); (case side2 => exact HC0_0.out); (case side3 => exact lC (Kd.C_below HR1_0.out HB.out)); (case side4 => exact HC1_0.out); rintro e w' ⟨rfl, ⟨nd, rfl⟩⟩; refine ⟨_, rfl, ?_⟩))
    go_ret
    exact ⟨lE, lB⟩
  ·rw [if_neg c5] at H
   have c5b0 : (a0_1 == a1_1) = false := beq_eq_false_iff_ne.mpr c5
   have c5b1 : (a0_1 != a1_1) = true := bne_iff_ne.mpr c5
   obtain rfl := Option.some.inj H
   go_enter Try.func40, Try.ntmps40
   go_wp2_with (first | ((with_reducible refine gate_dst (N := 2) rfl ?_); refine bxe 2 #[.slice A0_0 l0_0.length c0_0, .int .i64 a0_1, .bool a0_2] 44 ?_; intro gb103 hg w17 hbox hb; have n0_ := Aside0.mk (below_step lB hb); have n1_ := Aside0.mk (hbox); have n2_ := lG w hg; have n3_ := lG w hg; clear HB; have HB := n0_; have BK103 := n1_; have GW103 := n2_; have GE103 := n3_; clear n0_ n1_ n2_ n3_; clear hb hbox hg) | ((with_reducible refine gate_dst (N := 3) rfl ?_); refine bxe 3 #[.slice A1_0 l1_0.length c1_0, .int .i64 a1_1, .bool a1_2] 44 ?_; intro gb104 hg w18 hbox hb; have n0_ := Aside0.mk (blk_below (lK BK103.out) hb); have n1_ := Aside0.mk (below_step lB hb); have n2_ := Aside0.mk (hbox); have n3_ := lG w hg; have n4_ := lG w hg; have n5_ := Aside0.mk ((by rw [hg]; exact Nat.ne_of_lt (blk_lt (lK BK103.out)) : gb103 ≠ gb104)); have n6_ := Aside0.mk ((by rw [hg]; exact Nat.ne_of_gt (blk_lt (lK BK103.out)) : gb104 ≠ gb103)); clear BK103; clear HB; have BK103 := n0_; have HB := n1_; have BK104 := n2_; have GW104 := n3_; have GE104 := n4_; have NB103_104 := n5_; have NB104_103 := n6_; clear n0_ n1_ n2_ n3_ n4_ n5_ n6_; clear hb hbox hg; have hnb19 := NB103_104.out; have hnc19 := NB104_103.out; obtain ⟨hcz20_0, hfz20_0, hcz20_1, hfz20_1, hcz20_2, hfz20_2⟩ := bk3 BK103.out; obtain ⟨hcz21_0, hfz21_0, hcz21_1, hfz21_1, hcz21_2, hfz21_2⟩ := bk3 BK104.out) | ((with_reducible refine gate_callee (f := 18) rfl ?_); refine gl_ (some 9) (Try.func18) #[.slice A0_0 l0_0.length c0_0, .slice A1_0 l1_0.length c1_0] ?_; (with_reducible refine (laws_eqIntS.calls k _ _ l0_0 _ _ l1_0 true _ ?side1 ?side2 ?side3 ?side4 A3.out).mono ?_); (case side1 => exact lC (Kd.C_below HR0_0.out HB.out)); (case side2 => exact HC0_0.out); (case side3 => exact lC (Kd.C_below HR1_0.out HB.out)); (case side4 => exact HC1_0.out); rintro e w' ⟨rfl, ⟨nd, rfl⟩⟩; refine ⟨_, rfl, ?_⟩))
   go_ret
   exact ⟨lE, lB⟩
 ·replace c4 := Bool.eq_false_iff.mpr c4
  subst c4
  rw [if_neg (show ¬ (false = true) by decide)] at H
  obtain rfl := Option.some.inj H
  go_enter Try.func40, Try.ntmps40
  go_wp2_with (first | ((with_reducible refine gate_dst (N := 2) rfl ?_); refine bxe 2 #[.slice A0_0 l0_0.length c0_0, .int .i64 a0_1, .bool a0_2] 44 ?_; intro gb103 hg w22 hbox hb; have n0_ := Aside0.mk (below_step lB hb); have n1_ := Aside0.mk (hbox); have n2_ := lG w hg; have n3_ := lG w hg; clear HB; have HB := n0_; have BK103 := n1_; have GW103 := n2_; have GE103 := n3_; clear n0_ n1_ n2_ n3_; clear hb hbox hg) | ((with_reducible refine gate_dst (N := 3) rfl ?_); refine bxe 3 #[.slice A1_0 l1_0.length c1_0, .int .i64 a1_1, .bool a1_2] 44 ?_; intro gb104 hg w23 hbox hb; have n0_ := Aside0.mk (blk_below (lK BK103.out) hb); have n1_ := Aside0.mk (below_step lB hb); have n2_ := Aside0.mk (hbox); have n3_ := lG w hg; have n4_ := lG w hg; have n5_ := Aside0.mk ((by rw [hg]; exact Nat.ne_of_lt (blk_lt (lK BK103.out)) : gb103 ≠ gb104)); have n6_ := Aside0.mk ((by rw [hg]; exact Nat.ne_of_gt (blk_lt (lK BK103.out)) : gb104 ≠ gb103)); clear BK103; clear HB; have BK103 := n0_; have HB := n1_; have BK104 := n2_; have GW104 := n3_; have GE104 := n4_; have NB103_104 := n5_; have NB104_103 := n6_; clear n0_ n1_ n2_ n3_ n4_ n5_ n6_; clear hb hbox hg; have hnb24 := NB103_104.out; have hnc24 := NB104_103.out; obtain ⟨hcz25_0, hfz25_0, hcz25_1, hfz25_1, hcz25_2, hfz25_2⟩ := bk3 BK103.out; obtain ⟨hcz26_0, hfz26_0, hcz26_1, hfz26_1, hcz26_2, hfz26_2⟩ := bk3 BK104.out) | ((with_reducible refine gate_callee (f := 18) rfl ?_); refine gl_ (some 9) (Try.func18) #[.slice A0_0 l0_0.length c0_0, .slice A1_0 l1_0.length c1_0] ?_; (with_reducible refine (laws_eqIntS.calls k _ _ l0_0 _ _ l1_0 false _ ?side1 ?side2 ?side3 ?side4 A3.out).mono ?_); (case side1 => exact lC (Kd.C_below HR0_0.out HB.out)); (case side2 => exact HC0_0.out); (case side3 => exact lC (Kd.C_below HR1_0.out HB.out)); (case side4 => exact HC1_0.out); rintro e w' ⟨rfl, ⟨nd, rfl⟩⟩; refine ⟨_, rfl, ?_⟩))
  go_ret
  exact ⟨lE, lB⟩

/-! ### laws_eqCellS: function 26 -/
def laws_eqCellS.l0 : Nat → List (S44) → List (S44) → Int → Option (Bool)
 | 0, _, _, _ => none
 | k + 1, x0, x1, x5 => if x5 < (x0.length : Int) then (if 0 ≤ x5 then (if x5 < (x1.length : Int) then ((laws_eqCell.f k ((rd_T44 x0 x5).f0) ((rd_T44 x0 x5).f1) ((rd_T44 x0 x5).f2) ((rd_T44 x1 x5).f0) ((rd_T44 x1 x5).f1) ((rd_T44 x1 x5).f2)).bind fun t108 => (if t108 = true then (laws_eqCellS.l0 k x0 x1 (wrap64 (x5 + 1))) else (some false))) else (none)) else (none)) else (some true)
def laws_eqCellS.f (k : Nat) (l0 : List (S44)) (l1 : List (S44)) : Option (Bool) := if (l0.length : Int) = (l1.length : Int) then (laws_eqCellS.l0 k l0 l1 0) else (some false)
theorem laws_eqCellS.mono_l : ∀ k, (∀ y0 y1 y2, LeO (laws_eqCellS.l0 k y0 y1 y2) (laws_eqCellS.l0 (k + 1) y0 y1 y2))
 | 0 => fun _ _ _ r h => by simp [laws_eqCellS.l0] at h
 | k + 1 => by
  have ih0 := laws_eqCellS.mono_l k
  ·intro y0 y1 y2
   unfold laws_eqCellS.l0
   repeat' first
   | with_reducible apply ih0
   | with_reducible apply laws_eqCell.mono
   | (with_reducible exact LeO.refl _)
   | (with_reducible exact LeO.none _)
   | (with_reducible refine LeO.ite ?_ ?_)
   | (with_reducible refine LeO.bind ?_ (fun _ => ?_))
   | apply ih0
   | apply laws_eqCell.mono
   | exact LeO.none _
   | refine LeO.ite ?_ ?_
   | refine LeO.bind ?_ (fun _ => ?_)
theorem laws_eqCellS.mono : ∀ a0 a1 k, LeO (laws_eqCellS.f k a0 a1) (laws_eqCellS.f (k + 1) a0 a1) := by
 intro a0 a1 k
 have ih0 := laws_eqCellS.mono_l k
 unfold laws_eqCellS.f
 repeat' first
   | with_reducible apply ih0
   | with_reducible apply laws_eqCell.mono
   | (with_reducible exact LeO.refl _)
   | (with_reducible exact LeO.none _)
   | (with_reducible refine LeO.ite ?_ ?_)
   | (with_reducible refine LeO.bind ?_ (fun _ => ?_))
   | apply ih0
   | apply laws_eqCell.mono
   | exact LeO.none _
   | refine LeO.ite ?_ ?_
   | refine LeO.bind ?_ (fun _ => ?_)
def laws_eqCellS.T6 : Bool × List (List Nat × List Nat) := (true, [([], []), ([], []), ([0, 1], [0, 1]), ([2], [2]), ([], []), ([], []), ([4, 5], [4, 5]), ([6], [6]), ([3, 7], [3, 7]), ([8], [8])])
def laws_eqCellS.B6 : List Nat := [0, 0, 3, 7, 0, 0, 48, 112, 255, 511]
theorem laws_eqCellS.tab6 : rtab .any (opsOf Try.f26 6) = laws_eqCellS.T6 := by kernel_rfl
theorem laws_eqCellS.bits6 : waitsOk laws_eqCellS.T6.2 laws_eqCellS.B6 = true := by kernel_rfl
set_option maxHeartbeats 8000000 in
set_option maxRecDepth 100000 in
theorem laws_eqCellS.calls (k : Nat) (A0 : Option Addr) (c0 : Nat) (l0 : List (S44)) (A1 : Option Addr) (c1 : Nat) (l1 : List (S44)) (r : Bool) (w : World) (hr0 : Kd.C k44 w A0 l0.length l0) (hc0 : l0.length ≤ c0) (hr1 : Kd.C k44 w A1 l1.length l1) (hc1 : l1.length ≤ c1) (h : laws_eqCellS.f k l0 l1 = some r) :
  Calls Try.prog 26 #[.slice A0 l0.length c0, .slice A1 l1.length c1] w fun e w' => e = .returned (.bool r) ∧ Below w.heap.size w w' := by
 have hu44 := Try.underlying44
 have HR0 := Aside0.mk hr0
 have HC0 := Aside0.mk hc0
 clear hr0 hc0
 have HR1 := Aside0.mk hr1
 have HC1 := Aside0.mk hc1
 clear hr1 hc1
 have HB := Aside0.mk (Below.refl w.heap.size w)
 have H : (if (l0.length : Int) = (l1.length : Int) then (laws_eqCellS.l0 k l0 l1 0) else (some false)) = some r := h
 clear h
 by_cases c3 : (l0.length : Int) = (l1.length : Int)
 ·rw [if_pos c3] at H
  have c3b0 : ((l0.length : Int) == (l1.length : Int)) = true := beq_iff_eq.mpr c3
  have c3b1 : ((l0.length : Int) != (l1.length : Int)) = false := bne_eq_false_iff_eq.mpr c3
  have c3b2 : (l0.length == l1.length) = true := by first | simpa using c3 | (simp at c3 ⊢; omega)
  clear c3
  have H' := Aside0.mk H
  clear H
  go_enter Try.func26, Try.ntmps26
  go_wp2
  go_loopg [5] k (fun kq v5 w' => ∃ (x5_1 : Int), v5 = .int .i64 x5_1 ∧ Aside0 (laws_eqCellS.l0 kq l0 l1 x5_1 = some r) ∧ Aside0 (kq ≤ k) ∧ Aside0 (Below w.heap.size w w'))
  case atStart => exact ⟨(0), lF, H', ⟨Nat.le_refl _⟩, ⟨lB⟩⟩
  case round =>
   clear H'
   try clear c1
   try clear c2
   try clear p2
   try clear c3
   try clear c3b0
   try clear c3b1
   try clear c3b2
   obtain ⟨x5_1, rfl, HA, HK1, HB⟩ := hrel
   cases gk with
   | zero => exact absurd HA.out (by simp [laws_eqCellS.l0])
   | succ k1 =>
    have H := HA.out
    clear HA
    simp only [laws_eqCellS.l0] at H
    by_cases c4 : x5_1 < (l0.length : Int)
    ·rw [if_pos c4] at H
     have c4b0 : decide (x5_1 < (l0.length : Int)) = true := decide_eq_true c4
     clear c4
     by_cases c5 : 0 ≤ x5_1
     ·rw [if_pos c5] at H
      have c5b0 : decide (0 ≤ x5_1) = true := decide_eq_true c5
      clear c5
      by_cases c6 : x5_1 < (l1.length : Int)
      ·rw [if_pos c6] at H
       have c6b0 : decide (x5_1 < (l1.length : Int)) = true := decide_eq_true c6
       clear c6
       replace H := lO H
       obtain ⟨t108, A7, H⟩ := H
       by_cases c8 : t108 = true
       ·subst c8
        rw [if_pos rfl] at H
        have H' := Aside0.mk H
        clear H
        try go_wp2
        have n0_ := Aside0.mk (below_drew1 HB.out)
        clear HB
        have HB := n0_
        clear n0_
        have p106 : 0 ≤ (x5_1 : Int) := lD
        have q106 : x5_1 < (l0.length : Int) := lD
        obtain ⟨ad106, A106_0, c106_0, e106, hx106_0, hx106_1, hx106_2, hl106_0, hi106_0⟩ := at_T44 HR0.out x5_1 p106 q106
        have hw106_2 := hx106_2
        have hw106_1 := hx106_1
        have hw106_0 := hx106_0
        cases e106
        replace hx106_0 := pw_cell_below HB.out hx106_0
        replace hx106_1 := pw_cell_below HB.out hx106_1
        replace hx106_2 := pw_cell_below HB.out hx106_2
        have HR106_0 := Aside0.mk hi106_0
        have HC106_0 := Aside0.mk hl106_0
        clear hi106_0 hl106_0
        replace p106 := eq_true p106
        replace q106 := eq_true q106
        have p107 : 0 ≤ (x5_1 : Int) := lD
        have q107 : x5_1 < (l1.length : Int) := lD
        obtain ⟨ad107, A107_0, c107_0, e107, hx107_0, hx107_1, hx107_2, hl107_0, hi107_0⟩ := at_T44 HR1.out x5_1 p107 q107
        have hw107_2 := hx107_2
        have hw107_1 := hx107_1
        have hw107_0 := hx107_0
        cases e107
        replace hx107_0 := pw_cell_below HB.out hx107_0
        replace hx107_1 := pw_cell_below HB.out hx107_1
        replace hx107_2 := pw_cell_below HB.out hx107_2
        have HR107_0 := Aside0.mk hi107_0
        have HC107_0 := Aside0.mk hl107_0
        clear hi107_0 hl107_0
        replace p107 := eq_true p107
        replace q107 := eq_true q107
        refine start_ (n := 10) (S := fun w' => w'.cell? (ad106.add ((x5_1).toNat * 3)) = some (.slice A106_0 ((rd_T44 l0 x5_1).f0).length c106_0) ∧ w'.cell? ⟨(ad106.add ((x5_1).toNat * 3)).block, (ad106.add ((x5_1).toNat * 3)).off + 1, none⟩ = some (.int .i64 ((rd_T44 l0 x5_1).f1)) ∧ w'.cell? ⟨(ad106.add ((x5_1).toNat * 3)).block, (ad106.add ((x5_1).toNat * 3)).off + 2, none⟩ = some (.bool ((rd_T44 l0 x5_1).f2)) ∧ w'.cell? (ad107.add ((x5_1).toNat * 3)) = some (.slice A107_0 ((rd_T44 l1 x5_1).f0).length c107_0) ∧ w'.cell? ⟨(ad107.add ((x5_1).toNat * 3)).block, (ad107.add ((x5_1).toNat * 3)).off + 1, none⟩ = some (.int .i64 ((rd_T44 l1 x5_1).f1)) ∧ w'.cell? ⟨(ad107.add ((x5_1).toNat * 3)).block, (ad107.add ((x5_1).toNat * 3)).off + 2, none⟩ = some (.bool ((rd_T44 l1 x5_1).f2))) (ds := []) (bs 10 0) kR rfl kR ⟨((HB.out.cell (World.block_lt_of_cell? w _ hw106_0)).trans hw106_0), ((HB.out.cell (World.block_lt_of_cell? w _ hw106_1)).trans hw106_1), ((HB.out.cell (World.block_lt_of_cell? w _ hw106_2)).trans hw106_2), ((HB.out.cell (World.block_lt_of_cell? w _ hw107_0)).trans hw107_0), ((HB.out.cell (World.block_lt_of_cell? w _ hw107_1)).trans hw107_1), ((HB.out.cell (World.block_lt_of_cell? w _ hw107_2)).trans hw107_2)⟩ (fun hHeld => ?_); refine with_tabW laws_eqCellS.tab6 laws_eqCellS.bits6 (fun HT_ HW_ => ?_)
        generalize wr.drew = w9 at HB HR106_0 HR107_0 hx106_0 hx106_1 hx106_2 hx107_0 hx107_1 hx107_2 hHeld ⊢
        refine pur_ 0 17 (bs 10 1) (any_of HT_.out kR) ?_
        refine pur_ 1 18 (bs 10 3) (any_of HT_.out kR) ?_
        refine pur_ 2 19 (bs 10 7) (any_of HT_.out kR) ?_
        refine pur_ 4 21 (bs 10 23) (any_of HT_.out kR) ?_
        refine pur_ 5 22 (bs 10 55) (any_of HT_.out kR) ?_
        refine pur_ 6 23 (bs 10 119) (any_of HT_.out kR) ?_
        refine tak_ 3 20 (bs 10 127) (take_ofW HT_.out HW_.out kR) hHeld ?_
        refine tak_ 7 24 (bs 10 255) (take_ofW HT_.out HW_.out kR) hHeld ?_
        refine one_ (i := 8) (N := some 25) (bs 10 511) rfl rfl (one_of HT_.out (by kernel_rfl)) (by decide) (fun K hK => ?_)
        refine goes_ Try.func40 (by kernel_rfl) rfl #[.agg #[.slice A106_0 ((rd_T44 l0 x5_1).f0).length c106_0, .int .i64 ((rd_T44 l0 x5_1).f1), .bool ((rd_T44 l0 x5_1).f2)], .agg #[.slice A107_0 ((rd_T44 l1 x5_1).f0).length c107_0, .int .i64 ((rd_T44 l1 x5_1).f1), .bool ((rd_T44 l1 x5_1).f2)]] (by rfl) rfl rfl (by (try simp only [List.map_toArray, List.map_cons, List.map_nil]); first | done | rfl | (simp only [List.length_drop, List.length_take]; rfl)) ?_
        with_reducible refine (laws_eqCell.calls k1 _ _ ((rd_T44 l0 x5_1).f0) ((rd_T44 l0 x5_1).f1) ((rd_T44 l0 x5_1).f2) _ _ ((rd_T44 l1 x5_1).f0) ((rd_T44 l1 x5_1).f1) ((rd_T44 l1 x5_1).f2) true _ ?side1 ?side2 ?side3 ?side4 A7.out).mono ?_
        (case side1 => exact lC (Kd.C_below HR106_0.out HB.out))
        (case side2 => exact HC106_0.out)
        (case side3 => exact lC (Kd.C_below HR107_0.out HB.out))
        (case side4 => exact HC107_0.out)
        rintro e w10 ⟨rfl, hb⟩
        refine ⟨_, rfl, ?_⟩
        have n0_ := Aside0.mk (below_step lB hb)
        clear HB
        have HB := n0_
        clear n0_
        (try clear hb)
        (try clear hb2)
        (try clear hk)
        (try clear hi)
        refine hK.out _ _ ⟨((HB.out.cell (World.block_lt_of_cell? w _ hw106_0)).trans hw106_0), ((HB.out.cell (World.block_lt_of_cell? w _ hw106_1)).trans hw106_1), ((HB.out.cell (World.block_lt_of_cell? w _ hw106_2)).trans hw106_2), ((HB.out.cell (World.block_lt_of_cell? w _ hw107_0)).trans hw107_0), ((HB.out.cell (World.block_lt_of_cell? w _ hw107_1)).trans hw107_1), ((HB.out.cell (World.block_lt_of_cell? w _ hw107_2)).trans hw107_2)⟩ (fun hHeld => ?_)
        clear hK K
        refine norm_ (a' := ?_) ?_ ?_
        rotate_left
        ·show Act.put _ (some 25) _ = _
         simp only [Act.put, List.setIfInBounds_toArray, List.set_cons_zero, List.set_cons_succ, i64_w, i32_w]
         rfl
        refine pur_ 9 26 (bs 10 1023) (any_of HT_.out kR) ?_
        refine done_ (done_of HT_.out (by kernel_rfl)) ?_
        try go_wp2
        go_roundg k1
        case measure => have := HK1.out; omega
        case rel => exact ⟨(wrap64 (x5_1 + 1)), lF, H', ⟨by have := HK1.out; omega⟩, ⟨lB⟩⟩
       ·replace c8 := Bool.eq_false_iff.mpr c8
        subst c8
        rw [if_neg (show ¬ (false = true) by decide)] at H
        obtain rfl := Option.some.inj H
        try go_wp2
        have n0_ := Aside0.mk (below_drew1 HB.out)
        clear HB
        have HB := n0_
        clear n0_
        have p106 : 0 ≤ (x5_1 : Int) := lD
        have q106 : x5_1 < (l0.length : Int) := lD
        obtain ⟨ad106, A106_0, c106_0, e106, hx106_0, hx106_1, hx106_2, hl106_0, hi106_0⟩ := at_T44 HR0.out x5_1 p106 q106
        have hw106_2 := hx106_2
        have hw106_1 := hx106_1
        have hw106_0 := hx106_0
        cases e106
        replace hx106_0 := pw_cell_below HB.out hx106_0
        replace hx106_1 := pw_cell_below HB.out hx106_1
        replace hx106_2 := pw_cell_below HB.out hx106_2
        have HR106_0 := Aside0.mk hi106_0
        have HC106_0 := Aside0.mk hl106_0
        clear hi106_0 hl106_0
        replace p106 := eq_true p106
        replace q106 := eq_true q106
        have p107 : 0 ≤ (x5_1 : Int) := lD
        have q107 : x5_1 < (l1.length : Int) := lD
        obtain ⟨ad107, A107_0, c107_0, e107, hx107_0, hx107_1, hx107_2, hl107_0, hi107_0⟩ := at_T44 HR1.out x5_1 p107 q107
        have hw107_2 := hx107_2
        have hw107_1 := hx107_1
        have hw107_0 := hx107_0
        cases e107
        replace hx107_0 := pw_cell_below HB.out hx107_0
        replace hx107_1 := pw_cell_below HB.out hx107_1
        replace hx107_2 := pw_cell_below HB.out hx107_2
        have HR107_0 := Aside0.mk hi107_0
        have HC107_0 := Aside0.mk hl107_0
        clear hi107_0 hl107_0
        replace p107 := eq_true p107
        replace q107 := eq_true q107
        refine start_ (n := 10) (S := fun w' => w'.cell? (ad106.add ((x5_1).toNat * 3)) = some (.slice A106_0 ((rd_T44 l0 x5_1).f0).length c106_0) ∧ w'.cell? ⟨(ad106.add ((x5_1).toNat * 3)).block, (ad106.add ((x5_1).toNat * 3)).off + 1, none⟩ = some (.int .i64 ((rd_T44 l0 x5_1).f1)) ∧ w'.cell? ⟨(ad106.add ((x5_1).toNat * 3)).block, (ad106.add ((x5_1).toNat * 3)).off + 2, none⟩ = some (.bool ((rd_T44 l0 x5_1).f2)) ∧ w'.cell? (ad107.add ((x5_1).toNat * 3)) = some (.slice A107_0 ((rd_T44 l1 x5_1).f0).length c107_0) ∧ w'.cell? ⟨(ad107.add ((x5_1).toNat * 3)).block, (ad107.add ((x5_1).toNat * 3)).off + 1, none⟩ = some (.int .i64 ((rd_T44 l1 x5_1).f1)) ∧ w'.cell? ⟨(ad107.add ((x5_1).toNat * 3)).block, (ad107.add ((x5_1).toNat * 3)).off + 2, none⟩ = some (.bool ((rd_T44 l1 x5_1).f2))) (ds := []) (bs 10 0) kR rfl kR ⟨((HB.out.cell (World.block_lt_of_cell? w _ hw106_0)).trans hw106_0), ((HB.out.cell (World.block_lt_of_cell? w _ hw106_1)).trans hw106_1), ((HB.out.cell (World.block_lt_of_cell? w _ hw106_2)).trans hw106_2), ((HB.out.cell (World.block_lt_of_cell? w _ hw107_0)).trans hw107_0), ((HB.out.cell (World.block_lt_of_cell? w _ hw107_1)).trans hw107_1), ((HB.out.cell (World.block_lt_of_cell? w _ hw107_2)).trans hw107_2)⟩ (fun hHeld => ?_); refine with_tabW laws_eqCellS.tab6 laws_eqCellS.bits6 (fun HT_ HW_ => ?_)
        generalize wr.drew = w11 at HB HR106_0 HR107_0 hx106_0 hx106_1 hx106_2 hx107_0 hx107_1 hx107_2 hHeld ⊢
        refine pur_ 0 17 (bs 10 1) (any_of HT_.out kR) ?_
        refine pur_ 1 18 (bs 10 3) (any_of HT_.out kR) ?_
        refine pur_ 2 19 (bs 10 7) (any_of HT_.out kR) ?_
        refine pur_ 4 21 (bs 10 23) (any_of HT_.out kR) ?_
        refine pur_ 5 22 (bs 10 55) (any_of HT_.out kR) ?_
        refine pur_ 6 23 (bs 10 119) (any_of HT_.out kR) ?_
        refine tak_ 3 20 (bs 10 127) (take_ofW HT_.out HW_.out kR) hHeld ?_
        refine tak_ 7 24 (bs 10 255) (take_ofW HT_.out HW_.out kR) hHeld ?_
        refine one_ (i := 8) (N := some 25) (bs 10 511) rfl rfl (one_of HT_.out (by kernel_rfl)) (by decide) (fun K hK => ?_)
        refine goes_ Try.func40 (by kernel_rfl) rfl #[.agg #[.slice A106_0 ((rd_T44 l0 x5_1).f0).length c106_0, .int .i64 ((rd_T44 l0 x5_1).f1), .bool ((rd_T44 l0 x5_1).f2)], .agg #[.slice A107_0 ((rd_T44 l1 x5_1).f0).length c107_0, .int .i64 ((rd_T44 l1 x5_1).f1), .bool ((rd_T44 l1 x5_1).f2)]] (by rfl) rfl rfl (by (try simp only [List.map_toArray, List.map_cons, List.map_nil]); first | done | rfl | (simp only [List.length_drop, List.length_take]; rfl)) ?_
        with_reducible refine (laws_eqCell.calls k1 _ _ ((rd_T44 l0 x5_1).f0) ((rd_T44 l0 x5_1).f1) ((rd_T44 l0 x5_1).f2) _ _ ((rd_T44 l1 x5_1).f0) ((rd_T44 l1 x5_1).f1) ((rd_T44 l1 x5_1).f2) false _ ?side1 ?side2 ?side3 ?side4 A7.out).mono ?_
        (case side1 => exact lC (Kd.C_below HR106_0.out HB.out))
        (case side2 => exact HC106_0.out)
        (case side3 => exact lC (Kd.C_below HR107_0.out HB.out))
        (case side4 => exact HC107_0.out)
        rintro e w12 ⟨rfl, hb⟩
        refine ⟨_, rfl, ?_⟩
        have n0_ := Aside0.mk (below_step lB hb)
        clear HB
        have HB := n0_
        clear n0_
        (try clear hb)
        (try clear hb2)
        (try clear hk)
        (try clear hi)
        refine hK.out _ _ ⟨((HB.out.cell (World.block_lt_of_cell? w _ hw106_0)).trans hw106_0), ((HB.out.cell (World.block_lt_of_cell? w _ hw106_1)).trans hw106_1), ((HB.out.cell (World.block_lt_of_cell? w _ hw106_2)).trans hw106_2), ((HB.out.cell (World.block_lt_of_cell? w _ hw107_0)).trans hw107_0), ((HB.out.cell (World.block_lt_of_cell? w _ hw107_1)).trans hw107_1), ((HB.out.cell (World.block_lt_of_cell? w _ hw107_2)).trans hw107_2)⟩ (fun hHeld => ?_)
        clear hK K
        refine norm_ (a' := ?_) ?_ ?_
        rotate_left
        ·show Act.put _ (some 25) _ = _
         simp only [Act.put, List.setIfInBounds_toArray, List.set_cons_zero, List.set_cons_succ, i64_w, i32_w]
         rfl
        refine pur_ 9 26 (bs 10 1023) (any_of HT_.out kR) ?_
        refine done_ (done_of HT_.out (by kernel_rfl)) ?_
        try go_wp2
        go_ret
        exact ⟨lE, lB⟩
      ·rw [if_neg c6] at H
       exact absurd H (by simp)
     ·rw [if_neg c5] at H
      exact absurd H (by simp)
    ·rw [if_neg c4] at H
     have c4b0 : decide (x5_1 < (l0.length : Int)) = false := decide_eq_false c4
     clear c4
     obtain rfl := Option.some.inj H
     first | (go_wp2; go_ret; exact ⟨lE, lB⟩) | (exfalso; simp only [decide_eq_false_iff_not, decide_eq_true_eq] at *; omega)
 ·rw [if_neg c3] at H
  have c3b0 : ((l0.length : Int) == (l1.length : Int)) = false := beq_eq_false_iff_ne.mpr c3
  have c3b1 : ((l0.length : Int) != (l1.length : Int)) = true := bne_iff_ne.mpr c3
  have c3b2 : (l0.length == l1.length) = false := by first | simpa using c3 | (simp at c3 ⊢; omega)
  obtain rfl := Option.some.inj H
  go_enter Try.func26, Try.ntmps26
  first | (go_wp2; go_ret; exact ⟨lE, lB⟩) | (exfalso; simp only [decide_eq_false_iff_not, decide_eq_true_eq] at *; omega)

/-! ### laws_eqMarker: function 9 -/
def laws_eqMarker.f (k : Nat) (l0_0 : List (S44)) (l0_1 : List Int) (a0_2 : Bool) (l1_0 : List (S44)) (l1_1 : List Int) (a1_2 : Bool) : Option (Bool) := (laws_eqCellS.f k l0_0 l1_0).bind fun t111 => (if t111 = true then ((laws_eqIntS.f k l0_1 l1_1).bind fun t112 => (if t112 = true then (if (a0_2 != a1_2) = true then (some false) else (some true)) else (some false))) else (some false))
theorem laws_eqMarker.mono : ∀ a0 a1 a2 a3 a4 a5 k, LeO (laws_eqMarker.f k a0 a1 a2 a3 a4 a5) (laws_eqMarker.f (k + 1) a0 a1 a2 a3 a4 a5) := by
 intro a0 a1 a2 a3 a4 a5 k
 unfold laws_eqMarker.f
 repeat' first
   | with_reducible apply laws_eqCellS.mono
   | with_reducible apply laws_eqIntS.mono
   | (with_reducible exact LeO.refl _)
   | (with_reducible exact LeO.none _)
   | (with_reducible refine LeO.ite ?_ ?_)
   | (with_reducible refine LeO.bind ?_ (fun _ => ?_))
   | apply laws_eqCellS.mono
   | apply laws_eqIntS.mono
   | exact LeO.none _
   | refine LeO.ite ?_ ?_
   | refine LeO.bind ?_ (fun _ => ?_)
set_option maxHeartbeats 8000000 in
set_option maxRecDepth 100000 in
theorem laws_eqMarker.calls (k : Nat) (A0_0 : Option Addr) (c0_0 : Nat) (l0_0 : List (S44)) (A0_1 : Option Addr) (c0_1 : Nat) (l0_1 : List Int) (a0_2 : Bool) (A1_0 : Option Addr) (c1_0 : Nat) (l1_0 : List (S44)) (A1_1 : Option Addr) (c1_1 : Nat) (l1_1 : List Int) (a1_2 : Bool) (r : Bool) (w : World) (hr0_0 : Kd.C k44 w A0_0 l0_0.length l0_0) (hc0_0 : l0_0.length ≤ c0_0) (hr0_1 : Kd.C (Kd.int .i64) w A0_1 l0_1.length l0_1) (hc0_1 : l0_1.length ≤ c0_1) (hr1_0 : Kd.C k44 w A1_0 l1_0.length l1_0) (hc1_0 : l1_0.length ≤ c1_0) (hr1_1 : Kd.C (Kd.int .i64) w A1_1 l1_1.length l1_1) (hc1_1 : l1_1.length ≤ c1_1) (h : laws_eqMarker.f k l0_0 l0_1 a0_2 l1_0 l1_1 a1_2 = some r) :
  Calls Try.prog 9 #[.agg #[.slice A0_0 l0_0.length c0_0, .slice A0_1 l0_1.length c0_1, .bool a0_2], .agg #[.slice A1_0 l1_0.length c1_0, .slice A1_1 l1_1.length c1_1, .bool a1_2]] w fun e w' => e = .returned (.bool r) ∧ Below w.heap.size w w' := by
 have hu25 := Try.underlying25
 have HR0_0 := Aside0.mk hr0_0
 have HC0_0 := Aside0.mk hc0_0
 clear hr0_0 hc0_0
 have HR0_1 := Aside0.mk hr0_1
 have HC0_1 := Aside0.mk hc0_1
 clear hr0_1 hc0_1
 have HR1_0 := Aside0.mk hr1_0
 have HC1_0 := Aside0.mk hc1_0
 clear hr1_0 hc1_0
 have HR1_1 := Aside0.mk hr1_1
 have HC1_1 := Aside0.mk hc1_1
 clear hr1_1 hc1_1
 have HB := Aside0.mk (Below.refl w.heap.size w)
 have H : ((laws_eqCellS.f k l0_0 l1_0).bind fun t111 => (if t111 = true then ((laws_eqIntS.f k l0_1 l1_1).bind fun t112 => (if t112 = true then (if (a0_2 != a1_2) = true then (some false) else (some true)) else (some false))) else (some false))) = some r := h
 clear h
 replace H := lO H
 obtain ⟨t111, A3, H⟩ := H
 by_cases c4 : t111 = true
 ·subst c4
  rw [if_pos rfl] at H
  replace H := lO H
  obtain ⟨t112, A5, H⟩ := H
  by_cases c6 : t112 = true
  ·subst c6
   rw [if_pos rfl] at H
   by_cases c7 : (a0_2 != a1_2) = true
   ·rw [if_pos c7] at H
    have c7b0 : (a0_2 != a1_2) = true := c7
    (try (have c7b1 : decide (a0_2 = a1_2) = false := by simpa using c7))
    (try (have c7b2 : (a0_2 == a1_2) = false := by simpa using c7))
    (try (have c7b3 : ¬ (a0_2 = a1_2) := by simpa using c7))
    clear c7
    obtain rfl := Option.some.inj H
    go_enter Try.func9, Try.ntmps9
    go_wp2_with (first | ((with_reducible refine gate_dst (N := 2) rfl ?_); refine bxe 2 #[.slice A0_0 l0_0.length c0_0, .slice A0_1 l0_1.length c0_1, .bool a0_2] 25 ?_; intro gb109 hg w8 hbox hb; have n0_ := Aside0.mk (below_step lB hb); have n1_ := Aside0.mk (hbox); have n2_ := lG w hg; have n3_ := lG w hg; clear HB; have HB := n0_; have BK109 := n1_; have GW109 := n2_; have GE109 := n3_; clear n0_ n1_ n2_ n3_; clear hb hbox hg) | ((with_reducible refine gate_dst (N := 3) rfl ?_); refine bxe 3 #[.slice A1_0 l1_0.length c1_0, .slice A1_1 l1_1.length c1_1, .bool a1_2] 25 ?_; intro gb110 hg w9 hbox hb; have n0_ := Aside0.mk (blk_below (lK BK109.out) hb); have n1_ := Aside0.mk (below_step lB hb); have n2_ := Aside0.mk (hbox); have n3_ := lG w hg; have n4_ := lG w hg; have n5_ := Aside0.mk ((by rw [hg]; exact Nat.ne_of_lt (blk_lt (lK BK109.out)) : gb109 ≠ gb110)); have n6_ := Aside0.mk ((by rw [hg]; exact Nat.ne_of_gt (blk_lt (lK BK109.out)) : gb110 ≠ gb109)); clear BK109; clear HB; have BK109 := n0_; have HB := n1_; have BK110 := n2_; have GW110 := n3_; have GE110 := n4_; have NB109_110 := n5_; have NB110_109 := n6_; clear n0_ n1_ n2_ n3_ n4_ n5_ n6_; clear hb hbox hg; have hnb10 := NB109_110.out; have hnc10 := NB110_109.out; obtain ⟨hcz11_0, hfz11_0, hcz11_1, hfz11_1, hcz11_2, hfz11_2⟩ := bk3 BK109.out; obtain ⟨hcz12_0, hfz12_0, hcz12_1, hfz12_1, hcz12_2, hfz12_2⟩ := bk3 BK110.out) | ((with_reducible refine gate_callee (f := 26) rfl ?_); refine gl_ (some 9) (Try.func26) #[.slice A0_0 l0_0.length c0_0, .slice A1_0 l1_0.length c1_0] ?_; (with_reducible refine (laws_eqCellS.calls k _ _ l0_0 _ _ l1_0 true _ ?side1 ?side2 ?side3 ?side4 A3.out).mono ?_); (case side1 => exact lC (Kd.C_below HR0_0.out HB.out)); (case side2 => exact HC0_0.out); (case side3 => exact lC (Kd.C_below HR1_0.out HB.out)); (case side4 => exact HC1_0.out); rintro e w13 ⟨rfl, hb⟩; refine ⟨_, rfl, ?_⟩; have n0_ := Aside0.mk (blk_below (lK BK109.out) hb); have n1_ := Aside0.mk (blk_below (lK BK110.out) hb); have n2_ := Aside0.mk (below_step lB hb); clear BK109; clear BK110; clear HB; have BK109 := n0_; have BK110 := n1_; have HB := n2_; clear n0_ n1_ n2_; (try clear hb); (try clear hb2); (try clear hk); (try clear hi); obtain ⟨hcz14_0, hfz14_0, hcz14_1, hfz14_1, hcz14_2, hfz14_2⟩ := bk3 BK109.out; obtain ⟨hcz15_0, hfz15_0, hcz15_1, hfz15_1, hcz15_2, hfz15_2⟩ := bk3 BK110.out) | ((with_reducible refine gate_callee (f := 18) rfl ?_); refine gl_ (some 15) (Try.func18) #[.slice A0_1 l0_1.length c0_1, .slice A1_1 l1_1.length c1_1] ?_; (with_reducible refine (laws_eqIntS.calls k _ _ l0_1 _ _ l1_1 true _ ?side1 ?side2 ?side3 ?side4 A5.out).mono ?_); (case side1 => exact lC (Kd.C_below HR0_1.out HB.out)); (case side2 => exact HC0_1.out); (case side3 => exact lC (Kd.C_below HR1_1.out HB.out)); (case side4 => exact HC1_1.out); rintro e w' ⟨rfl, ⟨nd, rfl⟩⟩; refine ⟨_, rfl, ?_⟩))
    go_ret
    exact ⟨lE, lB⟩
   ·rw [if_neg c7] at H
    have c7b0 : (a0_2 != a1_2) = false := by simpa using c7
    (try (have c7b1 : decide (a0_2 = a1_2) = true := by simpa using c7))
    (try (have c7b2 : (a0_2 == a1_2) = true := by simpa using c7))
    clear c7
    obtain rfl := Option.some.inj H
    go_enter Try.func9, Try.ntmps9
    go_wp2_with (first | ((with_reducible refine gate_dst (N := 2) rfl ?_); refine bxe 2 #[.slice A0_0 l0_0.length c0_0, .slice A0_1 l0_1.length c0_1, .bool a0_2] 25 ?_; intro gb109 hg w16 hbox hb; have n0_ := Aside0.mk (below_step lB hb); have n1_ := Aside0.mk (hbox); have n2_ := lG w hg; have n3_ := lG w hg; clear HB; have HB := n0_; have BK109 := n1_; have GW109 := n2_; have GE109 := n3_; clear n0_ n1_ n2_ n3_; clear hb hbox hg) | ((with_reducible refine gate_dst (N := 3) rfl ?_); refine bxe 3 #[.slice A1_0 l1_0.length c1_0, .slice A1_1 l1_1.length c1_1, .bool a1_2] 25 ?_; intro gb110 hg w17 hbox hb; have n0_ := Aside0.mk (blk_below (lK BK109.out) hb); have n1_ := Aside0.mk (below_step lB hb); have n2_ := Aside0.mk (hbox); have n3_ := lG w hg; have n4_ := lG w hg; have n5_ := Aside0.mk ((by rw [hg]; exact Nat.ne_of_lt (blk_lt (lK BK109.out)) : gb109 ≠ gb110)); have n6_ := Aside0.mk ((by rw [hg]; exact Nat.ne_of_gt (blk_lt (lK BK109.out)) : gb110 ≠ gb109)); clear BK109; clear HB; have BK109 := n0_; have HB := n1_; have BK110 := n2_; have GW110 := n3_; have GE110 := n4_; have NB109_110 := n5_; have NB110_109 := n6_; clear n0_ n1_ n2_ n3_ n4_ n5_ n6_; clear hb hbox hg; have hnb18 := NB109_110.out; have hnc18 := NB110_109.out; obtain ⟨hcz19_0, hfz19_0, hcz19_1, hfz19_1, hcz19_2, hfz19_2⟩ := bk3 BK109.out; obtain ⟨hcz20_0, hfz20_0, hcz20_1, hfz20_1, hcz20_2, hfz20_2⟩ := bk3 BK110.out) | ((with_reducible refine gate_callee (f := 26) rfl ?_); refine gl_ (some 9) (Try.func26) #[.slice A0_0 l0_0.length c0_0, .slice A1_0 l1_0.length c1_0] ?_; (with_reducible refine (laws_eqCellS.calls k _ _ l0_0 _ _ l1_0 true _ ?side1 ?side2 ?side3 ?side4 A3.out).mono ?_); (case side1 => exact lC (Kd.C_below HR0_0.out HB.out)); (case side2 => exact HC0_0.out); (case side3 => exact lC (Kd.C_below HR1_0.out HB.out)); (case side4 => exact HC1_0.out); rintro e w21 ⟨rfl, hb⟩; refine ⟨_, rfl, ?_⟩; have n0_ := Aside0.mk (blk_below (lK BK109.out) hb); have n1_ := Aside0.mk (blk_below (lK BK110.out) hb); have n2_ := Aside0.mk (below_step lB hb); clear BK109; clear BK110; clear HB; have BK109 := n0_; have BK110 := n1_; have HB := n2_; clear n0_ n1_ n2_; (try clear hb); (try clear hb2); (try clear hk); (try clear hi); obtain ⟨hcz22_0, hfz22_0, hcz22_1, hfz22_1, hcz22_2, hfz22_2⟩ := bk3 BK109.out; obtain ⟨hcz23_0, hfz23_0, hcz23_1, hfz23_1, hcz23_2, hfz23_2⟩ := bk3 BK110.out) | ((with_reducible refine gate_callee (f := 18) rfl ?_); refine gl_ (some 15) (Try.func18) #[.slice A0_1 l0_1.length c0_1, .slice A1_1 l1_1.length c1_1] ?_; (with_reducible refine (laws_eqIntS.calls k _ _ l0_1 _ _ l1_1 true _ ?side1 ?side2 ?side3 ?side4 A5.out).mono ?_); (case side1 => exact lC (Kd.C_below HR0_1.out HB.out)); (case side2 => exact HC0_1.out); (case side3 => exact lC (Kd.C_below HR1_1.out HB.out)); (case side4 => exact HC1_1.out); rintro e w' ⟨rfl, ⟨nd, rfl⟩⟩; refine ⟨_, rfl, ?_⟩))
    go_ret
    exact ⟨lE, lB⟩
  ·replace c6 := Bool.eq_false_iff.mpr c6
   subst c6
   rw [if_neg (show ¬ (false = true) by decide)] at H
   obtain rfl := Option.some.inj H
   go_enter Try.func9, Try.ntmps9
   go_wp2_with (first | ((with_reducible refine gate_dst (N := 2) rfl ?_); refine bxe 2 #[.slice A0_0 l0_0.length c0_0, .slice A0_1 l0_1.length c0_1, .bool a0_2] 25 ?_; intro gb109 hg w24 hbox hb; have n0_ := Aside0.mk (below_step lB hb); have n1_ := Aside0.mk (hbox); have n2_ := lG w hg; have n3_ := lG w hg; clear HB; have HB := n0_; have BK109 := n1_; have GW109 := n2_; have GE109 := n3_; clear n0_ n1_ n2_ n3_; clear hb hbox hg) | ((with_reducible refine gate_dst (N := 3) rfl ?_); refine bxe 3 #[.slice A1_0 l1_0.length c1_0, .slice A1_1 l1_1.length c1_1, .bool a1_2] 25 ?_; intro gb110 hg w25 hbox hb; have n0_ := Aside0.mk (blk_below (lK BK109.out) hb); have n1_ := Aside0.mk (below_step lB hb); have n2_ := Aside0.mk (hbox); have n3_ := lG w hg; have n4_ := lG w hg; have n5_ := Aside0.mk ((by rw [hg]; exact Nat.ne_of_lt (blk_lt (lK BK109.out)) : gb109 ≠ gb110)); have n6_ := Aside0.mk ((by rw [hg]; exact Nat.ne_of_gt (blk_lt (lK BK109.out)) : gb110 ≠ gb109)); clear BK109; clear HB; have BK109 := n0_; have HB := n1_; have BK110 := n2_; have GW110 := n3_; have GE110 := n4_; have NB109_110 := n5_; have NB110_109 := n6_; clear n0_ n1_ n2_ n3_ n4_ n5_ n6_; clear hb hbox hg; have hnb26 := NB109_110.out; have hnc26 := NB110_109.out; obtain ⟨hcz27_0, hfz27_0, hcz27_1, hfz27_1, hcz27_2, hfz27_2⟩ := bk3 BK109.out; obtain ⟨hcz28_0, hfz28_0, hcz28_1, hfz28_1, hcz28_2, hfz28_2⟩ := bk3 BK110.out) | ((with_reducible refine gate_callee (f := 26) rfl ?_); refine gl_ (some 9) (Try.func26) #[.slice A0_0 l0_0.length c0_0, .slice A1_0 l1_0.length c1_0] ?_; (with_reducible refine (laws_eqCellS.calls k _ _ l0_0 _ _ l1_0 true _ ?side1 ?side2 ?side3 ?side4 A3.out).mono ?_); (case side1 => exact lC (Kd.C_below HR0_0.out HB.out)); (case side2 => exact HC0_0.out); (case side3 => exact lC (Kd.C_below HR1_0.out HB.out)); (case side4 => exact HC1_0.out); rintro e w29 ⟨rfl, hb⟩; refine ⟨_, rfl, ?_⟩; have n0_ := Aside0.mk (blk_below (lK BK109.out) hb); have n1_ := Aside0.mk (blk_below (lK BK110.out) hb); have n2_ := Aside0.mk (below_step lB hb); clear BK109; clear BK110; clear HB; have BK109 := n0_; have BK110 := n1_; have HB := n2_; clear n0_ n1_ n2_; (try clear hb); (try clear hb2); (try clear hk); (try clear hi); obtain ⟨hcz30_0, hfz30_0, hcz30_1, hfz30_1, hcz30_2, hfz30_2⟩ := bk3 BK109.out; obtain ⟨hcz31_0, hfz31_0, hcz31_1, hfz31_1, hcz31_2, hfz31_2⟩ := bk3 BK110.out) | ((with_reducible refine gate_callee (f := 18) rfl ?_); refine gl_ (some 15) (Try.func18) #[.slice A0_1 l0_1.length c0_1, .slice A1_1 l1_1.length c1_1] ?_; (with_reducible refine (laws_eqIntS.calls k _ _ l0_1 _ _ l1_1 false _ ?side1 ?side2 ?side3 ?side4 A5.out).mono ?_); (case side1 => exact lC (Kd.C_below HR0_1.out HB.out)); (case side2 => exact HC0_1.out); (case side3 => exact lC (Kd.C_below HR1_1.out HB.out)); (case side4 => exact HC1_1.out); rintro e w' ⟨rfl, ⟨nd, rfl⟩⟩; refine ⟨_, rfl, ?_⟩))
   go_ret
   exact ⟨lE, lB⟩
 ·replace c4 := Bool.eq_false_iff.mpr c4
  subst c4
  rw [if_neg (show ¬ (false = true) by decide)] at H
  obtain rfl := Option.some.inj H
  go_enter Try.func9, Try.ntmps9
  go_wp2_with (first | ((with_reducible refine gate_dst (N := 2) rfl ?_); refine bxe 2 #[.slice A0_0 l0_0.length c0_0, .slice A0_1 l0_1.length c0_1, .bool a0_2] 25 ?_; intro gb109 hg w32 hbox hb; have n0_ := Aside0.mk (below_step lB hb); have n1_ := Aside0.mk (hbox); have n2_ := lG w hg; have n3_ := lG w hg; clear HB; have HB := n0_; have BK109 := n1_; have GW109 := n2_; have GE109 := n3_; clear n0_ n1_ n2_ n3_; clear hb hbox hg) | ((with_reducible refine gate_dst (N := 3) rfl ?_); refine bxe 3 #[.slice A1_0 l1_0.length c1_0, .slice A1_1 l1_1.length c1_1, .bool a1_2] 25 ?_; intro gb110 hg w33 hbox hb; have n0_ := Aside0.mk (blk_below (lK BK109.out) hb); have n1_ := Aside0.mk (below_step lB hb); have n2_ := Aside0.mk (hbox); have n3_ := lG w hg; have n4_ := lG w hg; have n5_ := Aside0.mk ((by rw [hg]; exact Nat.ne_of_lt (blk_lt (lK BK109.out)) : gb109 ≠ gb110)); have n6_ := Aside0.mk ((by rw [hg]; exact Nat.ne_of_gt (blk_lt (lK BK109.out)) : gb110 ≠ gb109)); clear BK109; clear HB; have BK109 := n0_; have HB := n1_; have BK110 := n2_; have GW110 := n3_; have GE110 := n4_; have NB109_110 := n5_; have NB110_109 := n6_; clear n0_ n1_ n2_ n3_ n4_ n5_ n6_; clear hb hbox hg; have hnb34 := NB109_110.out; have hnc34 := NB110_109.out; obtain ⟨hcz35_0, hfz35_0, hcz35_1, hfz35_1, hcz35_2, hfz35_2⟩ := bk3 BK109.out; obtain ⟨hcz36_0, hfz36_0, hcz36_1, hfz36_1, hcz36_2, hfz36_2⟩ := bk3 BK110.out) | ((with_reducible refine gate_callee (f := 26) rfl ?_); refine gl_ (some 9) (Try.func26) #[.slice A0_0 l0_0.length c0_0, .slice A1_0 l1_0.length c1_0] ?_; (with_reducible refine (laws_eqCellS.calls k _ _ l0_0 _ _ l1_0 false _ ?side1 ?side2 ?side3 ?side4 A3.out).mono ?_); (case side1 => exact lC (Kd.C_below HR0_0.out HB.out)); (case side2 => exact HC0_0.out); (case side3 => exact lC (Kd.C_below HR1_0.out HB.out)); (case side4 => exact HC1_0.out); rintro e w37 ⟨rfl, hb⟩; refine ⟨_, rfl, ?_⟩; have n0_ := Aside0.mk (blk_below (lK BK109.out) hb); have n1_ := Aside0.mk (blk_below (lK BK110.out) hb); have n2_ := Aside0.mk (below_step lB hb); clear BK109; clear BK110; clear HB; have BK109 := n0_; have BK110 := n1_; have HB := n2_; clear n0_ n1_ n2_; (try clear hb); (try clear hb2); (try clear hk); (try clear hi)))
  go_ret
  exact ⟨lE, lB⟩

/-! ### laws_markIntS: function 19 -/
def laws_markIntS.l0 : Nat → List Int → Int → Int → Option (Int × List Int)
 | 0, _, _, _ => none
 | k + 1, x0, x1, x5 => if x5 < (x0.length : Int) then (if 0 ≤ x5 then (laws_markIntS.l0 k (x0.set (x5 : Int).toNat x1) (wrap64 (x1 + 1)) (wrap64 (x5 + 1))) else (none)) else (some (x1, x0))
def laws_markIntS.f (k : Nat) (l0 : List Int) (a1 : Int) : Option (Int × List Int) := laws_markIntS.l0 k l0 a1 0
theorem laws_markIntS.mono_l : ∀ k, (∀ y0 y1 y2, LeO (laws_markIntS.l0 k y0 y1 y2) (laws_markIntS.l0 (k + 1) y0 y1 y2))
 | 0 => fun _ _ _ r h => by simp [laws_markIntS.l0] at h
 | k + 1 => by
  have ih0 := laws_markIntS.mono_l k
  ·intro y0 y1 y2
   unfold laws_markIntS.l0
   repeat' first
   | with_reducible apply ih0
   | (with_reducible exact LeO.refl _)
   | (with_reducible exact LeO.none _)
   | (with_reducible refine LeO.ite ?_ ?_)
   | (with_reducible refine LeO.bind ?_ (fun _ => ?_))
   | apply ih0
   | exact LeO.none _
   | refine LeO.ite ?_ ?_
   | refine LeO.bind ?_ (fun _ => ?_)
theorem laws_markIntS.mono : ∀ a0 a1 k, LeO (laws_markIntS.f k a0 a1) (laws_markIntS.f (k + 1) a0 a1) := by
 intro a0 a1 k
 have ih0 := laws_markIntS.mono_l k
 unfold laws_markIntS.f
 repeat' first
   | with_reducible apply ih0
   | (with_reducible exact LeO.refl _)
   | (with_reducible exact LeO.none _)
   | (with_reducible refine LeO.ite ?_ ?_)
   | (with_reducible refine LeO.bind ?_ (fun _ => ?_))
   | apply ih0
   | exact LeO.none _
   | refine LeO.ite ?_ ?_
   | refine LeO.bind ?_ (fun _ => ?_)
set_option maxHeartbeats 8000000 in
set_option maxRecDepth 100000 in
theorem laws_markIntS.calls (k : Nat) (P0_ : Nat → Prop) (u9000_ : Value) (l0 : List Int) (a1 : Int) (r1 : Int) (r2 : List Int) (w0 w : World) (hB : Below w0.heap.size w0 w) (ho0 : Kd.R (Kd.int .i64) 3 w w0.heap.size P0_ u9000_ l0) (h : laws_markIntS.f k l0 a1 = some (r1, r2)) :
  Calls Try.prog 19 #[u9000_, .int .i64 a1] w fun e w' => e = .returned (.int .i64 r1) ∧ Kd.R (Kd.int .i64) 3 w' w0.heap.size (fun k_ => (P0_ k_ ∨ w.heap.size ≤ k_)) u9000_ r2 ∧ Below w0.heap.size w0 w' ∧ Kept w w' (fun k_ => P0_ k_) := by
 have HO0 := Aside0.mk (show Kd.R (Kd.int .i64) 3 w w0.heap.size (fun k_ => (P0_ k_ ∨ w.heap.size ≤ k_)) u9000_ l0 from Kd.R_mono ho0 (fun k_ hk => (.inl hk)))
 have HK := Aside0.mk (Kept.refl w (fun k_ => P0_ k_))
 have HW0 := Aside0.mk hB.size
 have HB := Aside0.mk hB
 clear hB
 have H : (laws_markIntS.l0 k l0 a1 0) = some (r1, r2) := h
 clear h
 have H' := Aside0.mk H
 clear H
 go_enter Try.func19, Try.ntmps19
 go_wp2
 go_loopg [1, 5] k (fun kq v1 v5 w' => ∃ (x0_1 : List Int) (x1_1 : Int) (x5_1 : Int), v1 = .int .i64 x1_1 ∧ v5 = .int .i64 x5_1 ∧ Aside0 (laws_markIntS.l0 kq x0_1 x1_1 x5_1 = some (r1, r2)) ∧ Aside0 (kq ≤ k) ∧ Aside0 (Kd.R (Kd.int .i64) 3 w' w0.heap.size (fun k_ => (P0_ k_ ∨ w.heap.size ≤ k_)) u9000_ x0_1) ∧ Aside0 (Kept w w' (fun k_ => P0_ k_)) ∧ Aside0 (Below w0.heap.size w0 w'))
 case atStart => exact ⟨(l0), (a1), (0), lF, lF, H', ⟨Nat.le_refl _⟩, ⟨lR HO0.out⟩, ⟨by repeat (first | (with_reducible first | exact HK.out | apply Kept.alloc | apply Kept.drewN | apply Kept.drew) | exact HK.out)⟩, ⟨lB⟩⟩
 case round =>
  clear H'
  try clear c1
  try clear p2
  obtain ⟨x0_1, x1_1, x5_1, rfl, rfl, HA, HK1, HO_0, HK, HB⟩ := hrel
  cases gk with
  | zero => exact absurd HA.out (by simp [laws_markIntS.l0])
  | succ k1 =>
   have H := HA.out
   clear HA
   simp only [laws_markIntS.l0] at H
   by_cases c3 : x5_1 < (x0_1.length : Int)
   ·rw [if_pos c3] at H
    have c3b0 : decide (x5_1 < (x0_1.length : Int)) = true := decide_eq_true c3
    clear c3
    by_cases c4 : 0 ≤ x5_1
    ·rw [if_pos c4] at H
     have c4b0 : decide (0 ≤ x5_1) = true := decide_eq_true c4
     clear c4
     obtain ⟨y113, hy113⟩ : ∃ y_ : List Int, y_ = (x0_1.set (x5_1 : Int).toNat x1_1) := ⟨_, rfl⟩
     replace H : (laws_markIntS.l0 k1 y113 (wrap64 (x1_1 + 1)) (wrap64 (x5_1 + 1))) = some (r1, r2) := by first | (rw [hy113]; with_reducible exact H) | (have H2_ := (Option.bind_some _ _).symm.trans H; rw [hy113]; with_reducible exact H2_) | (have H2_ := (Option.bind_some _ _).symm.trans H; with_reducible exact H2_) | with_reducible exact H | (rw [hy113]; exact H) | exact H
     have Ny113 := Aside0.mk hy113
     clear hy113
     have H' := Aside0.mk H
     clear H
     obtain ⟨Ao6, co6, eo6⟩ := Kd.R_slice HO_0.out
     subst eo6
     have p5 : 0 ≤ (x5_1 : Int) := lD
     have q5 : (x5_1 : Int) < ((x0_1.length : Int) : Int) := lD
     obtain ⟨go5, co5, eo5, gb5, gl5, cl5, HG5⟩ := Kd.R_form HO_0.out (by omega)
     (first | cases eo5 | (injection eo5 with ea_ en_ ec_; (first | subst ea_ | (injection ea_ with ea_; subst ea_)); subst ec_; clear en_))
     have GB5 := Aside0.mk gb5
     have GG5 := Aside0.mk HG5
     clear gb5 gl5 HG5
     have HMgo5 := Aside0.mk (show (P0_ go5 ∨ w.heap.size ≤ go5) from (HO_0.out.1 _ rfl))
     obtain ⟨hx5_0, hf5_0⟩ := Kd.R_celln 0 HO_0.out (x5_1 : Int) p5 q5
     replace p5 := eq_true p5
     replace q5 := eq_true q5
     have HP7 := Kd.R_putg HO_0.out (x5_1 : Int) x1_1
     go_wp2_with (first | ((with_reducible refine gate_store (t := 3) (p := 15) rfl ?_); refine store_event (t := 3) (p := 15) (v := ?vo_w8) (w1 := (wr.setCell ⟨go5, (x5_1 : Int).toNat, none⟩ (.int .i64 x1_1))) ?hg ?ho ?hn ?hr ?_; (case ho => rfl); (case hg => rfl); (case hn => rfl); (case hr => first | (go_simp; done) | (go_simp; rfl)); intro w8 hw; have hg : wr.grownBy w8 (some go5) := (by rw [hw]; exact HP7.2); have hp_ : Kd.R (Kd.int .i64) 3 w8 w0.heap.size (fun k_ => (P0_ k_ ∨ w.heap.size ≤ k_)) (.slice (some ⟨go5, 0, none⟩) x0_1.length co6) y113 := (by rw [hw, Ny113.out]; exact HP7.1); clear HP7; have n0_ := Aside0.mk (hp_); have n1_ := Aside0.mk ((by rw [hw]; exact below_set (HB.out) GB5.out : Below w0.heap.size w0 w8)); have n2_ := Aside0.mk (Kept.of_grown (S := (fun k_ => P0_ k_)) hg (by repeat (first | (with_reducible first | exact HK.out | apply Kept.alloc | apply Kept.drewN | apply Kept.drew) | exact HK.out)) (fun k_ e_ => (HO_0.out.1 k_ e_))); clear HO_0; clear HB; clear HK; have HO_0 := n0_; have HB := n1_; have HK := n2_; clear n0_ n1_ n2_; clear hg hw hp_))
     go_roundg k1
     case measure => have := HK1.out; omega
     case rel => exact ⟨(y113), (wrap64 (x1_1 + 1)), (wrap64 (x5_1 + 1)), lF, lF, H', ⟨by have := HK1.out; omega⟩, ⟨lR HO_0.out⟩, ⟨by repeat (first | (with_reducible first | exact HK.out | apply Kept.alloc | apply Kept.drewN | apply Kept.drew) | exact HK.out)⟩, ⟨lB⟩⟩
    ·rw [if_neg c4] at H
     exact absurd H (by simp)
   ·rw [if_neg c3] at H
    have c3b0 : decide (x5_1 < (x0_1.length : Int)) = false := decide_eq_false c3
    clear c3
    simp only [Option.some.injEq, Prod.mk.injEq] at H
    obtain ⟨rfl, rfl⟩ := H
    obtain ⟨Ao9, co9, eo9⟩ := Kd.R_slice HO_0.out
    subst eo9
    first | (go_wp2; go_ret; exact ⟨lE, lR HO_0.out, lB, by repeat (first | (with_reducible first | exact HK.out | apply Kept.alloc | apply Kept.drewN | apply Kept.drew) | exact HK.out)⟩) | (exfalso; simp only [decide_eq_false_iff_not, decide_eq_true_eq] at *; omega)

/-! ### laws_markCellS: function 27 -/
theorem markIntS_l0_ : ∀ (post pre : List Int) (n : Int), pre.length + post.length < 4611686018427387904 → 0 ≤ n → n + post.length < 4611686018427387904 →
    Ev (fun k => laws_markIntS.l0 k (pre ++ post) n (pre.length : Int)) (n + post.length, pre ++ Kit.from_ n post.length)
  | [], pre, n, hb, h0, hn => by
    refine Ev.step (fun k => by simp only [laws_markIntS.l0]; rw [if_neg (by simp)]) ?_
    simpa [Kit.from_] using Ev.now _
  | x :: post, pre, n, hb, h0, hn => by
    have ih := markIntS_l0_ post (pre ++ [n]) (n + 1) (by simp at hb ⊢; omega) (by omega) (by simp at hn ⊢; omega)
    refine Ev.step (fun k => by
      simp only [laws_markIntS.l0]
      rw [if_pos (by simp; omega), if_pos (by omega), Int.toNat_natCast, Kit.set_at rfl, Kit.w_succ (by simp at hb; omega), Kit.w64 (x := n + 1) (by omega) (by simp at hn; omega)]) ?_
    have e : n + 1 + (post.length : Int) = n + ((x :: post).length : Int) := by simp; omega
    rw [e] at ih
    simpa [Kit.from_] using ih
theorem markIntS_flat (l : List Int) (n : Int) (hb : l.length < 2305843009213693952) (h0 : 0 ≤ n) (hn : n < 2305843009213693952) : Ev (fun k => laws_markIntS.f k l n) (n + l.length, Kit.from_ n l.length) := by
  have h := markIntS_l0_ l [] n (by simp; omega) h0 (by omega)
  unfold laws_markIntS.f
  simpa using h
def markCellS_one (n : Int) (x : S44) : S44 := ⟨(Kit.from_ n x.f0.length), (n + x.f0.length), (decide ((((n + x.f0.length) + 1)) % 3 = 0))⟩
def markCellS_cnt1 (x : S44) : Nat := x.f0.length + 1 + 1
def markCellS_cnt : List S44 → Nat
  | [] => 0
  | x :: xs => markCellS_cnt1 x + markCellS_cnt xs
def markCellS_mk (n : Int) : List S44 → List S44
  | [] => []
  | x :: xs => markCellS_one n x :: markCellS_mk (n + markCellS_cnt1 x) xs
theorem markCellS_mk_length : ∀ (n : Int) (l : List S44), (markCellS_mk n l).length = l.length
  | _, [] => rfl
  | n, x :: xs => by simp [markCellS_mk, markCellS_mk_length _ xs]
theorem markCellS_mk_snoc : ∀ (n : Int) (l : List S44) (x : S44), markCellS_mk n (l ++ [x]) = markCellS_mk n l ++ [markCellS_one (n + markCellS_cnt l) x]
  | n, [], x => by simp [markCellS_mk, markCellS_cnt]
  | n, y :: ys, x => by
    simp only [List.cons_append, markCellS_mk, markCellS_cnt, markCellS_mk_snoc _ ys x]
    rw [show n + (markCellS_cnt1 y : Nat) + (markCellS_cnt ys : Nat) = n + ((markCellS_cnt1 y + markCellS_cnt ys : Nat) : Int) by omega]
theorem markCellS_cnt_snoc : ∀ (l : List S44) (x : S44), markCellS_cnt (l ++ [x]) = markCellS_cnt l + markCellS_cnt1 x
  | [], x => by simp [markCellS_cnt]
  | y :: ys, x => by simp only [List.cons_append, markCellS_cnt, markCellS_cnt_snoc ys x]; omega
theorem markCellS_cnt_app : ∀ (l r : List S44), markCellS_cnt (l ++ r) = markCellS_cnt l + markCellS_cnt r
  | [], r => by simp [markCellS_cnt]
  | y :: ys, r => by simp only [List.cons_append, markCellS_cnt, markCellS_cnt_app ys r]; omega
open Mk in
set_option maxHeartbeats 1600000 in
set_option maxRecDepth 100000 in
theorem laws_markCellS.calls (P0_ : Nat → Prop) (u9000_ : Value) (l0 : List S44) (a1 : Int) (w0 w : World) (hB : Below w0.heap.size w0 w) (ho0 : Kd.S k44 44 w w0.heap.size P0_ u9000_ l0) (hn0 : 0 ≤ a1) (hn1 : a1 + (markCellS_cnt l0 : Nat) < 2305843009213693952) :
    Calls Try.prog 27 #[u9000_, .int .i64 a1] w fun e w' => e = .returned (.int .i64 (a1 + (markCellS_cnt l0 : Nat))) ∧ Kd.S k44 44 w' w0.heap.size P0_ u9000_ (markCellS_mk a1 l0) ∧ Below w0.heap.size w0 w' ∧ Kept w w' P0_ := by
  have hu44 := Try.underlying44
  obtain ⟨A0, c0, rfl⟩ := Kd.S_slice ho0
  have hlen : l0.length ≤ 9223372036854775807 := (Kd.S_reads' ho0).2.2.2.1
  have HS0 := Aside0.mk ho0
  have HB0 := Aside0.mk hB
  clear ho0 hB
  go_enter Try.func27, Try.ntmps27
  go_wp2
  go_loopg [1, 5] l0.length (fun gg v1 v5 wr => ∃ pre post : List S44, v1 = .int .i64 (a1 + (markCellS_cnt pre : Nat)) ∧ v5 = .int .i64 (pre.length : Int) ∧ Aside0 (l0 = pre ++ post) ∧ post.length ≤ gg ∧ Aside0 (Kd.S k44 44 wr w0.heap.size P0_ (.slice A0 l0.length c0) (markCellS_mk a1 pre ++ post)) ∧ Aside0 (Below w0.heap.size w0 wr) ∧ Aside0 (Kept w wr P0_))
  case atStart => exact ⟨[], l0, by simp [markCellS_cnt], rfl, ⟨rfl⟩, Nat.le_refl _, ⟨by simpa [markCellS_mk] using HS0.out⟩, ⟨HB0.out⟩, ⟨Kept.refl _ _⟩⟩
  case round =>
    obtain ⟨pre, post, rfl, rfl, HL, hg, HS, HB, HK⟩ := hrel
    have hnl : l0.length = pre.length + post.length := by rw [HL.out]; simp
    have hcl : markCellS_cnt l0 = markCellS_cnt pre + markCellS_cnt post := by rw [HL.out, markCellS_cnt_app]
    cases post with
    | nil =>
      have hd0 : decide (pre.length < l0.length) = false := by simp at hnl; simp [hnl]
      have hle : (l0.length : Int) ≤ (pre.length : Int) := by simp at hnl; omega
      have HF := Aside0.mk (show a1 + (markCellS_cnt pre : Nat) = a1 + (markCellS_cnt l0 : Nat) by simp [markCellS_cnt] at hcl; rw [hcl])
      have HM := Aside0.mk (show markCellS_mk a1 pre = markCellS_mk a1 l0 by rw [HL.out, List.append_nil])
      clear hnl hcl
      go_wp2
      go_ret
      exact ⟨by rw [← HF.out]; rfl, by have h_ := HS.out; rwa [List.append_nil, HM.out] at h_, HB.out, HK.out⟩
    | cons x post =>
      simp only [List.length_cons] at hnl hg
      simp only [markCellS_cnt] at hcl
      have hn2 : a1 + (markCellS_cnt pre : Nat) + (markCellS_cnt1 x : Nat) < 2305843009213693952 := by omega
      have hx2 := hn2
      simp only [markCellS_cnt1] at hx2
      have hlt : pre.length < l0.length := by omega
      have hltz : (pre.length : Int) < (l0.length : Int) := by omega
      have hd0 : decide (pre.length < l0.length) = true := decide_eq_true hlt
      obtain ⟨ad_, hA_⟩ : ∃ ad_, A0 = some ad_ := by
        obtain ⟨ad, hA, _⟩ := (Kd.S_reads' HS.out).2.2.2.2 (by simp [markCellS_mk_length] <;> omega)
        exact ⟨ad, hA⟩
      subst hA_
      obtain ⟨g, hg_⟩ := Kd.R_head (Kd.S_R HS.out)
      subst hg_
      have hx_ : (markCellS_mk a1 pre ++ x :: post).getD pre.length z44 = x := Kit.getD_at (by rw [markCellS_mk_length])
      obtain ⟨v_, hHo⟩ := hole_open (di := (Kd.int .i64)) (ei := 3) (ys := x.f0) z44 x (fun v_ => [v_, .int .i64 x.f1, .bool x.f2]) HS.out HB.out HK.out hlt hx_ (fun _ _ _ hM => k44_openM hM)
      clear hx_ HS HB HK hnl
      have HH := Aside0.mk hHo
      have HCL := Aside0.mk hcl
      clear hHo hcl
      obtain ⟨hx0, hf0⟩ := hole_cells (sz := 3) rfl HH.out 0 _ rfl
      obtain ⟨hx1, hf1⟩ := hole_cells (sz := 3) rfl HH.out 1 _ rfl
      obtain ⟨hx2, hf2⟩ := hole_cells (sz := 3) rfl HH.out 2 _ rfl
      simp only [Nat.mul_one, Nat.add_zero] at hx0 hf0 hx1 hf1 hx2 hf2
      obtain ⟨kf_, hf_⟩ := Ev.rounds (markIntS_flat x.f0 (a1 + (markCellS_cnt pre : Nat)) (by omega) (by omega) (by omega))
      have HF_ := Aside0.mk hf_
      clear hf_
      have hcall_ := hole_call HH.out (fun oki hb_ hr_ => (laws_markIntS.calls kf_ oki v_ x.f0 (a1 + (markCellS_cnt pre : Nat)) _ _ w0 _ hb_ hr_ HF_.out)) rfl
      clear HH
      go_wp2_with fail
      refine hcall_.mono ?_
      rintro e_ w2 ⟨rfl, hH2_⟩
      clear hcall_ HF_
      clear hx0 hf0 hx1 hf1 hx2 hf2
      have HH := Aside0.mk hH2_
      clear hH2_
      obtain ⟨hx0, hf0⟩ := hole_cells (sz := 3) rfl HH.out 0 _ rfl
      obtain ⟨hx1, hf1⟩ := hole_cells (sz := 3) rfl HH.out 1 _ rfl
      obtain ⟨hx2, hf2⟩ := hole_cells (sz := 3) rfl HH.out 2 _ rfl
      simp only [Nat.mul_one, Nat.add_zero] at hx0 hf0 hx1 hf1 hx2 hf2
      have hH2_ := hole_store (sz := 3) rfl HH.out 1 (by decide) (.int .i64 (a1 + (markCellS_cnt pre : Nat) + (x.f0.length : Nat))) rfl
      simp only [Nat.mul_one, Nat.add_zero, List.set] at hH2_
      clear HH
      have HH := Aside0.mk hH2_
      clear hH2_
      have hH2_ := hole_store (sz := 3) rfl HH.out 2 (by decide) (.bool (decide ((a1 + (markCellS_cnt pre : Nat) + (x.f0.length : Nat) + 1) % 3 = 0))) rfl
      simp only [Nat.mul_one, Nat.add_zero, List.set] at hH2_
      clear HH
      have HH := Aside0.mk hH2_
      clear hH2_
      have hcl_ := hole_close HH.out (markCellS_one (a1 + (markCellS_cnt pre : Nat)) x) (fun _ _ hr_ => k44_mkM _ _ _ _ hr_)
      clear HH
      have HS2 := Aside0.mk hcl_.1
      have HB2 := Aside0.mk hcl_.2.1
      have HK2 := Aside0.mk hcl_.2.2
      clear hcl_
      have HE := Aside0.mk (show a1 + (markCellS_cnt (pre ++ [x]) : Nat) = a1 + (markCellS_cnt pre : Nat) + (x.f0.length : Nat) + 1 + 1 by rw [markCellS_cnt_snoc]; simp only [markCellS_cnt1]; omega)
      have HX := Aside0.mk (show (markCellS_mk a1 pre ++ x :: post).set pre.length (markCellS_one (a1 + (markCellS_cnt pre : Nat)) x) = markCellS_mk a1 (pre ++ [x]) ++ post by rw [Kit.set_at (by rw [markCellS_mk_length]), markCellS_mk_snoc]; simp)
      have HL2 := Aside0.mk (show l0 = (pre ++ [x]) ++ post by rw [HL.out]; simp)
      clear hn2 HL HCL
      go_wp2_with fail
      go_roundg post.length
      case measure => omega
      case rel => exact ⟨pre ++ [x], post, by rw [HE.out], by simp, HL2, Nat.le_refl _, ⟨by have h_ := HS2.out; rwa [HX.out] at h_⟩, HB2, HK2⟩

/-! ### laws_markMarker: function 10 -/
open Mk in
set_option maxHeartbeats 1600000 in
set_option maxRecDepth 100000 in
theorem laws_markMarker.calls (P0_ : Nat → Prop) (u9000_ : Value) (l0_0 : List (S44)) (u9001_ : Value) (l0_1 : List Int) (a0_2 : Bool) (a1 : Int) (w0 w : World) (hB : Below w0.heap.size w0 w) (ho0_0 : Kd.S k44 44 w w0.heap.size (fun k_ => (P0_ k_) ∧ (some k_ ≠ (u9001_ : Value).ownBlock)) u9000_ l0_0) (ho0_1 : Kd.R (Kd.int .i64) 3 w w0.heap.size (fun k_ => (P0_ k_) ∧ some k_ = (u9001_ : Value).ownBlock ∧ (True)) u9001_ l0_1) (hn0 : 0 ≤ a1) (hn1 : a1 + (markCellS_cnt l0_0 : Nat) + (l0_1.length : Nat) < 2305843009213693952) :
    Calls Try.prog 10 #[.agg #[u9000_, u9001_, .bool a0_2], .int .i64 a1] w fun e w' => e = .returned (.int .i64 (a1 + (markCellS_cnt l0_0 : Nat) + (l0_1.length : Nat))) ∧ Kd.S k44 44 w' w0.heap.size (fun k_ => (P0_ k_) ∧ (some k_ ≠ (u9001_ : Value).ownBlock)) u9000_ (markCellS_mk (a1) l0_0) ∧ Kd.R (Kd.int .i64) 3 w' w0.heap.size (fun k_ => (P0_ k_) ∧ some k_ = (u9001_ : Value).ownBlock ∧ (True)) u9001_ (Kit.from_ (a1 + (markCellS_cnt l0_0 : Nat)) l0_1.length) ∧ Below w0.heap.size w0 w' ∧ Kept w w' P0_ := by
  have hu25 := Try.underlying25
  have F0 : Aside0 (Kd.S k44 44 w w0.heap.size (fun k_ => (P0_ k_ ∧ k_ < w.heap.size) ∧ (some k_ ≠ (u9001_ : Value).ownBlock)) u9000_ l0_0) := ⟨Kd.S_mono (Kd.S_bound ho0_0) (fun k_ hk => ⟨⟨hk.1.1, hk.2.2.1⟩, hk.1.2⟩)⟩
  clear ho0_0
  have F1 : Aside0 (Kd.R (Kd.int .i64) 3 w w0.heap.size (fun k_ => (P0_ k_ ∧ k_ < w.heap.size) ∧ some k_ = (u9001_ : Value).ownBlock ∧ (True)) u9001_ l0_1) := ⟨Kd.R_mono (Kd.R_bound ho0_1) (fun k_ hk => ⟨⟨hk.1.1, hk.2.2.1⟩, hk.1.2⟩)⟩
  clear ho0_1
  obtain ⟨A0, c0, e_⟩ := Kd.S_slice F0.out
  subst e_
  obtain ⟨A1, c1, e_⟩ := Kd.R_slice F1.out
  subst e_
  have HN := Aside0.mk hn1
  have HB := Aside0.mk hB
  have HZ0 := Aside0.mk hB.size
  have HK := Aside0.mk (Kept.refl w P0_)
  clear hB hn1
  go_enter Try.func10, Try.ntmps10
  go_wp2_with (first | ((with_reducible refine gate_dst (N := 2) rfl ?_); refine bxe 2 #[.slice A0 l0_0.length c0, .slice A1 l0_1.length c1, .bool a0_2] 25 ?_; intro gb hg_ wb hx_ hb; have hg2_ : gb = w.heap.size := hg_; have hb2_ : Below w.heap.size w wb := ⟨hb.os, hb.tape, hb.output, hb.size, hb.block⟩; replace F0 := Aside0.mk (Kd.S_below F0.out hb2_); replace F1 := Aside0.mk (Kd.R_below F1.out hb2_); replace HB := Aside0.mk (below_then HB.out HZ0.out hb2_); replace HK := Aside0.mk (Kept.below HK.out hb2_); have BK := Aside0.mk hx_; have GQ := Aside0.mk (show w.heap.size ≤ gb from Nat.le_of_eq hg2_.symm); clear hb hb2_ hg_ hg2_ hx_; have hcz_0 : wb.cell? ⟨gb, 0, none⟩ = some (.slice A0 l0_0.length c0) := bZ BK.out 0; have hfz_0 := blk_frozen BK.out 0; have hcz_1 : wb.cell? ⟨gb, 1, none⟩ = some (.slice A1 l0_1.length c1) := bZ BK.out 1; have hfz_1 := blk_frozen BK.out 1; have hcz_2 : wb.cell? ⟨gb, 2, none⟩ = some (.bool a0_2) := bZ BK.out 2; have hfz_2 := blk_frozen BK.out 2))
  refine (laws_markCellS.calls (fun k_ => (P0_ k_ ∧ k_ < w.heap.size) ∧ (some k_ ≠ (.slice A1 l0_1.length c1 : Value).ownBlock)) _ l0_0 (a1) w0 _ HB.out F0.out (by omega) (by have := HN.out; omega)).mono ?_
  rintro e_ w1 ⟨rfl, f_, hb0_, hk_⟩
  replace F1 := Aside0.mk (Kd.R_kept F1.out hk_ (fun k_ h1_ h2_ => h2_.2 h1_.2.1))
  have hn_ := Aside0.mk (f_)
  clear F0 f_
  have F0 := hn_
  clear hn_
  have hn_ := Aside0.mk (blk_kept BK.out hk_ (fun h_ => by have h1_ := h_.1.2; have := GQ.out; omega))
  clear hcz_0 hfz_0 hcz_1 hfz_1 hcz_2 hfz_2
  clear BK
  have BK := hn_
  clear hn_
  have hn_ := Aside0.mk (Kept.then_ HK.out hk_ (fun k_ h_ => .inl h_.1.1))
  clear HK HB
  have HK := hn_
  have HB := Aside0.mk hb0_
  clear hn_ hk_ hb0_
  have hcz_0 : w1.cell? ⟨gb, 0, none⟩ = some (.slice A0 l0_0.length c0) := bZ BK.out 0; have hfz_0 := blk_frozen BK.out 0; have hcz_1 : w1.cell? ⟨gb, 1, none⟩ = some (.slice A1 l0_1.length c1) := bZ BK.out 1; have hfz_1 := blk_frozen BK.out 1; have hcz_2 : w1.cell? ⟨gb, 2, none⟩ = some (.bool a0_2) := bZ BK.out 2; have hfz_2 := blk_frozen BK.out 2
  go_wp2_with fail
  obtain ⟨kf_, hf_⟩ := Ev.rounds (markIntS_flat l0_1 (a1 + (markCellS_cnt l0_0 : Nat)) (by have := HN.out; omega) (by omega) (by have := HN.out; omega))
  have HF_ := Aside0.mk hf_
  clear hf_
  refine (laws_markIntS.calls kf_ (fun k_ => (P0_ k_ ∧ k_ < w.heap.size) ∧ some k_ = (.slice A1 l0_1.length c1 : Value).ownBlock ∧ (True)) _ l0_1 (a1 + (markCellS_cnt l0_0 : Nat)) _ _ w0 _ HB.out F1.out HF_.out).mono ?_
  rintro e_ w2 ⟨rfl, f_, hb0_, hk_⟩
  clear HF_
  replace F0 := Aside0.mk (Kd.S_kept F0.out hk_ (fun k_ h1_ h2_ => h1_.2 h2_.2.1))
  have hn_ := Aside0.mk (Kd.R_mono (Kd.R_tight rfl f_) (fun k_ e_ => F1.out.1 k_ e_.symm))
  clear F1 f_
  have F1 := hn_
  clear hn_
  have hn_ := Aside0.mk (blk_kept BK.out hk_ (fun h_ => by have h1_ := h_.1.2; have := GQ.out; omega))
  clear hcz_0 hfz_0 hcz_1 hfz_1 hcz_2 hfz_2
  clear BK
  have BK := hn_
  clear hn_
  have hn_ := Aside0.mk (Kept.then_ HK.out hk_ (fun k_ h_ => .inl h_.1.1))
  clear HK HB
  have HK := hn_
  have HB := Aside0.mk hb0_
  clear hn_ hk_ hb0_
  have hcz_0 : w2.cell? ⟨gb, 0, none⟩ = some (.slice A0 l0_0.length c0) := bZ BK.out 0; have hfz_0 := blk_frozen BK.out 0; have hcz_1 : w2.cell? ⟨gb, 1, none⟩ = some (.slice A1 l0_1.length c1) := bZ BK.out 1; have hfz_1 := blk_frozen BK.out 1; have hcz_2 : w2.cell? ⟨gb, 2, none⟩ = some (.bool a0_2) := bZ BK.out 2; have hfz_2 := blk_frozen BK.out 2
  go_wp2_with fail
  go_ret
  exact ⟨rfl, Kd.S_mono F0.out (fun k_ hk => ⟨hk.1.1, hk.2⟩), Kd.R_mono F1.out (fun k_ hk => ⟨hk.1.1, hk.2⟩), HB.out, HK.out⟩

end Go.Proofs.Ytmgnnegmohmbhaa.Q
