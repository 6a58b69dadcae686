-- Written by the program wip/tools/pr.py of this claim's session, over the kit's print.py.
import Derived.Test.YtpnhlccdhflogaaQx0
import Derived.Test.YtpnhlccdhflogaaQx1
import Derived.Test.YtpnhlccdhflogaaQx3
import Derived.Test.YtpnhlccdhflogaaQx4
namespace Go.Proofs.Ytpnhlccdhflogaa.Q
open Go.RowKit Go.Proofs.YtpnhlccdhflogaaW.PrintWords Go.Proofs.YtpnhlccdhflogaaW.PrintLast Go.Proofs.YtpnhlccdhflogaaW.PrintMore
attribute [local go_sem] max2_int min2_int max_two min_two max_three min_three max_four min_four   -- for this text's walks alone
set_option linter.unusedVariables false
set_option linter.unusedSimpArgs false

/-! ### impl_straight: function 67 -/
def impl_straight.l0 : Nat → List Int → Int → List (S48) → Int → Int → Option (Int)
 | 0, _, _, _, _, _ => none
 | k + 1, x1, x5, x9, x10, x11 => if x11 < x10 then (if 0 ≤ x11 then (if x11 < (x9.length : Int) then ((slices_Index_int_int.f k x1 ((rd_T48 x9 x11).f0)).bind fun t157 => (if (wrap64 (t157 + 1)) < (x1.length : Int) then (if 0 ≤ (wrap64 (t157 + 1)) then (if (rd x1 (wrap64 (t157 + 1))) = ((rd_T48 x9 x11).f1) then (impl_straight.l0 k x1 (wrap64 (x5 + ((rd_T48 x9 x11).f2))) x9 x10 (wrap64 (x11 + 1))) else (impl_straight.l0 k x1 x5 x9 x10 (wrap64 (x11 + 1)))) else (none)) else (impl_straight.l0 k x1 x5 x9 x10 (wrap64 (x11 + 1))))) else (none)) else (none)) else (some x5)
def impl_straight.f (k : Nat) (l0 : List (S48)) (l1 : List Int) : Option (Int) := impl_straight.l0 k l1 0 l0 (l0.length : Int) 0
theorem impl_straight.mono_l : ∀ k, (∀ y0 y1 y2 y3 y4, LeO (impl_straight.l0 k y0 y1 y2 y3 y4) (impl_straight.l0 (k + 1) y0 y1 y2 y3 y4))
 | 0 => fun _ _ _ _ _ r h => by simp [impl_straight.l0] at h
 | k + 1 => by
  have ih0 := impl_straight.mono_l k
  ·intro y0 y1 y2 y3 y4
   unfold impl_straight.l0
   repeat' first
   | with_reducible apply ih0
   | with_reducible apply slices_Index_int_int.mono
   | (with_reducible exact LeO.refl _)
   | (with_reducible exact LeO.none _)
   | (with_reducible refine LeO.ite ?_ ?_)
   | (with_reducible refine LeO.bind ?_ (fun _ => ?_))
   | apply ih0
   | apply slices_Index_int_int.mono
   | exact LeO.none _
   | refine LeO.ite ?_ ?_
   | refine LeO.bind ?_ (fun _ => ?_)
theorem impl_straight.mono : ∀ a0 a1 k, LeO (impl_straight.f k a0 a1) (impl_straight.f (k + 1) a0 a1) := by
 intro a0 a1 k
 have ih0 := impl_straight.mono_l k
 unfold impl_straight.f
 repeat' first
   | with_reducible apply ih0
   | with_reducible apply slices_Index_int_int.mono
   | (with_reducible exact LeO.refl _)
   | (with_reducible exact LeO.none _)
   | (with_reducible refine LeO.ite ?_ ?_)
   | (with_reducible refine LeO.bind ?_ (fun _ => ?_))
   | apply ih0
   | apply slices_Index_int_int.mono
   | exact LeO.none _
   | refine LeO.ite ?_ ?_
   | refine LeO.bind ?_ (fun _ => ?_)
set_option maxHeartbeats 8000000 in
set_option maxRecDepth 100000 in
theorem impl_straight.calls (k : Nat) (A0 : Option Addr) (c0 : Nat) (l0 : List (S48)) (A1 : Option Addr) (c1 : Nat) (l1 : List Int) (r : Int) (w : World) (hr0 : Kd.C k48 w A0 l0.length l0) (hc0 : l0.length ≤ c0) (hr1 : Kd.C (Kd.int .i64) w A1 l1.length l1) (hc1 : l1.length ≤ c1) (h : impl_straight.f k l0 l1 = some r) :
  Calls Try.prog 67 #[.slice A0 l0.length c0, .slice A1 l1.length c1] w fun e w' => e = .returned (.int .i64 r) ∧ Below w.heap.size w w' := by
 have hu48 := Try.underlying48
 have HR0 := Aside0.mk hr0
 have HC0 := Aside0.mk hc0
 clear hr0 hc0
 have HR1 := Aside0.mk hr1
 have HC1 := Aside0.mk hc1
 clear hr1 hc1
 have HB := Aside0.mk (Below.refl w.heap.size w)
 have H : (impl_straight.l0 k l1 0 l0 (l0.length : Int) 0) = some r := h
 clear h
 have H' := Aside0.mk H
 clear H
 go_enter Try.func67, Try.ntmps67
 go_wp2
 repeat (go_quiet (fail); try go_wp2)
 go_loopg [5, 11] k (fun kq v5 v11 w' => ∃ (x5_1 : Int) (x11_1 : Int), v5 = .int .i64 x5_1 ∧ v11 = .int .i64 x11_1 ∧ Aside0 (impl_straight.l0 kq l1 x5_1 l0 (l0.length : Int) x11_1 = some r) ∧ Aside0 (kq ≤ k) ∧ Aside0 (Below w.heap.size w w'))
 case atStart => exact ⟨(0), (0), lF, lF, H', ⟨Nat.le_refl _⟩, ⟨lB⟩⟩
 case round =>
  clear H'
  try clear c1
  try clear p2
  obtain ⟨x5_1, x11_1, rfl, rfl, HA, HK1, HB⟩ := hrel
  cases gk with
  | zero => exact absurd HA.out (by simp [impl_straight.l0])
  | succ k1 =>
   have H := HA.out
   clear HA
   simp only [impl_straight.l0] at H
   by_cases c3 : x11_1 < (l0.length : Int)
   ·rw [if_pos c3] at H
    have c3b0 : decide (x11_1 < (l0.length : Int)) = true := decide_eq_true c3
    clear c3
    by_cases c4 : 0 ≤ x11_1
    ·rw [if_pos c4] at H
     have c4b0 : decide (0 ≤ x11_1) = true := decide_eq_true c4
     clear c4
     by_cases c5 : x11_1 < (l0.length : Int)
     ·rw [if_pos c5] at H
      have c5b0 : decide (x11_1 < (l0.length : Int)) = true := decide_eq_true c5
      clear c5
      replace H := lO H
      obtain ⟨t157, A6, H⟩ := H
      by_cases c7 : (wrap64 (t157 + 1)) < (l1.length : Int)
      ·rw [if_pos c7] at H
       have c7b0 : decide ((wrap64 (t157 + 1)) < (l1.length : Int)) = true := decide_eq_true c7
       clear c7
       obtain ⟨ji8, hji8⟩ : ∃ j_ : Int, (wrap64 (t157 + 1)) = j_ := ⟨_, rfl⟩
       replace H : (if 0 ≤ (ji8) then (if (rd l1 (ji8)) = ((rd_T48 l0 x11_1).f1) then (impl_straight.l0 k1 l1 (wrap64 (x5_1 + ((rd_T48 l0 x11_1).f2))) l0 (l0.length : Int) (wrap64 (x11_1 + 1))) else (impl_straight.l0 k1 l1 x5_1 l0 (l0.length : Int) (wrap64 (x11_1 + 1)))) else (none)) = some r := by first | (rw [hji8] at H; exact H) | (simp only [hji8] at H ⊢; exact H)
       (try rw [hji8] at c7b0)
       (try rw [hji8] at A6)
       have hji8w : (IntKind.i64.wrap (t157 + 1)) = ji8 := (i64_w _).trans hji8
       by_cases c9 : 0 ≤ (ji8)
       ·rw [if_pos c9] at H
        have c9b0 : decide (0 ≤ (ji8)) = true := decide_eq_true c9
        clear c9
        by_cases c10 : (rd l1 (ji8)) = ((rd_T48 l0 x11_1).f1)
        ·rw [if_pos c10] at H
         have c10b0 : ((rd l1 (ji8)) == ((rd_T48 l0 x11_1).f1)) = true := beq_iff_eq.mpr c10
         have c10b1 : ((rd l1 (ji8)) != ((rd_T48 l0 x11_1).f1)) = false := bne_eq_false_iff_eq.mpr c10
         clear c10
         have H' := Aside0.mk H
         clear H
         have p155 : 0 ≤ (x11_1 : Int) := lD
         have q155 : x11_1 < (l0.length : Int) := lD
         obtain ⟨ad155, e155, hx155_0, hx155_1, hx155_2⟩ := at_T48 HR0.out x11_1 p155 q155
         cases e155
         replace hx155_0 := pw_cell_below HB.out hx155_0
         replace hx155_1 := pw_cell_below HB.out hx155_1
         replace hx155_2 := pw_cell_below HB.out hx155_2
         replace p155 := eq_true p155
         replace q155 := eq_true q155
         go_wp2_with (first | ((with_reducible refine gate_dst (N := 7) rfl ?_); refine bxe 7 #[.int .i64 0, .int .i64 0, .int .i64 0] 48 ?_; intro gb156 hg w11 hbox hb; have n0_ := Aside0.mk (below_step lB hb); have n1_ := Aside0.mk (hbox); have n2_ := lG w hg; have n3_ := lG w hg; clear HB; have HB := n0_; have BK156 := n1_; have GW156 := n2_; have GE156 := n3_; clear n0_ n1_ n2_ n3_; clear hb hbox hg; obtain ⟨hcz12_0, hfz12_0, hcz12_1, hfz12_1, hcz12_2, hfz12_2⟩ := bk3 BK156.out) | (go_at_call 79; (with_reducible refine (slices_Index_int_int.calls k1 _ _ l1 ((rd_T48 l0 x11_1).f0) t157 _ ?side1 ?side2 A6.out).mono ?_); (case side1 => exact Kd.C_below HR1.out lB); (case side2 => exact HC1.out); rintro e w' ⟨rfl, ⟨nd, rfl⟩⟩; (try first | exact ⟨rfl, _, World.drewN_drewN _ _ _⟩ | exact ⟨rfl, _, Eq.trans (World.drewN_drewN _ _ _) (congrArg (World.drewN _) (Nat.add_assoc _ _ _))⟩)))
         have p158 : 0 ≤ ((ji8) : Int) := lD; have q158 : (ji8) < (l1.length : Int) := lD; obtain ⟨ad158, e158, hx158_0⟩ := Kd.at_int HR1.out (ji8) p158 q158; cases e158; have hn158_0 : ad158.block ≠ gb156 := Nat.ne_of_lt (Nat.lt_of_lt_of_le (by have := World.block_lt_of_cell? _ _ hx158_0; first | rwa [add_block] at this | exact this) GW156.out); have hn158_1 : ad158.block ≠ gb156 := Nat.ne_of_lt (Nat.lt_of_lt_of_le (by have := World.block_lt_of_cell? _ _ hx158_0; first | rwa [add_block] at this | exact this) GW156.out); have hn158_2 : ad158.block ≠ gb156 := Nat.ne_of_lt (Nat.lt_of_lt_of_le (by have := World.block_lt_of_cell? _ _ hx158_0; first | rwa [add_block] at this | exact this) GW156.out); replace hx158_0 := pw_cell_below HB.out hx158_0; replace hx158_0 := (cell_far (p := ⟨gb156, 0, none⟩) (by first | (rw [add_block]; exact hn158_0) | (show (Addr.add _ _).block ≠ _; rw [add_block]; exact hn158_0) | exact hn158_0) (.int .i64 ((rd_T48 l0 x11_1).f0))).trans hx158_0; replace hx158_0 := (cell_far (p := ⟨gb156, 1, none⟩) (by first | (rw [add_block]; exact hn158_1) | (show (Addr.add _ _).block ≠ _; rw [add_block]; exact hn158_1) | exact hn158_1) (.int .i64 ((rd_T48 l0 x11_1).f1))).trans hx158_0; replace hx158_0 := (cell_far (p := ⟨gb156, 2, none⟩) (by first | (rw [add_block]; exact hn158_2) | (show (Addr.add _ _).block ≠ _; rw [add_block]; exact hn158_2) | exact hn158_2) (.int .i64 ((rd_T48 l0 x11_1).f2))).trans hx158_0; (try have hy158_0 := fun (n_ : Nat) => (show (((((w11.drewN n_).setCell ⟨gb156, 0, none⟩ (.int .i64 ((rd_T48 l0 x11_1).f0))).setCell ⟨gb156, 1, none⟩ (.int .i64 ((rd_T48 l0 x11_1).f1))).setCell ⟨gb156, 2, none⟩ (.int .i64 ((rd_T48 l0 x11_1).f2)))).cell? _ = some _ from hx158_0)); clear hn158_0; clear hn158_1; clear hn158_2; replace p158 := eq_true p158; replace q158 := eq_true q158
         repeat (go_quiet (first | (go_at_call 79; (with_reducible refine (slices_Index_int_int.calls k1 _ _ l1 ((rd_T48 l0 x11_1).f0) t157 _ ?side1 ?side2 A6.out).mono ?_); (case side1 => exact Kd.C_below HR1.out lB); (case side2 => exact HC1.out); rintro e w' ⟨rfl, ⟨nd, rfl⟩⟩; (try first | exact ⟨rfl, _, World.drewN_drewN _ _ _⟩ | exact ⟨rfl, _, Eq.trans (World.drewN_drewN _ _ _) (congrArg (World.drewN _) (Nat.add_assoc _ _ _))⟩))); try go_wp2_with (first | ((with_reducible refine gate_dst (N := 7) rfl ?_); refine bxe 7 #[.int .i64 0, .int .i64 0, .int .i64 0] 48 ?_; intro gb156 hg w11 hbox hb; have n0_ := Aside0.mk (below_step lB hb); have n1_ := Aside0.mk (hbox); have n2_ := lG w hg; have n3_ := lG w hg; clear HB; have HB := n0_; have BK156 := n1_; have GW156 := n2_; have GE156 := n3_; clear n0_ n1_ n2_ n3_; clear hb hbox hg; obtain ⟨hcz12_0, hfz12_0, hcz12_1, hfz12_1, hcz12_2, hfz12_2⟩ := bk3 BK156.out) | (go_at_call 79; (with_reducible refine (slices_Index_int_int.calls k1 _ _ l1 ((rd_T48 l0 x11_1).f0) t157 _ ?side1 ?side2 A6.out).mono ?_); (case side1 => exact Kd.C_below HR1.out lB); (case side2 => exact HC1.out); rintro e w' ⟨rfl, ⟨nd, rfl⟩⟩; (try first | exact ⟨rfl, _, World.drewN_drewN _ _ _⟩ | exact ⟨rfl, _, Eq.trans (World.drewN_drewN _ _ _) (congrArg (World.drewN _) (Nat.add_assoc _ _ _))⟩))))
         go_roundg k1
         case measure => have := HK1.out; omega
         case rel => exact ⟨(wrap64 (x5_1 + ((rd_T48 l0 x11_1).f2))), (wrap64 (x11_1 + 1)), lF, lF, H', ⟨by have := HK1.out; omega⟩, ⟨lB⟩⟩
        ·rw [if_neg c10] at H
         have c10b0 : ((rd l1 (ji8)) == ((rd_T48 l0 x11_1).f1)) = false := beq_eq_false_iff_ne.mpr c10
         have c10b1 : ((rd l1 (ji8)) != ((rd_T48 l0 x11_1).f1)) = true := bne_iff_ne.mpr c10
         have H' := Aside0.mk H
         clear H
         have p155 : 0 ≤ (x11_1 : Int) := lD
         have q155 : x11_1 < (l0.length : Int) := lD
         obtain ⟨ad155, e155, hx155_0, hx155_1, hx155_2⟩ := at_T48 HR0.out x11_1 p155 q155
         cases e155
         replace hx155_0 := pw_cell_below HB.out hx155_0
         replace hx155_1 := pw_cell_below HB.out hx155_1
         replace hx155_2 := pw_cell_below HB.out hx155_2
         replace p155 := eq_true p155
         replace q155 := eq_true q155
         go_wp2_with (first | ((with_reducible refine gate_dst (N := 7) rfl ?_); refine bxe 7 #[.int .i64 0, .int .i64 0, .int .i64 0] 48 ?_; intro gb156 hg w13 hbox hb; have n0_ := Aside0.mk (below_step lB hb); have n1_ := Aside0.mk (hbox); have n2_ := lG w hg; have n3_ := lG w hg; clear HB; have HB := n0_; have BK156 := n1_; have GW156 := n2_; have GE156 := n3_; clear n0_ n1_ n2_ n3_; clear hb hbox hg; obtain ⟨hcz14_0, hfz14_0, hcz14_1, hfz14_1, hcz14_2, hfz14_2⟩ := bk3 BK156.out) | (go_at_call 79; (with_reducible refine (slices_Index_int_int.calls k1 _ _ l1 ((rd_T48 l0 x11_1).f0) t157 _ ?side1 ?side2 A6.out).mono ?_); (case side1 => exact Kd.C_below HR1.out lB); (case side2 => exact HC1.out); rintro e w' ⟨rfl, ⟨nd, rfl⟩⟩; (try first | exact ⟨rfl, _, World.drewN_drewN _ _ _⟩ | exact ⟨rfl, _, Eq.trans (World.drewN_drewN _ _ _) (congrArg (World.drewN _) (Nat.add_assoc _ _ _))⟩)))
         have p158 : 0 ≤ ((ji8) : Int) := lD; have q158 : (ji8) < (l1.length : Int) := lD; obtain ⟨ad158, e158, hx158_0⟩ := Kd.at_int HR1.out (ji8) p158 q158; cases e158; have hn158_0 : ad158.block ≠ gb156 := Nat.ne_of_lt (Nat.lt_of_lt_of_le (by have := World.block_lt_of_cell? _ _ hx158_0; first | rwa [add_block] at this | exact this) GW156.out); have hn158_1 : ad158.block ≠ gb156 := Nat.ne_of_lt (Nat.lt_of_lt_of_le (by have := World.block_lt_of_cell? _ _ hx158_0; first | rwa [add_block] at this | exact this) GW156.out); have hn158_2 : ad158.block ≠ gb156 := Nat.ne_of_lt (Nat.lt_of_lt_of_le (by have := World.block_lt_of_cell? _ _ hx158_0; first | rwa [add_block] at this | exact this) GW156.out); replace hx158_0 := pw_cell_below HB.out hx158_0; replace hx158_0 := (cell_far (p := ⟨gb156, 0, none⟩) (by first | (rw [add_block]; exact hn158_0) | (show (Addr.add _ _).block ≠ _; rw [add_block]; exact hn158_0) | exact hn158_0) (.int .i64 ((rd_T48 l0 x11_1).f0))).trans hx158_0; replace hx158_0 := (cell_far (p := ⟨gb156, 1, none⟩) (by first | (rw [add_block]; exact hn158_1) | (show (Addr.add _ _).block ≠ _; rw [add_block]; exact hn158_1) | exact hn158_1) (.int .i64 ((rd_T48 l0 x11_1).f1))).trans hx158_0; replace hx158_0 := (cell_far (p := ⟨gb156, 2, none⟩) (by first | (rw [add_block]; exact hn158_2) | (show (Addr.add _ _).block ≠ _; rw [add_block]; exact hn158_2) | exact hn158_2) (.int .i64 ((rd_T48 l0 x11_1).f2))).trans hx158_0; (try have hy158_0 := fun (n_ : Nat) => (show (((((w13.drewN n_).setCell ⟨gb156, 0, none⟩ (.int .i64 ((rd_T48 l0 x11_1).f0))).setCell ⟨gb156, 1, none⟩ (.int .i64 ((rd_T48 l0 x11_1).f1))).setCell ⟨gb156, 2, none⟩ (.int .i64 ((rd_T48 l0 x11_1).f2)))).cell? _ = some _ from hx158_0)); clear hn158_0; clear hn158_1; clear hn158_2; replace p158 := eq_true p158; replace q158 := eq_true q158
         repeat (go_quiet (first | (go_at_call 79; (with_reducible refine (slices_Index_int_int.calls k1 _ _ l1 ((rd_T48 l0 x11_1).f0) t157 _ ?side1 ?side2 A6.out).mono ?_); (case side1 => exact Kd.C_below HR1.out lB); (case side2 => exact HC1.out); rintro e w' ⟨rfl, ⟨nd, rfl⟩⟩; (try first | exact ⟨rfl, _, World.drewN_drewN _ _ _⟩ | exact ⟨rfl, _, Eq.trans (World.drewN_drewN _ _ _) (congrArg (World.drewN _) (Nat.add_assoc _ _ _))⟩))); try go_wp2_with (first | ((with_reducible refine gate_dst (N := 7) rfl ?_); refine bxe 7 #[.int .i64 0, .int .i64 0, .int .i64 0] 48 ?_; intro gb156 hg w13 hbox hb; have n0_ := Aside0.mk (below_step lB hb); have n1_ := Aside0.mk (hbox); have n2_ := lG w hg; have n3_ := lG w hg; clear HB; have HB := n0_; have BK156 := n1_; have GW156 := n2_; have GE156 := n3_; clear n0_ n1_ n2_ n3_; clear hb hbox hg; obtain ⟨hcz14_0, hfz14_0, hcz14_1, hfz14_1, hcz14_2, hfz14_2⟩ := bk3 BK156.out) | (go_at_call 79; (with_reducible refine (slices_Index_int_int.calls k1 _ _ l1 ((rd_T48 l0 x11_1).f0) t157 _ ?side1 ?side2 A6.out).mono ?_); (case side1 => exact Kd.C_below HR1.out lB); (case side2 => exact HC1.out); rintro e w' ⟨rfl, ⟨nd, rfl⟩⟩; (try first | exact ⟨rfl, _, World.drewN_drewN _ _ _⟩ | exact ⟨rfl, _, Eq.trans (World.drewN_drewN _ _ _) (congrArg (World.drewN _) (Nat.add_assoc _ _ _))⟩))))
         go_roundg k1
         case measure => have := HK1.out; omega
         case rel => exact ⟨(x5_1), (wrap64 (x11_1 + 1)), lF, lF, H', ⟨by have := HK1.out; omega⟩, ⟨lB⟩⟩
       ·rw [if_neg c9] at H
        exact absurd H (by simp)
      ·rw [if_neg c7] at H
       have c7b0 : decide ((wrap64 (t157 + 1)) < (l1.length : Int)) = false := decide_eq_false c7
       clear c7
       have H' := Aside0.mk H
       clear H
       have p155 : 0 ≤ (x11_1 : Int) := lD
       have q155 : x11_1 < (l0.length : Int) := lD
       obtain ⟨ad155, e155, hx155_0, hx155_1, hx155_2⟩ := at_T48 HR0.out x11_1 p155 q155
       cases e155
       replace hx155_0 := pw_cell_below HB.out hx155_0
       replace hx155_1 := pw_cell_below HB.out hx155_1
       replace hx155_2 := pw_cell_below HB.out hx155_2
       replace p155 := eq_true p155
       replace q155 := eq_true q155
       go_wp2_with (first | ((with_reducible refine gate_dst (N := 7) rfl ?_); refine bxe 7 #[.int .i64 0, .int .i64 0, .int .i64 0] 48 ?_; intro gb156 hg w15 hbox hb; have n0_ := Aside0.mk (below_step lB hb); have n1_ := Aside0.mk (hbox); have n2_ := lG w hg; have n3_ := lG w hg; clear HB; have HB := n0_; have BK156 := n1_; have GW156 := n2_; have GE156 := n3_; clear n0_ n1_ n2_ n3_; clear hb hbox hg; obtain ⟨hcz16_0, hfz16_0, hcz16_1, hfz16_1, hcz16_2, hfz16_2⟩ := bk3 BK156.out) | (go_at_call 79; (with_reducible refine (slices_Index_int_int.calls k1 _ _ l1 ((rd_T48 l0 x11_1).f0) t157 _ ?side1 ?side2 A6.out).mono ?_); (case side1 => exact Kd.C_below HR1.out lB); (case side2 => exact HC1.out); rintro e w' ⟨rfl, ⟨nd, rfl⟩⟩; (try first | exact ⟨rfl, _, World.drewN_drewN _ _ _⟩ | exact ⟨rfl, _, Eq.trans (World.drewN_drewN _ _ _) (congrArg (World.drewN _) (Nat.add_assoc _ _ _))⟩)))
       repeat (go_quiet (first | (go_at_call 79; (with_reducible refine (slices_Index_int_int.calls k1 _ _ l1 ((rd_T48 l0 x11_1).f0) t157 _ ?side1 ?side2 A6.out).mono ?_); (case side1 => exact Kd.C_below HR1.out lB); (case side2 => exact HC1.out); rintro e w' ⟨rfl, ⟨nd, rfl⟩⟩; (try first | exact ⟨rfl, _, World.drewN_drewN _ _ _⟩ | exact ⟨rfl, _, Eq.trans (World.drewN_drewN _ _ _) (congrArg (World.drewN _) (Nat.add_assoc _ _ _))⟩))); try go_wp2_with (first | ((with_reducible refine gate_dst (N := 7) rfl ?_); refine bxe 7 #[.int .i64 0, .int .i64 0, .int .i64 0] 48 ?_; intro gb156 hg w15 hbox hb; have n0_ := Aside0.mk (below_step lB hb); have n1_ := Aside0.mk (hbox); have n2_ := lG w hg; have n3_ := lG w hg; clear HB; have HB := n0_; have BK156 := n1_; have GW156 := n2_; have GE156 := n3_; clear n0_ n1_ n2_ n3_; clear hb hbox hg; obtain ⟨hcz16_0, hfz16_0, hcz16_1, hfz16_1, hcz16_2, hfz16_2⟩ := bk3 BK156.out) | (go_at_call 79; (with_reducible refine (slices_Index_int_int.calls k1 _ _ l1 ((rd_T48 l0 x11_1).f0) t157 _ ?side1 ?side2 A6.out).mono ?_); (case side1 => exact Kd.C_below HR1.out lB); (case side2 => exact HC1.out); rintro e w' ⟨rfl, ⟨nd, rfl⟩⟩; (try first | exact ⟨rfl, _, World.drewN_drewN _ _ _⟩ | exact ⟨rfl, _, Eq.trans (World.drewN_drewN _ _ _) (congrArg (World.drewN _) (Nat.add_assoc _ _ _))⟩))))
       go_roundg k1
       case measure => have := HK1.out; omega
       case rel => exact ⟨(x5_1), (wrap64 (x11_1 + 1)), lF, lF, H', ⟨by have := HK1.out; omega⟩, ⟨lB⟩⟩
     ·rw [if_neg c5] at H
      exact absurd H (by simp)
    ·rw [if_neg c4] at H
     exact absurd H (by simp)
   ·rw [if_neg c3] at H
    have c3b0 : decide (x11_1 < (l0.length : Int)) = false := decide_eq_false c3
    clear c3
    obtain rfl := Option.some.inj H
    go_wp2
    repeat (go_quiet (fail); try go_wp2)
    go_ret
    exact ⟨lE, lB⟩

/-! ### impl_StraightIn: function 27 -/
def impl_StraightIn.f (k : Nat) (a0 : Int) (l1 : List (S48)) (l2 : List Int) : Option (Int × Bool) := (impl_areEdges.f a0 l1).bind fun t159 => (if t159 = true then ((impl_isLayout.f k a0 l2).bind fun t160 => (if t160 = true then ((impl_straight.f k l1 l2).bind fun t161 => (some (t161, true))) else (some (0, false)))) else (some (0, false)))
theorem impl_StraightIn.mono : ∀ a0 a1 a2 k, LeO (impl_StraightIn.f k a0 a1 a2) (impl_StraightIn.f (k + 1) a0 a1 a2) := by
 intro a0 a1 a2 k
 unfold impl_StraightIn.f
 repeat' first
   | with_reducible apply impl_isLayout.mono
   | with_reducible apply impl_straight.mono
   | (with_reducible exact LeO.refl _)
   | (with_reducible exact LeO.none _)
   | (with_reducible refine LeO.ite ?_ ?_)
   | (with_reducible refine LeO.bind ?_ (fun _ => ?_))
   | apply impl_isLayout.mono
   | apply impl_straight.mono
   | exact LeO.none _
   | refine LeO.ite ?_ ?_
   | refine LeO.bind ?_ (fun _ => ?_)
set_option maxHeartbeats 8000000 in
set_option maxRecDepth 100000 in
theorem impl_StraightIn.calls (k : Nat) (a0 : Int) (A1 : Option Addr) (c1 : Nat) (l1 : List (S48)) (A2 : Option Addr) (c2 : Nat) (l2 : List Int) (r1 : Int) (r2 : Bool) (w : World) (hr1 : Kd.C k48 w A1 l1.length l1) (hc1 : l1.length ≤ c1) (hr2 : Kd.C (Kd.int .i64) w A2 l2.length l2) (hc2 : l2.length ≤ c2) (h : impl_StraightIn.f k a0 l1 l2 = some (r1, r2)) :
  Calls Try.prog 27 #[.int .i64 a0, .slice A1 l1.length c1, .slice A2 l2.length c2] w fun e w' => e = .returned (.tuple #[.int .i64 r1, .bool r2]) ∧ Below w.heap.size w w' := by
 have HR1 := Aside0.mk hr1
 have HC1 := Aside0.mk hc1
 clear hr1 hc1
 have HR2 := Aside0.mk hr2
 have HC2 := Aside0.mk hc2
 clear hr2 hc2
 have HB := Aside0.mk (Below.refl w.heap.size w)
 have H : ((impl_areEdges.f a0 l1).bind fun t159 => (if t159 = true then ((impl_isLayout.f k a0 l2).bind fun t160 => (if t160 = true then ((impl_straight.f k l1 l2).bind fun t161 => (some (t161, true))) else (some (0, false)))) else (some (0, false)))) = some (r1, r2) := h
 clear h
 replace H := lO H
 obtain ⟨t159, A4, H⟩ := H
 by_cases c5 : t159 = true
 ·subst c5
  rw [if_pos rfl] at H
  replace H := lO H
  obtain ⟨t160, A6, H⟩ := H
  by_cases c7 : t160 = true
  ·subst c7
   rw [if_pos rfl] at H
   replace H := lO H
   obtain ⟨t161, A8, H⟩ := H
   simp only [Option.some.injEq, Prod.mk.injEq] at H
   obtain ⟨rfl, rfl⟩ := H
   go_enter Try.func27, Try.ntmps27
   go_wp2_with (first | ((with_reducible refine gate_callee (f := 59) rfl ?_); refine gl_ (some 10) (Try.func59) #[.int .i64 a0, .slice A1 l1.length c1] ?_; (with_reducible refine (impl_areEdges.calls a0 _ _ l1 true _ ?side1 ?side2 A4.out).mono ?_); (case side1 => repeat (first | exact HR1.out | (with_reducible refine Kd.C_alloc ?_ _) | (with_reducible refine Kd.C_drewN ?_ _) | (with_reducible refine Kd.C_drew ?_))); (case side2 => exact HC1.out); rintro e w9 ⟨rfl, hb⟩; refine ⟨_, rfl, ?_⟩; have n0_ := Aside0.mk (below_step lB hb); clear HB; have HB := n0_; clear n0_; (try clear hb); (try clear hb2); (try clear hk); (try clear hi)) | (go_at_call 66; (with_reducible refine (impl_isLayout.calls k a0 _ _ l2 true _ ?side1 ?side2 A6.out).mono ?_); (case side1 => exact lC (Kd.C_below HR2.out HB.out)); (case side2 => exact HC2.out); rintro e w' ⟨rfl, ⟨nd, rfl⟩⟩) | ((with_reducible refine gate_callee (f := 67) rfl ?_); refine gl_ (some 20) (Try.func67) #[.slice A1 l1.length c1, .slice A2 l2.length c2] ?_; (with_reducible refine (impl_straight.calls k _ _ l1 _ _ l2 t161 _ ?side1 ?side2 ?side3 ?side4 A8.out).mono ?_); (case side1 => repeat (first | exact (Kd.C_below HR1.out lB) | (with_reducible refine Kd.C_alloc ?_ _) | (with_reducible refine Kd.C_drewN ?_ _) | (with_reducible refine Kd.C_drew ?_))); (case side2 => exact HC1.out); (case side3 => repeat (first | exact (Kd.C_below HR2.out lB) | (with_reducible refine Kd.C_alloc ?_ _) | (with_reducible refine Kd.C_drewN ?_ _) | (with_reducible refine Kd.C_drew ?_))); (case side4 => exact HC2.out); rintro e w10 ⟨rfl, hb⟩; refine ⟨_, rfl, ?_⟩; have n0_ := Aside0.mk (below_step lB hb); clear HB; have HB := n0_; clear n0_; (try clear hb); (try clear hb2); (try clear hk); (try clear hi)))
   go_ret2
   exact ⟨lE, lB⟩
  ·replace c7 := Bool.eq_false_iff.mpr c7
   subst c7
   rw [if_neg (show ¬ (false = true) by decide)] at H
   simp only [Option.some.injEq, Prod.mk.injEq] at H
   obtain ⟨rfl, rfl⟩ := H
   go_enter Try.func27, Try.ntmps27
   go_wp2_with (first | ((with_reducible refine gate_callee (f := 59) rfl ?_); refine gl_ (some 10) (Try.func59) #[.int .i64 a0, .slice A1 l1.length c1] ?_; (with_reducible refine (impl_areEdges.calls a0 _ _ l1 true _ ?side1 ?side2 A4.out).mono ?_); (case side1 => repeat (first | exact HR1.out | (with_reducible refine Kd.C_alloc ?_ _) | (with_reducible refine Kd.C_drewN ?_ _) | (with_reducible refine Kd.C_drew ?_))); (case side2 => exact HC1.out); rintro e w11 ⟨rfl, hb⟩; refine ⟨_, rfl, ?_⟩; have n0_ := Aside0.mk (below_step lB hb); clear HB; have HB := n0_; clear n0_; (try clear hb); (try clear hb2); (try clear hk); (try clear hi)) | (go_at_call 66; (with_reducible refine (impl_isLayout.calls k a0 _ _ l2 false _ ?side1 ?side2 A6.out).mono ?_); (case side1 => exact lC (Kd.C_below HR2.out HB.out)); (case side2 => exact HC2.out); rintro e w' ⟨rfl, ⟨nd, rfl⟩⟩))
   go_ret2
   exact ⟨lE, lB⟩
 ·replace c5 := Bool.eq_false_iff.mpr c5
  subst c5
  rw [if_neg (show ¬ (false = true) by decide)] at H
  simp only [Option.some.injEq, Prod.mk.injEq] at H
  obtain ⟨rfl, rfl⟩ := H
  go_enter Try.func27, Try.ntmps27
  go_wp2_with (first | ((with_reducible refine gate_callee (f := 59) rfl ?_); refine gl_ (some 10) (Try.func59) #[.int .i64 a0, .slice A1 l1.length c1] ?_; (with_reducible refine (impl_areEdges.calls a0 _ _ l1 false _ ?side1 ?side2 A4.out).mono ?_); (case side1 => repeat (first | exact HR1.out | (with_reducible refine Kd.C_alloc ?_ _) | (with_reducible refine Kd.C_drewN ?_ _) | (with_reducible refine Kd.C_drew ?_))); (case side2 => exact HC1.out); rintro e w12 ⟨rfl, hb⟩; refine ⟨_, rfl, ?_⟩; have n0_ := Aside0.mk (below_step lB hb); clear HB; have HB := n0_; clear n0_; (try clear hb); (try clear hb2); (try clear hk); (try clear hi)))
  go_ret2
  exact ⟨lE, lB⟩

/-! ### laws_FnExactStraightIn: function 5 -/
def laws_FnExactStraightIn.j0 : Nat → List (S77) → List Int → List (S48) → List Int → Bool → Option (Bool)
 | 0, _, _, _, _, _ => none
 | k + 1, x1, x2, x10, x11, x49 => if x49 = true then (some false) else ((laws_toEdgeS.f k x1).bind fun t179 => ((laws_eqEdgeS.f k x10 t179).bind fun t182 => (if t182 = true then ((laws_toIntS.f k x2).bind fun t183 => ((laws_eqIntS.f k x11 t183).bind fun t186 => (if t186 = true then (some true) else (some false)))) else (some false))))
def laws_FnExactStraightIn.f (k : Nat) (a0 : Int) (l1 : List (S77)) (l2 : List Int) : Option (Bool) := if (l2.length : Int) > 1048576 then (some true) else ((laws_szEdgeS.f l1 1048576).bind fun t162 => (if t162 < 0 then (some true) else ((laws_toEdgeS.f k l1).bind fun t163 => ((laws_toIntS.f k l2).bind fun t166 => ((spec_StraightIn.f k a0 t163 t166).bind fun bt169 => ((laws_toEdgeS.f k l1).bind fun t171 => ((laws_toIntS.f k l2).bind fun t174 => ((impl_StraightIn.f k a0 t171 t174).bind fun bt177 => (if bt177.1 = bt169.1 then (laws_FnExactStraightIn.j0 k l1 l2 t171 t174 (bt177.2 != bt169.2)) else (laws_FnExactStraightIn.j0 k l1 l2 t171 t174 true))))))))))
theorem laws_FnExactStraightIn.mono_l : ∀ k, (∀ y0 y1 y2 y3 y4, LeO (laws_FnExactStraightIn.j0 k y0 y1 y2 y3 y4) (laws_FnExactStraightIn.j0 (k + 1) y0 y1 y2 y3 y4))
 | 0 => fun _ _ _ _ _ r h => by simp [laws_FnExactStraightIn.j0] at h
 | k + 1 => by
  have ih0 := laws_FnExactStraightIn.mono_l k
  ·intro y0 y1 y2 y3 y4
   unfold laws_FnExactStraightIn.j0
   repeat' first
   | with_reducible apply ih0
   | with_reducible apply impl_StraightIn.mono
   | with_reducible apply laws_eqEdgeS.mono
   | with_reducible apply laws_eqIntS.mono
   | with_reducible apply laws_toEdgeS.mono
   | with_reducible apply laws_toIntS.mono
   | with_reducible apply spec_StraightIn.mono
   | (with_reducible exact LeO.refl _)
   | (with_reducible exact LeO.none _)
   | (with_reducible refine LeO.ite ?_ ?_)
   | (with_reducible refine LeO.bind ?_ (fun _ => ?_))
   | apply ih0
   | apply impl_StraightIn.mono
   | apply laws_eqEdgeS.mono
   | apply laws_eqIntS.mono
   | apply laws_toEdgeS.mono
   | apply laws_toIntS.mono
   | apply spec_StraightIn.mono
   | exact LeO.none _
   | refine LeO.ite ?_ ?_
   | refine LeO.bind ?_ (fun _ => ?_)
theorem laws_FnExactStraightIn.mono : ∀ a0 a1 a2 k, LeO (laws_FnExactStraightIn.f k a0 a1 a2) (laws_FnExactStraightIn.f (k + 1) a0 a1 a2) := by
 intro a0 a1 a2 k
 have ih0 := laws_FnExactStraightIn.mono_l k
 unfold laws_FnExactStraightIn.f
 repeat' first
   | with_reducible apply ih0
   | with_reducible apply impl_StraightIn.mono
   | with_reducible apply laws_eqEdgeS.mono
   | with_reducible apply laws_eqIntS.mono
   | with_reducible apply laws_toEdgeS.mono
   | with_reducible apply laws_toIntS.mono
   | with_reducible apply spec_StraightIn.mono
   | (with_reducible exact LeO.refl _)
   | (with_reducible exact LeO.none _)
   | (with_reducible refine LeO.ite ?_ ?_)
   | (with_reducible refine LeO.bind ?_ (fun _ => ?_))
   | apply ih0
   | apply impl_StraightIn.mono
   | apply laws_eqEdgeS.mono
   | apply laws_eqIntS.mono
   | apply laws_toEdgeS.mono
   | apply laws_toIntS.mono
   | apply spec_StraightIn.mono
   | exact LeO.none _
   | refine LeO.ite ?_ ?_
   | refine LeO.bind ?_ (fun _ => ?_)
set_option maxHeartbeats 8000000 in
set_option maxRecDepth 100000 in
theorem laws_FnExactStraightIn.calls (k : Nat) (a0 : Int) (A1 : Option Addr) (c1 : Nat) (l1 : List (S77)) (A2 : Option Addr) (c2 : Nat) (l2 : List Int) (r : Bool) (w : World) (hr1 : Kd.C k77 w A1 l1.length l1) (hc1 : l1.length ≤ c1) (hr2 : Kd.C (Kd.int .i64) w A2 l2.length l2) (hc2 : l2.length ≤ c2) (h : laws_FnExactStraightIn.f k a0 l1 l2 = some r) :
  Calls Try.prog 5 #[.int .i64 a0, .slice A1 l1.length c1, .slice A2 l2.length c2] w fun e w' => e = .returned (.bool r) ∧ Below w.heap.size w w' := by
 have HR1 := Aside0.mk hr1
 have HC1 := Aside0.mk hc1
 clear hr1 hc1
 have HR2 := Aside0.mk hr2
 have HC2 := Aside0.mk hc2
 clear hr2 hc2
 have HB := Aside0.mk (Below.refl w.heap.size w)
 have H : (if (l2.length : Int) > 1048576 then (some true) else ((laws_szEdgeS.f l1 1048576).bind fun t162 => (if t162 < 0 then (some true) else ((laws_toEdgeS.f k l1).bind fun t163 => ((laws_toIntS.f k l2).bind fun t166 => ((spec_StraightIn.f k a0 t163 t166).bind fun bt169 => ((laws_toEdgeS.f k l1).bind fun t171 => ((laws_toIntS.f k l2).bind fun t174 => ((impl_StraightIn.f k a0 t171 t174).bind fun bt177 => (if bt177.1 = bt169.1 then (laws_FnExactStraightIn.j0 k l1 l2 t171 t174 (bt177.2 != bt169.2)) else (laws_FnExactStraightIn.j0 k l1 l2 t171 t174 true))))))))))) = some r := h
 clear h
 by_cases c4 : (l2.length : Int) > 1048576
 ·rw [if_pos c4] at H
  have c4b0 : decide (1048576 < (l2.length : Int)) = true := decide_eq_true c4
  have c4b1 : decide (1048576 < l2.length) = true := decide_eq_true (by omega)
  clear c4
  obtain rfl := Option.some.inj H
  go_enter Try.func5, Try.ntmps5
  first | (go_wp2; go_ret; exact ⟨lE, lB⟩) | (exfalso; simp only [decide_eq_false_iff_not, decide_eq_true_eq] at *; omega)
 ·rw [if_neg c4] at H
  have c4b0 : decide (1048576 < (l2.length : Int)) = false := decide_eq_false c4
  have c4b1 : decide (1048576 < l2.length) = false := decide_eq_false (by omega)
  clear c4
  replace H := lO H
  obtain ⟨t162, A5, H⟩ := H
  by_cases c6 : t162 < 0
  ·rw [if_pos c6] at H
   have c6b0 : decide (t162 < 0) = true := decide_eq_true c6
   clear c6
   obtain rfl := Option.some.inj H
   go_enter Try.func5, Try.ntmps5
   go_wp2_with (first | ((with_reducible refine gate_callee (f := 11) rfl ?_); refine gl_ (some 19) (Try.func11) #[.slice A1 l1.length c1, .int .i64 1048576] ?_; (with_reducible refine (laws_szEdgeS.calls _ _ l1 1048576 t162 _ ?side1 ?side2 A5.out).mono ?_); (case side1 => repeat (first | exact HR1.out | (with_reducible refine Kd.C_alloc ?_ _) | (with_reducible refine Kd.C_drewN ?_ _) | (with_reducible refine Kd.C_drew ?_))); (case side2 => exact HC1.out); rintro e w' ⟨rfl, ⟨nd, rfl⟩⟩; refine ⟨_, rfl, ?_⟩))
   go_ret
   exact ⟨lE, lB⟩
  ·rw [if_neg c6] at H
   have c6b0 : decide (t162 < 0) = false := decide_eq_false c6
   clear c6
   replace H := lO H
   obtain ⟨t163, A7, H⟩ := H
   replace H := lO H
   obtain ⟨t166, A8, H⟩ := H
   replace H := Option.bind_eq_some_iff.mp H
   obtain ⟨⟨t169, t170⟩, A90, H⟩ := H
   replace H : ((laws_toEdgeS.f k l1).bind fun t171 => ((laws_toIntS.f k l2).bind fun t174 => ((impl_StraightIn.f k a0 t171 t174).bind fun bt177 => (if bt177.1 = t169 then (laws_FnExactStraightIn.j0 k l1 l2 t171 t174 (bt177.2 != t170)) else (laws_FnExactStraightIn.j0 k l1 l2 t171 t174 true))))) = some r := H
   have A9 := Aside0.mk A90
   clear A90
   replace H := lO H
   obtain ⟨t171, A10, H⟩ := H
   replace H := lO H
   obtain ⟨t174, A11, H⟩ := H
   replace H := Option.bind_eq_some_iff.mp H
   obtain ⟨⟨t177, t178⟩, A120, H⟩ := H
   replace H : (if t177 = t169 then (laws_FnExactStraightIn.j0 k l1 l2 t171 t174 (t178 != t170)) else (laws_FnExactStraightIn.j0 k l1 l2 t171 t174 true)) = some r := H
   have A12 := Aside0.mk A120
   clear A120
   have HC13 := Aside0.mk H
   clear H
   go_enter Try.func5, Try.ntmps5
   go_upto_region 11 with (first | ((with_reducible refine gate_callee (f := 11) rfl ?_); refine gl_ (some 19) (Try.func11) #[.slice A1 l1.length c1, .int .i64 1048576] ?_; (with_reducible refine (laws_szEdgeS.calls _ _ l1 1048576 t162 _ ?side1 ?side2 A5.out).mono ?_); (case side1 => repeat (first | exact HR1.out | (with_reducible refine Kd.C_alloc ?_ _) | (with_reducible refine Kd.C_drewN ?_ _) | (with_reducible refine Kd.C_drew ?_))); (case side2 => exact HC1.out); rintro e w' ⟨rfl, ⟨nd, rfl⟩⟩; refine ⟨_, rfl, ?_⟩) | ((with_reducible refine gate_callee (f := 13) rfl ?_); refine gl_ (some 25) (Try.func13) #[.slice A1 l1.length c1] ?_; (with_reducible refine (laws_toEdgeS.calls k _ _ l1 t163 _ ?side1 ?side2 A7.out).mono ?_); (case side1 => repeat (first | exact HR1.out | (with_reducible refine Kd.C_alloc ?_ _) | (with_reducible refine Kd.C_drewN ?_ _) | (with_reducible refine Kd.C_drew ?_))); (case side2 => exact HC1.out); rintro e w14 ⟨v164, rfl, ho0, hb⟩; refine ⟨_, rfl, ?_⟩; have n0_ := Aside0.mk (Kd.R_lower ho0 (below_size lB)); have n1_ := Aside0.mk (below_step lB hb); clear HB; have HO165 := n0_; have HB := n1_; clear n0_ n1_; (try clear hb); (try clear hb2); (try clear hk); (try clear hi); (try clear ho0)) | ((with_reducible refine gate_callee (f := 26) rfl ?_); refine gl_ (some 27) (Try.func26) #[.slice A2 l2.length c2] ?_; (with_reducible refine (laws_toIntS.calls k _ _ l2 t166 _ ?side1 ?side2 A8.out).mono ?_); (case side1 => exact lC (Kd.C_below HR2.out HB.out)); (case side2 => exact HC2.out); rintro e w15 ⟨v167, rfl, ho0, hb⟩; refine ⟨_, rfl, ?_⟩; have n0_ := Aside0.mk (Kd.R_below (lR HO165.out) hb); have n1_ := Aside0.mk (Kd.R_lower ho0 (below_size lB)); have n2_ := Aside0.mk (below_step lB hb); clear HO165; clear HB; have HO165 := n0_; have HO168 := n1_; have HB := n2_; clear n0_ n1_ n2_; (try clear hb); (try clear hb2); (try clear hk); (try clear hi); (try clear ho0); obtain ⟨Ao16, co16, eo16⟩ := Kd.R_slice HO165.out; subst eo16; obtain ⟨Ao17, co17, eo17⟩ := Kd.R_slice HO168.out; subst eo17) | ((with_reducible refine gate_callee (f := 25) rfl ?_); refine gl_ (some 28) (Try.func25) #[.int .i64 a0, .slice Ao16 t163.length co16, .slice Ao17 t166.length co17] ?_; (with_reducible refine (spec_StraightIn.calls k a0 _ _ t163 _ _ t166 t169 t170 _ ?side1 ?side2 ?side3 ?side4 A9.out).mono ?_); (case side1 => repeat (first | exact (Kd.R_reads' HO165.out).2.2 | (with_reducible refine Kd.C_alloc ?_ _) | (with_reducible refine Kd.C_drewN ?_ _) | (with_reducible refine Kd.C_drew ?_))); (case side2 => exact (Kd.R_reads' HO165.out).2.1); (case side3 => repeat (first | exact (Kd.R_reads' HO168.out).2.2 | (with_reducible refine Kd.C_alloc ?_ _) | (with_reducible refine Kd.C_drewN ?_ _) | (with_reducible refine Kd.C_drew ?_))); (case side4 => exact (Kd.R_reads' HO168.out).2.1); rintro e w18 ⟨rfl, hb⟩; refine ⟨_, rfl, ?_⟩; have n0_ := Aside0.mk (Kd.R_below (lR HO165.out) hb); have n1_ := Aside0.mk (Kd.R_below (lR HO168.out) hb); have n2_ := Aside0.mk (below_step lB hb); clear HO165; clear HO168; clear HB; have HO165 := n0_; have HO168 := n1_; have HB := n2_; clear n0_ n1_ n2_; (try clear hb); (try clear hb2); (try clear hk); (try clear hi)) | ((with_reducible refine gate_callee (f := 13) rfl ?_); refine gl_ (some 32) (Try.func13) #[.slice A1 l1.length c1] ?_; (with_reducible refine (laws_toEdgeS.calls k _ _ l1 t171 _ ?side1 ?side2 A10.out).mono ?_); (case side1 => exact lC (Kd.C_below HR1.out HB.out)); (case side2 => exact HC1.out); rintro e w19 ⟨v172, rfl, ho0, hb⟩; refine ⟨_, rfl, ?_⟩; have n0_ := Aside0.mk (Kd.R_elder' (lR HO165.out) (Kd.R_base ho0) hb); have n1_ := Aside0.mk (Kd.R_below (lR HO168.out) hb); have n2_ := Aside0.mk (Kd.R_lower (Kd.R_new' ho0 (Kd.R_lt (lR HO165.out))) (below_size lB)); have n3_ := Aside0.mk (below_step lB hb); clear HO165; clear HO168; clear HB; have HO165 := n0_; have HO168 := n1_; have HO173 := n2_; have HB := n3_; clear n0_ n1_ n2_ n3_; (try clear hb); (try clear hb2); (try clear hk); (try clear hi); (try clear ho0)) | ((with_reducible refine gate_callee (f := 26) rfl ?_); refine gl_ (some 34) (Try.func26) #[.slice A2 l2.length c2] ?_; (with_reducible refine (laws_toIntS.calls k _ _ l2 t174 _ ?side1 ?side2 A11.out).mono ?_); (case side1 => exact lC (Kd.C_below HR2.out HB.out)); (case side2 => exact HC2.out); rintro e w20 ⟨v175, rfl, ho0, hb⟩; refine ⟨_, rfl, ?_⟩; have n0_ := Aside0.mk (Kd.R_below (lR HO165.out) hb); have n1_ := Aside0.mk (Kd.R_elder' (lR HO168.out) (Kd.R_base ho0) hb); have n2_ := Aside0.mk (Kd.R_below (lR HO173.out) hb); have n3_ := Aside0.mk (Kd.R_lower (Kd.R_new' ho0 (Kd.R_lt (lR HO168.out))) (below_size lB)); have n4_ := Aside0.mk (below_step lB hb); clear HO165; clear HO168; clear HO173; clear HB; have HO165 := n0_; have HO168 := n1_; have HO173 := n2_; have HO176 := n3_; have HB := n4_; clear n0_ n1_ n2_ n3_ n4_; (try clear hb); (try clear hb2); (try clear hk); (try clear hi); (try clear ho0); obtain ⟨Ao21, co21, eo21⟩ := Kd.R_slice HO173.out; subst eo21; obtain ⟨Ao22, co22, eo22⟩ := Kd.R_slice HO176.out; subst eo22) | ((with_reducible refine gate_callee (f := 27) rfl ?_); refine gl_ (some 39) (Try.func27) #[.int .i64 a0, .slice Ao21 t171.length co21, .slice Ao22 t174.length co22] ?_; (with_reducible refine (impl_StraightIn.calls k a0 _ _ t171 _ _ t174 t177 t178 _ ?side1 ?side2 ?side3 ?side4 A12.out).mono ?_); (case side1 => repeat (first | exact (Kd.R_reads' HO173.out).2.2 | (with_reducible refine Kd.C_alloc ?_ _) | (with_reducible refine Kd.C_drewN ?_ _) | (with_reducible refine Kd.C_drew ?_))); (case side2 => exact (Kd.R_reads' HO173.out).2.1); (case side3 => repeat (first | exact (Kd.R_reads' HO176.out).2.2 | (with_reducible refine Kd.C_alloc ?_ _) | (with_reducible refine Kd.C_drewN ?_ _) | (with_reducible refine Kd.C_drew ?_))); (case side4 => exact (Kd.R_reads' HO176.out).2.1); rintro e w23 ⟨rfl, hb⟩; refine ⟨_, rfl, ?_⟩; have n0_ := Aside0.mk (Kd.R_below (lR HO165.out) hb); have n1_ := Aside0.mk (Kd.R_below (lR HO168.out) hb); have n2_ := Aside0.mk (Kd.R_below (lR HO173.out) hb); have n3_ := Aside0.mk (Kd.R_below (lR HO176.out) hb); have n4_ := Aside0.mk (below_step lB hb); clear HO165; clear HO168; clear HO173; clear HO176; clear HB; have HO165 := n0_; have HO168 := n1_; have HO173 := n2_; have HO176 := n3_; have HB := n4_; clear n0_ n1_ n2_ n3_ n4_; (try clear hb); (try clear hb2); (try clear hk); (try clear hi)))
   (try simp only [Act.put, List.setIfInBounds_toArray, List.set_cons_zero, List.set_cons_succ])
   go_cut [49] (fun v49 wc => ∃ (kq : Nat) (x49_12 : Bool), v49 = .bool x49_12 ∧ Aside0 (laws_FnExactStraightIn.j0 kq l1 l2 t171 t174 x49_12 = some r) ∧ Aside0 (kq ≤ k) ∧ Aside0 (Kd.R k48 48 wc w.heap.size (fun _ => True) (.slice Ao21 t171.length co21) t171) ∧ Aside0 (Kd.R (Kd.int .i64) 3 wc w.heap.size (fun _ => True) (.slice Ao22 t174.length co22) t174) ∧ Aside0 (Below w.heap.size w wc))
   case first =>
    have H := HC13.out
    clear HC13
    by_cases c24 : t177 = t169
    ·rw [if_pos c24] at H
     have c24b0 : (t177 == t169) = true := beq_iff_eq.mpr c24
     have c24b1 : (t177 != t169) = false := bne_eq_false_iff_eq.mpr c24
     clear c24
     (first | rw [c24b0] | (simp only [i64_w, i32_w]; rw [c24b0]) | skip)
     have H' := Aside0.mk H
     clear H
     go_wp2
     go_meet
     case rel => exact ⟨_, ((t178 != t170)), lF, H', ⟨lN⟩, ⟨by (with_reducible repeat (first | apply Kd.R_alloc | apply Kd.R_drewN | apply Kd.R_drew)); exact Kd.R_mono HO173.out (fun _ hk => trivial)⟩, ⟨by (with_reducible repeat (first | apply Kd.R_alloc | apply Kd.R_drewN | apply Kd.R_drew)); exact Kd.R_mono HO176.out (fun _ hk => trivial)⟩, ⟨lB⟩⟩
    ·rw [if_neg c24] at H
     have c24b0 : (t177 == t169) = false := beq_eq_false_iff_ne.mpr c24
     have c24b1 : (t177 != t169) = true := bne_iff_ne.mpr c24
     (first | rw [c24b0] | (simp only [i64_w, i32_w]; rw [c24b0]) | skip)
     have H' := Aside0.mk H
     clear H
     go_wp2
     go_meet
     case rel => exact ⟨_, (true), lF, H', ⟨lN⟩, ⟨by (with_reducible repeat (first | apply Kd.R_alloc | apply Kd.R_drewN | apply Kd.R_drew)); exact Kd.R_mono HO173.out (fun _ hk => trivial)⟩, ⟨by (with_reducible repeat (first | apply Kd.R_alloc | apply Kd.R_drewN | apply Kd.R_drew)); exact Kd.R_mono HO176.out (fun _ hk => trivial)⟩, ⟨lB⟩⟩
   case rest =>
    clear HC13
    try clear c1
    try clear c2
    try clear p2
    try clear c4
    try clear c4b0
    try clear c4b1
    try clear c5
    try clear c6
    try clear c6b0
    try clear c11
    try clear c13
    try clear c24
    try clear c24b0
    try clear c24b1
    obtain ⟨kq, x49_12, rfl, HA, HJ12, HO_10, HO_11, HB⟩ := hcut
    cases kq with
    | zero => exact absurd HA.out (by simp [laws_FnExactStraightIn.j0])
    | succ kj12 =>
     have H := HA.out
     clear HA
     simp only [laws_FnExactStraightIn.j0] at H
     by_cases c25 : x49_12 = true
     ·subst c25
      rw [if_pos rfl] at H
      obtain rfl := Option.some.inj H
      first | (go_wp2; go_ret; exact ⟨lE, lB⟩) | (exfalso; simp only [decide_eq_false_iff_not, decide_eq_true_eq] at *; omega)
     ·replace c25 := Bool.eq_false_iff.mpr c25
      subst c25
      rw [if_neg (show ¬ (false = true) by decide)] at H
      replace H := lO H
      obtain ⟨t179, A26, H⟩ := H
      replace H := lO H
      obtain ⟨t182, A27, H⟩ := H
      by_cases c28 : t182 = true
      ·subst c28
       rw [if_pos rfl] at H
       replace H := lO H
       obtain ⟨t183, A29, H⟩ := H
       replace H := lO H
       obtain ⟨t186, A30, H⟩ := H
       by_cases c31 : t186 = true
       ·subst c31
        rw [if_pos rfl] at H
        obtain rfl := Option.some.inj H
        go_wp2_with (first | ((with_reducible refine gate_callee (f := 13) rfl ?_); refine gl_ (some 52) (Try.func13) #[.slice A1 l1.length c1] ?_; (with_reducible refine (laws_toEdgeS.calls kj12 _ _ l1 t179 _ ?side1 ?side2 A26.out).mono ?_); (case side1 => exact lC (Kd.C_below HR1.out HB.out)); (case side2 => exact HC1.out); rintro e w32 ⟨v180, rfl, ho0, hb⟩; refine ⟨_, rfl, ?_⟩; have n0_ := Aside0.mk (Kd.R_elder' (lR HO_10.out) (Kd.R_base ho0) hb); have n1_ := Aside0.mk (Kd.R_below (lR HO_11.out) hb); have n2_ := Aside0.mk (Kd.R_lower (Kd.R_new' ho0 (Kd.R_lt (lR HO_10.out))) (below_size lB)); have n3_ := Aside0.mk (below_step lB hb); clear HO_10; clear HO_11; clear HB; have HO_10 := n0_; have HO_11 := n1_; have HO181 := n2_; have HB := n3_; clear n0_ n1_ n2_ n3_; (try clear hb); (try clear hb2); (try clear hk); (try clear hi); (try clear ho0); obtain ⟨Ao33, co33, eo33⟩ := Kd.R_slice HO181.out; subst eo33) | ((with_reducible refine gate_callee (f := 16) rfl ?_); refine gl_ (some 53) (Try.func16) #[.slice Ao21 t171.length co21, .slice Ao33 t179.length co33] ?_; (with_reducible refine (laws_eqEdgeS.calls kj12 _ _ t171 _ _ t179 true _ ?side1 ?side2 ?side3 ?side4 A27.out).mono ?_); (case side1 => repeat (first | exact (Kd.R_reads' HO_10.out).2.2 | (with_reducible refine Kd.C_alloc ?_ _) | (with_reducible refine Kd.C_drewN ?_ _) | (with_reducible refine Kd.C_drew ?_))); (case side2 => exact (Kd.R_reads' HO_10.out).2.1); (case side3 => repeat (first | exact (Kd.R_reads' HO181.out).2.2 | (with_reducible refine Kd.C_alloc ?_ _) | (with_reducible refine Kd.C_drewN ?_ _) | (with_reducible refine Kd.C_drew ?_))); (case side4 => exact (Kd.R_reads' HO181.out).2.1); rintro e w34 ⟨rfl, hb⟩; refine ⟨_, rfl, ?_⟩; have n0_ := Aside0.mk (Kd.R_below (lR HO_10.out) hb); have n1_ := Aside0.mk (Kd.R_below (lR HO_11.out) hb); have n2_ := Aside0.mk (Kd.R_below (lR HO181.out) hb); have n3_ := Aside0.mk (below_step lB hb); clear HO_10; clear HO_11; clear HO181; clear HB; have HO_10 := n0_; have HO_11 := n1_; have HO181 := n2_; have HB := n3_; clear n0_ n1_ n2_ n3_; (try clear hb); (try clear hb2); (try clear hk); (try clear hi)) | ((with_reducible refine gate_callee (f := 26) rfl ?_); refine gl_ (some 57) (Try.func26) #[.slice A2 l2.length c2] ?_; (with_reducible refine (laws_toIntS.calls kj12 _ _ l2 t183 _ ?side1 ?side2 A29.out).mono ?_); (case side1 => exact lC (Kd.C_below HR2.out HB.out)); (case side2 => exact HC2.out); rintro e w35 ⟨v184, rfl, ho0, hb⟩; refine ⟨_, rfl, ?_⟩; have n0_ := Aside0.mk (Kd.R_below (lR HO_10.out) hb); have n1_ := Aside0.mk (Kd.R_elder' (lR HO_11.out) (Kd.R_base ho0) hb); have n2_ := Aside0.mk (Kd.R_below (lR HO181.out) hb); have n3_ := Aside0.mk (Kd.R_lower (Kd.R_new' ho0 (Kd.R_lt (lR HO_11.out))) (below_size lB)); have n4_ := Aside0.mk (below_step lB hb); clear HO_10; clear HO_11; clear HO181; clear HB; have HO_10 := n0_; have HO_11 := n1_; have HO181 := n2_; have HO185 := n3_; have HB := n4_; clear n0_ n1_ n2_ n3_ n4_; (try clear hb); (try clear hb2); (try clear hk); (try clear hi); (try clear ho0); obtain ⟨Ao36, co36, eo36⟩ := Kd.R_slice HO185.out; subst eo36) | ((with_reducible refine gate_callee (f := 22) rfl ?_); refine gl_ (some 58) (Try.func22) #[.slice Ao22 t174.length co22, .slice Ao36 t183.length co36] ?_; (with_reducible refine (laws_eqIntS.calls kj12 _ _ t174 _ _ t183 true _ ?side1 ?side2 ?side3 ?side4 A30.out).mono ?_); (case side1 => repeat (first | exact (Kd.R_reads' HO_11.out).2.2 | (with_reducible refine Kd.C_alloc ?_ _) | (with_reducible refine Kd.C_drewN ?_ _) | (with_reducible refine Kd.C_drew ?_))); (case side2 => exact (Kd.R_reads' HO_11.out).2.1); (case side3 => repeat (first | exact (Kd.R_reads' HO185.out).2.2 | (with_reducible refine Kd.C_alloc ?_ _) | (with_reducible refine Kd.C_drewN ?_ _) | (with_reducible refine Kd.C_drew ?_))); (case side4 => exact (Kd.R_reads' HO185.out).2.1); rintro e w' ⟨rfl, ⟨nd, rfl⟩⟩; refine ⟨_, rfl, ?_⟩))
        go_ret
        exact ⟨lE, lB⟩
       ·replace c31 := Bool.eq_false_iff.mpr c31
        subst c31
        rw [if_neg (show ¬ (false = true) by decide)] at H
        obtain rfl := Option.some.inj H
        go_wp2_with (first | ((with_reducible refine gate_callee (f := 13) rfl ?_); refine gl_ (some 52) (Try.func13) #[.slice A1 l1.length c1] ?_; (with_reducible refine (laws_toEdgeS.calls kj12 _ _ l1 t179 _ ?side1 ?side2 A26.out).mono ?_); (case side1 => exact lC (Kd.C_below HR1.out HB.out)); (case side2 => exact HC1.out); rintro e w37 ⟨v180, rfl, ho0, hb⟩; refine ⟨_, rfl, ?_⟩; have n0_ := Aside0.mk (Kd.R_elder' (lR HO_10.out) (Kd.R_base ho0) hb); have n1_ := Aside0.mk (Kd.R_below (lR HO_11.out) hb); have n2_ := Aside0.mk (Kd.R_lower (Kd.R_new' ho0 (Kd.R_lt (lR HO_10.out))) (below_size lB)); have n3_ := Aside0.mk (below_step lB hb); clear HO_10; clear HO_11; clear HB; have HO_10 := n0_; have HO_11 := n1_; have HO181 := n2_; have HB := n3_; clear n0_ n1_ n2_ n3_; (try clear hb); (try clear hb2); (try clear hk); (try clear hi); (try clear ho0); obtain ⟨Ao38, co38, eo38⟩ := Kd.R_slice HO181.out; subst eo38) | ((with_reducible refine gate_callee (f := 16) rfl ?_); refine gl_ (some 53) (Try.func16) #[.slice Ao21 t171.length co21, .slice Ao38 t179.length co38] ?_; (with_reducible refine (laws_eqEdgeS.calls kj12 _ _ t171 _ _ t179 true _ ?side1 ?side2 ?side3 ?side4 A27.out).mono ?_); (case side1 => repeat (first | exact (Kd.R_reads' HO_10.out).2.2 | (with_reducible refine Kd.C_alloc ?_ _) | (with_reducible refine Kd.C_drewN ?_ _) | (with_reducible refine Kd.C_drew ?_))); (case side2 => exact (Kd.R_reads' HO_10.out).2.1); (case side3 => repeat (first | exact (Kd.R_reads' HO181.out).2.2 | (with_reducible refine Kd.C_alloc ?_ _) | (with_reducible refine Kd.C_drewN ?_ _) | (with_reducible refine Kd.C_drew ?_))); (case side4 => exact (Kd.R_reads' HO181.out).2.1); rintro e w39 ⟨rfl, hb⟩; refine ⟨_, rfl, ?_⟩; have n0_ := Aside0.mk (Kd.R_below (lR HO_10.out) hb); have n1_ := Aside0.mk (Kd.R_below (lR HO_11.out) hb); have n2_ := Aside0.mk (Kd.R_below (lR HO181.out) hb); have n3_ := Aside0.mk (below_step lB hb); clear HO_10; clear HO_11; clear HO181; clear HB; have HO_10 := n0_; have HO_11 := n1_; have HO181 := n2_; have HB := n3_; clear n0_ n1_ n2_ n3_; (try clear hb); (try clear hb2); (try clear hk); (try clear hi)) | ((with_reducible refine gate_callee (f := 26) rfl ?_); refine gl_ (some 57) (Try.func26) #[.slice A2 l2.length c2] ?_; (with_reducible refine (laws_toIntS.calls kj12 _ _ l2 t183 _ ?side1 ?side2 A29.out).mono ?_); (case side1 => exact lC (Kd.C_below HR2.out HB.out)); (case side2 => exact HC2.out); rintro e w40 ⟨v184, rfl, ho0, hb⟩; refine ⟨_, rfl, ?_⟩; have n0_ := Aside0.mk (Kd.R_below (lR HO_10.out) hb); have n1_ := Aside0.mk (Kd.R_elder' (lR HO_11.out) (Kd.R_base ho0) hb); have n2_ := Aside0.mk (Kd.R_below (lR HO181.out) hb); have n3_ := Aside0.mk (Kd.R_lower (Kd.R_new' ho0 (Kd.R_lt (lR HO_11.out))) (below_size lB)); have n4_ := Aside0.mk (below_step lB hb); clear HO_10; clear HO_11; clear HO181; clear HB; have HO_10 := n0_; have HO_11 := n1_; have HO181 := n2_; have HO185 := n3_; have HB := n4_; clear n0_ n1_ n2_ n3_ n4_; (try clear hb); (try clear hb2); (try clear hk); (try clear hi); (try clear ho0); obtain ⟨Ao41, co41, eo41⟩ := Kd.R_slice HO185.out; subst eo41) | ((with_reducible refine gate_callee (f := 22) rfl ?_); refine gl_ (some 58) (Try.func22) #[.slice Ao22 t174.length co22, .slice Ao41 t183.length co41] ?_; (with_reducible refine (laws_eqIntS.calls kj12 _ _ t174 _ _ t183 false _ ?side1 ?side2 ?side3 ?side4 A30.out).mono ?_); (case side1 => repeat (first | exact (Kd.R_reads' HO_11.out).2.2 | (with_reducible refine Kd.C_alloc ?_ _) | (with_reducible refine Kd.C_drewN ?_ _) | (with_reducible refine Kd.C_drew ?_))); (case side2 => exact (Kd.R_reads' HO_11.out).2.1); (case side3 => repeat (first | exact (Kd.R_reads' HO185.out).2.2 | (with_reducible refine Kd.C_alloc ?_ _) | (with_reducible refine Kd.C_drewN ?_ _) | (with_reducible refine Kd.C_drew ?_))); (case side4 => exact (Kd.R_reads' HO185.out).2.1); rintro e w' ⟨rfl, ⟨nd, rfl⟩⟩; refine ⟨_, rfl, ?_⟩))
        go_ret
        exact ⟨lE, lB⟩
      ·replace c28 := Bool.eq_false_iff.mpr c28
       subst c28
       rw [if_neg (show ¬ (false = true) by decide)] at H
       obtain rfl := Option.some.inj H
       go_wp2_with (first | ((with_reducible refine gate_callee (f := 13) rfl ?_); refine gl_ (some 52) (Try.func13) #[.slice A1 l1.length c1] ?_; (with_reducible refine (laws_toEdgeS.calls kj12 _ _ l1 t179 _ ?side1 ?side2 A26.out).mono ?_); (case side1 => exact lC (Kd.C_below HR1.out HB.out)); (case side2 => exact HC1.out); rintro e w42 ⟨v180, rfl, ho0, hb⟩; refine ⟨_, rfl, ?_⟩; have n0_ := Aside0.mk (Kd.R_elder' (lR HO_10.out) (Kd.R_base ho0) hb); have n1_ := Aside0.mk (Kd.R_below (lR HO_11.out) hb); have n2_ := Aside0.mk (Kd.R_lower (Kd.R_new' ho0 (Kd.R_lt (lR HO_10.out))) (below_size lB)); have n3_ := Aside0.mk (below_step lB hb); clear HO_10; clear HO_11; clear HB; have HO_10 := n0_; have HO_11 := n1_; have HO181 := n2_; have HB := n3_; clear n0_ n1_ n2_ n3_; (try clear hb); (try clear hb2); (try clear hk); (try clear hi); (try clear ho0); obtain ⟨Ao43, co43, eo43⟩ := Kd.R_slice HO181.out; subst eo43) | ((with_reducible refine gate_callee (f := 16) rfl ?_); refine gl_ (some 53) (Try.func16) #[.slice Ao21 t171.length co21, .slice Ao43 t179.length co43] ?_; (with_reducible refine (laws_eqEdgeS.calls kj12 _ _ t171 _ _ t179 false _ ?side1 ?side2 ?side3 ?side4 A27.out).mono ?_); (case side1 => repeat (first | exact (Kd.R_reads' HO_10.out).2.2 | (with_reducible refine Kd.C_alloc ?_ _) | (with_reducible refine Kd.C_drewN ?_ _) | (with_reducible refine Kd.C_drew ?_))); (case side2 => exact (Kd.R_reads' HO_10.out).2.1); (case side3 => repeat (first | exact (Kd.R_reads' HO181.out).2.2 | (with_reducible refine Kd.C_alloc ?_ _) | (with_reducible refine Kd.C_drewN ?_ _) | (with_reducible refine Kd.C_drew ?_))); (case side4 => exact (Kd.R_reads' HO181.out).2.1); rintro e w44 ⟨rfl, hb⟩; refine ⟨_, rfl, ?_⟩; have n0_ := Aside0.mk (Kd.R_below (lR HO_10.out) hb); have n1_ := Aside0.mk (Kd.R_below (lR HO_11.out) hb); have n2_ := Aside0.mk (Kd.R_below (lR HO181.out) hb); have n3_ := Aside0.mk (below_step lB hb); clear HO_10; clear HO_11; clear HO181; clear HB; have HO_10 := n0_; have HO_11 := n1_; have HO181 := n2_; have HB := n3_; clear n0_ n1_ n2_ n3_; (try clear hb); (try clear hb2); (try clear hk); (try clear hi)))
       go_ret
       exact ⟨lE, lB⟩

end Go.Proofs.Ytpnhlccdhflogaa.Q
