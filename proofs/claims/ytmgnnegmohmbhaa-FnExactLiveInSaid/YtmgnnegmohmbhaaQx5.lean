-- Written by the program wip/tools/pr.py of this claim's session, over the kit's print.py.
import Derived.Test.YtmgnnegmohmbhaaQx0
import Derived.Test.YtmgnnegmohmbhaaQx3
import Derived.Test.YtmgnnegmohmbhaaQx4
namespace Go.Proofs.Ytmgnnegmohmbhaa.Q
open Go.RowKit Go.Proofs.YtmgnnegmohmbhaaW.PrintWords Go.Proofs.YtmgnnegmohmbhaaW.PrintLast Go.Proofs.YtmgnnegmohmbhaaW.PrintMore
attribute [local go_sem] max2_int min2_int max_two min_two max_three min_three max_four min_four   -- for this text's walks alone
set_option linter.unusedVariables false
set_option linter.unusedSimpArgs false

/-! ### spec_l15Live: function 38 -/
mutual
def spec_l15Live.l0 : Nat → List Int → List Int → Int → Int → List (S44) → List Int → Bool → Option (List Int)
 | 0, _, _, _, _, _, _, _ => none
 | k + 1, x3, x10, x11, x12, x210000, x210001, x210002 => if x12 < x11 then (if 0 ≤ x12 then (if x12 < (x10.length : Int) then (if (rd x10 x12) ≥ 0 then ((spec_l1Has.f k x3 (rd x10 x12)).bind fun t211 => (if t211 = true then (spec_l15Live.l0 k x3 x10 x11 (wrap64 (x12 + 1)) x210000 x210001 x210002) else (if x3.length < 17592186044416 then (spec_l15Live.l0 k (x3 ++ [rd x10 x12]) x10 x11 (wrap64 (x12 + 1)) x210000 x210001 x210002) else (none)))) else (spec_l15Live.l0 k x3 x10 x11 (wrap64 (x12 + 1)) x210000 x210001 x210002)) else (none)) else (none)) else (spec_l15Live.l1 k x3 0 x210000 x210001 x210002)
def spec_l15Live.l1 : Nat → List Int → Int → List (S44) → List Int → Bool → Option (List Int)
 | 0, _, _, _, _, _ => none
 | k + 1, x3, x6, x210000, x210001, x210002 => if x6 < (x3.length : Int) then (if 0 ≤ x6 then (if 0 ≤ (rd x3 x6) then (if (rd x3 x6) < (x210000.length : Int) then (spec_l15Live.l2 k x3 x6 ((rd_T44 x210000 (rd x3 x6)).f0) (((rd_T44 x210000 (rd x3 x6)).f0).length : Int) 0 x210000 x210001 x210002) else (none)) else (none)) else (none)) else ((spec_l14Sorted.f k x3).bind fun t215 => (some t215))
def spec_l15Live.l2 : Nat → List Int → Int → List Int → Int → Int → List (S44) → List Int → Bool → Option (List Int)
 | 0, _, _, _, _, _, _, _, _ => none
 | k + 1, x3, x6, x43, x44, x45, x210000, x210001, x210002 => if x45 < x44 then (if 0 ≤ x45 then (if x45 < (x43.length : Int) then (if (rd x43 x45) ≥ 0 then ((spec_l1Has.f k x3 (rd x43 x45)).bind fun t221 => (if t221 = true then (spec_l15Live.l2 k x3 x6 x43 x44 (wrap64 (x45 + 1)) x210000 x210001 x210002) else (if x3.length < 17592186044416 then (spec_l15Live.l2 k (x3 ++ [rd x43 x45]) x6 x43 x44 (wrap64 (x45 + 1)) x210000 x210001 x210002) else (none)))) else (spec_l15Live.l2 k x3 x6 x43 x44 (wrap64 (x45 + 1)) x210000 x210001 x210002)) else (none)) else (none)) else (spec_l15Live.l1 k x3 (wrap64 (x6 + 1)) x210000 x210001 x210002)
end
def spec_l15Live.f (k : Nat) (l0_0 : List (S44)) (l0_1 : List Int) (a0_2 : Bool) : Option (List Int) := spec_l15Live.l0 k ([] : List Int) l0_1 (l0_1.length : Int) 0 l0_0 l0_1 a0_2
theorem spec_l15Live.mono_l : ∀ k, (∀ y0 y1 y2 y3 y4 y5 y6, LeO (spec_l15Live.l0 k y0 y1 y2 y3 y4 y5 y6) (spec_l15Live.l0 (k + 1) y0 y1 y2 y3 y4 y5 y6)) ∧ (∀ y0 y1 y2 y3 y4, LeO (spec_l15Live.l1 k y0 y1 y2 y3 y4) (spec_l15Live.l1 (k + 1) y0 y1 y2 y3 y4)) ∧ (∀ y0 y1 y2 y3 y4 y5 y6 y7, LeO (spec_l15Live.l2 k y0 y1 y2 y3 y4 y5 y6 y7) (spec_l15Live.l2 (k + 1) y0 y1 y2 y3 y4 y5 y6 y7))
 | 0 => ⟨fun _ _ _ _ _ _ _ r h => by simp [spec_l15Live.l0] at h, fun _ _ _ _ _ r h => by simp [spec_l15Live.l1] at h, fun _ _ _ _ _ _ _ _ r h => by simp [spec_l15Live.l2] at h⟩
 | k + 1 => by
  obtain ⟨ih0, ih1, ih2⟩ := spec_l15Live.mono_l k
  refine ⟨?_, ?_, ?_⟩
  ·intro y0 y1 y2 y3 y4 y5 y6
   unfold spec_l15Live.l0
   repeat' first
   | with_reducible apply ih0
   | with_reducible apply ih1
   | with_reducible apply ih2
   | with_reducible apply spec_l14Sorted.mono
   | with_reducible apply spec_l1Has.mono
   | (with_reducible exact LeO.refl _)
   | (with_reducible exact LeO.none _)
   | (with_reducible refine LeO.ite ?_ ?_)
   | (with_reducible refine LeO.bind ?_ (fun _ => ?_))
   | apply ih0
   | apply ih1
   | apply ih2
   | apply spec_l14Sorted.mono
   | apply spec_l1Has.mono
   | exact LeO.none _
   | refine LeO.ite ?_ ?_
   | refine LeO.bind ?_ (fun _ => ?_)
  ·intro y0 y1 y2 y3 y4
   unfold spec_l15Live.l1
   repeat' first
   | with_reducible apply ih0
   | with_reducible apply ih1
   | with_reducible apply ih2
   | with_reducible apply spec_l14Sorted.mono
   | with_reducible apply spec_l1Has.mono
   | (with_reducible exact LeO.refl _)
   | (with_reducible exact LeO.none _)
   | (with_reducible refine LeO.ite ?_ ?_)
   | (with_reducible refine LeO.bind ?_ (fun _ => ?_))
   | apply ih0
   | apply ih1
   | apply ih2
   | apply spec_l14Sorted.mono
   | apply spec_l1Has.mono
   | exact LeO.none _
   | refine LeO.ite ?_ ?_
   | refine LeO.bind ?_ (fun _ => ?_)
  ·intro y0 y1 y2 y3 y4 y5 y6 y7
   unfold spec_l15Live.l2
   repeat' first
   | with_reducible apply ih0
   | with_reducible apply ih1
   | with_reducible apply ih2
   | with_reducible apply spec_l14Sorted.mono
   | with_reducible apply spec_l1Has.mono
   | (with_reducible exact LeO.refl _)
   | (with_reducible exact LeO.none _)
   | (with_reducible refine LeO.ite ?_ ?_)
   | (with_reducible refine LeO.bind ?_ (fun _ => ?_))
   | apply ih0
   | apply ih1
   | apply ih2
   | apply spec_l14Sorted.mono
   | apply spec_l1Has.mono
   | exact LeO.none _
   | refine LeO.ite ?_ ?_
   | refine LeO.bind ?_ (fun _ => ?_)
theorem spec_l15Live.mono : ∀ a0 a1 a2 k, LeO (spec_l15Live.f k a0 a1 a2) (spec_l15Live.f (k + 1) a0 a1 a2) := by
 intro a0 a1 a2 k
 obtain ⟨ih0, ih1, ih2⟩ := spec_l15Live.mono_l k
 unfold spec_l15Live.f
 repeat' first
   | with_reducible apply ih0
   | with_reducible apply ih1
   | with_reducible apply ih2
   | with_reducible apply spec_l14Sorted.mono
   | with_reducible apply spec_l1Has.mono
   | (with_reducible exact LeO.refl _)
   | (with_reducible exact LeO.none _)
   | (with_reducible refine LeO.ite ?_ ?_)
   | (with_reducible refine LeO.bind ?_ (fun _ => ?_))
   | apply ih0
   | apply ih1
   | apply ih2
   | apply spec_l14Sorted.mono
   | apply spec_l1Has.mono
   | exact LeO.none _
   | refine LeO.ite ?_ ?_
   | refine LeO.bind ?_ (fun _ => ?_)
set_option maxHeartbeats 8000000 in
set_option maxRecDepth 100000 in
theorem spec_l15Live.calls (k : Nat) (A0_0 : Option Addr) (c0_0 : Nat) (l0_0 : List (S44)) (A0_1 : Option Addr) (c0_1 : Nat) (l0_1 : List Int) (a0_2 : Bool) (r : List Int) (w : World) (hr0_0 : Kd.C k44 w A0_0 l0_0.length l0_0) (hc0_0 : l0_0.length ≤ c0_0) (hr0_1 : Kd.C (Kd.int .i64) w A0_1 l0_1.length l0_1) (hc0_1 : l0_1.length ≤ c0_1) (h : spec_l15Live.f k l0_0 l0_1 a0_2 = some r) :
  Calls Try.prog 38 #[.agg #[.slice A0_0 l0_0.length c0_0, .slice A0_1 l0_1.length c0_1, .bool a0_2]] w fun e w' => ∃ v0_ : Value, e = .returned (v0_) ∧ Kd.R (Kd.int .i64) 3 w' w.heap.size (fun _ => True) v0_ r ∧ Below w.heap.size w w' := by
 have hu25 := Try.underlying25
 have HR0_0 := Aside0.mk hr0_0
 have HC0_0 := Aside0.mk hc0_0
 clear hr0_0 hc0_0
 have HR0_1 := Aside0.mk hr0_1
 have HC0_1 := Aside0.mk hc0_1
 clear hr0_1 hc0_1
 have HB := Aside0.mk (Below.refl w.heap.size w)
 have H : (spec_l15Live.l0 k ([] : List Int) l0_1 (l0_1.length : Int) 0 l0_0 l0_1 a0_2) = some r := h
 clear h
 have H' := Aside0.mk H
 clear H
 go_enter Try.func38, Try.ntmps38
 go_wp2_with (first | ((with_reducible refine gate_dst (N := 1) rfl ?_); refine bxe 1 #[.slice A0_0 l0_0.length c0_0, .slice A0_1 l0_1.length c0_1, .bool a0_2] 25 ?_; intro gb209 hg w2 hbox hb; have n0_ := Aside0.mk (below_step lB hb); have n1_ := Aside0.mk (hbox); have n2_ := lG w hg; have n3_ := lG w hg; clear HB; have HB := n0_; have BK209 := n1_; have GW209 := n2_; have GE209 := n3_; clear n0_ n1_ n2_ n3_; clear hb hbox hg; obtain ⟨hcz3_0, hfz3_0, hcz3_1, hfz3_1, hcz3_2, hfz3_2⟩ := bk3 BK209.out))
 repeat (go_quiet (fail); try go_wp2_with (first | ((with_reducible refine gate_dst (N := 1) rfl ?_); refine bxe 1 #[.slice A0_0 l0_0.length c0_0, .slice A0_1 l0_1.length c0_1, .bool a0_2] 25 ?_; intro gb209 hg w2 hbox hb; have n0_ := Aside0.mk (below_step lB hb); have n1_ := Aside0.mk (hbox); have n2_ := lG w hg; have n3_ := lG w hg; clear HB; have HB := n0_; have BK209 := n1_; have GW209 := n2_; have GE209 := n3_; clear n0_ n1_ n2_ n3_; clear hb hbox hg; obtain ⟨hcz3_0, hfz3_0, hcz3_1, hfz3_1, hcz3_2, hfz3_2⟩ := bk3 BK209.out)))
 go_loopg [3, 12] k (fun kq v3 v12 w' => ∃ (x3_1 : List Int) (x12_1 : Int), v12 = .int .i64 x12_1 ∧ Aside0 (spec_l15Live.l0 kq x3_1 l0_1 (l0_1.length : Int) x12_1 l0_0 l0_1 a0_2 = some r) ∧ Aside0 (kq ≤ k) ∧ Aside0 (Kd.R (Kd.int .i64) 3 w' w.heap.size (fun _ => True) v3 x3_1) ∧ Aside0 (w'.heap[gb209]? = some (.cells #[(.slice A0_0 l0_0.length c0_0), (.slice A0_1 l0_1.length c0_1), .bool a0_2] 25 (0, 0))) ∧ Aside0 (Below w.heap.size w w'))
 case atStart => exact ⟨(([] : List Int)), (0), lF, H', ⟨Nat.le_refl _⟩, ⟨by first | exact Kd.R_nil _ _ _ _ _ | exact Kd.N_nil _ _ _ _ _ | exact Kd.V_nil _ _ _ _ _ | exact Kd.Q_nil _ _ _ _ _ | exact Kd.S_nil _ _ _ _ _⟩, ⟨lK BK209.out⟩, ⟨lB⟩⟩
 case round =>
  clear H'
  try clear p2
  try clear c3
  try clear hcz3_0 hcz3_1 hcz3_2 hfz3_0 hfz3_1 hfz3_2
  obtain ⟨x3_1, x12_1, rfl, HA, HK1, HO_3, BK209, HB⟩ := hrel
  cases gk with
  | zero => exact absurd HA.out (by simp [spec_l15Live.l0])
  | succ k1 =>
   have H := HA.out
   clear HA
   simp only [spec_l15Live.l0] at H
   by_cases c4 : x12_1 < (l0_1.length : Int)
   ·rw [if_pos c4] at H
    have c4b0 : decide (x12_1 < (l0_1.length : Int)) = true := decide_eq_true c4
    clear c4
    by_cases c5 : 0 ≤ x12_1
    ·rw [if_pos c5] at H
     have c5b0 : decide (0 ≤ x12_1) = true := decide_eq_true c5
     clear c5
     by_cases c6 : x12_1 < (l0_1.length : Int)
     ·rw [if_pos c6] at H
      have c6b0 : decide (x12_1 < (l0_1.length : Int)) = true := decide_eq_true c6
      clear c6
      by_cases c7 : (rd l0_1 x12_1) ≥ 0
      ·rw [if_pos c7] at H
       have c7b0 : decide (0 ≤ (rd l0_1 x12_1)) = true := decide_eq_true c7
       clear c7
       replace H := lO H
       obtain ⟨t211, A8, H⟩ := H
       by_cases c9 : t211 = true
       ·subst c9
        rw [if_pos rfl] at H
        have H' := Aside0.mk H
        clear H
        have p210 : 0 ≤ (x12_1 : Int) := lD
        have q210 : x12_1 < (l0_1.length : Int) := lD
        obtain ⟨ad210, e210, hx210_0⟩ := Kd.at_int HR0_1.out x12_1 p210 q210
        cases e210
        replace hx210_0 := pw_cell_below HB.out hx210_0
        replace p210 := eq_true p210
        replace q210 := eq_true q210
        obtain ⟨Ao10, co10, eo10⟩ := Kd.R_slice HO_3.out
        subst eo10
        go_wp2_with (first | (go_at_call 46; (with_reducible refine (spec_l1Has.calls k1 _ _ x3_1 (rd l0_1 x12_1) true _ ?side1 ?side2 A8.out).mono ?_); (case side1 => repeat (first | exact (Kd.R_reads' HO_3.out).2.2 | (with_reducible refine Kd.C_alloc ?_ _) | (with_reducible refine Kd.C_drewN ?_ _) | (with_reducible refine Kd.C_drew ?_))); (case side2 => exact (Kd.R_reads' HO_3.out).2.1); rintro e w' ⟨rfl, ⟨nd, rfl⟩⟩; (try first | exact ⟨rfl, _, World.drewN_drewN _ _ _⟩ | exact ⟨rfl, _, Eq.trans (World.drewN_drewN _ _ _) (congrArg (World.drewN _) (Nat.add_assoc _ _ _))⟩)))
        repeat (go_quiet (first | (go_at_call 46; (with_reducible refine (spec_l1Has.calls k1 _ _ x3_1 (rd l0_1 x12_1) true _ ?side1 ?side2 A8.out).mono ?_); (case side1 => repeat (first | exact (Kd.R_reads' HO_3.out).2.2 | (with_reducible refine Kd.C_alloc ?_ _) | (with_reducible refine Kd.C_drewN ?_ _) | (with_reducible refine Kd.C_drew ?_))); (case side2 => exact (Kd.R_reads' HO_3.out).2.1); rintro e w' ⟨rfl, ⟨nd, rfl⟩⟩; (try first | exact ⟨rfl, _, World.drewN_drewN _ _ _⟩ | exact ⟨rfl, _, Eq.trans (World.drewN_drewN _ _ _) (congrArg (World.drewN _) (Nat.add_assoc _ _ _))⟩))); try go_wp2_with (first | (go_at_call 46; (with_reducible refine (spec_l1Has.calls k1 _ _ x3_1 (rd l0_1 x12_1) true _ ?side1 ?side2 A8.out).mono ?_); (case side1 => repeat (first | exact (Kd.R_reads' HO_3.out).2.2 | (with_reducible refine Kd.C_alloc ?_ _) | (with_reducible refine Kd.C_drewN ?_ _) | (with_reducible refine Kd.C_drew ?_))); (case side2 => exact (Kd.R_reads' HO_3.out).2.1); rintro e w' ⟨rfl, ⟨nd, rfl⟩⟩; (try first | exact ⟨rfl, _, World.drewN_drewN _ _ _⟩ | exact ⟨rfl, _, Eq.trans (World.drewN_drewN _ _ _) (congrArg (World.drewN _) (Nat.add_assoc _ _ _))⟩))))
        go_roundg k1
        case measure => have := HK1.out; omega
        case rel => exact ⟨(x3_1), (wrap64 (x12_1 + 1)), lF, H', ⟨by have := HK1.out; omega⟩, ⟨lR HO_3.out⟩, ⟨lK BK209.out⟩, ⟨lB⟩⟩
       ·replace c9 := Bool.eq_false_iff.mpr c9
        subst c9
        rw [if_neg (show ¬ (false = true) by decide)] at H
        by_cases c11 : x3_1.length < 17592186044416
        ·rw [if_pos c11] at H
         have LMc11 := Aside0.mk c11
         clear c11
         obtain ⟨y212, hy212⟩ : ∃ y_ : List Int, y_ = (x3_1 ++ [rd l0_1 x12_1]) := ⟨_, rfl⟩
         replace H : (spec_l15Live.l0 k1 y212 l0_1 (l0_1.length : Int) (wrap64 (x12_1 + 1)) l0_0 l0_1 a0_2) = some r := by first | (rw [hy212]; with_reducible exact H) | (have H2_ := (Option.bind_some _ _).symm.trans H; rw [hy212]; with_reducible exact H2_) | (have H2_ := (Option.bind_some _ _).symm.trans H; with_reducible exact H2_) | with_reducible exact H | (rw [hy212]; exact H) | exact H
         have Ny212 := Aside0.mk hy212
         clear hy212
         have H' := Aside0.mk H
         clear H
         have p210 : 0 ≤ (x12_1 : Int) := lD
         have q210 : x12_1 < (l0_1.length : Int) := lD
         obtain ⟨ad210, e210, hx210_0⟩ := Kd.at_int HR0_1.out x12_1 p210 q210
         cases e210
         replace hx210_0 := pw_cell_below HB.out hx210_0
         replace p210 := eq_true p210
         replace q210 := eq_true q210
         obtain ⟨Ao12, co12, eo12⟩ := Kd.R_slice HO_3.out
         subst eo12
         go_wp2_with (first | (go_at_call 46; (with_reducible refine (spec_l1Has.calls k1 _ _ x3_1 (rd l0_1 x12_1) false _ ?side1 ?side2 A8.out).mono ?_); (case side1 => repeat (first | exact (Kd.R_reads' HO_3.out).2.2 | (with_reducible refine Kd.C_alloc ?_ _) | (with_reducible refine Kd.C_drewN ?_ _) | (with_reducible refine Kd.C_drew ?_))); (case side2 => exact (Kd.R_reads' HO_3.out).2.1); rintro e w' ⟨rfl, ⟨nd, rfl⟩⟩; (try first | exact ⟨rfl, _, World.drewN_drewN _ _ _⟩ | exact ⟨rfl, _, Eq.trans (World.drewN_drewN _ _ _) (congrArg (World.drewN _) (Nat.add_assoc _ _ _))⟩)) | ((with_reducible refine gate_builtin (b := .append) (xs := #[.tmp 24, .tmp 26]) rfl ?_); at_builtin; refine Kd.R_append (Kd.int .i64) (w0 := w) w.heap.size rfl (.tmp 24) (.tmp 26) 23 3 (.int .i64 0) 8 rfl Try.underlying23 info3 rfl (by decide) (by omega) (.slice Ao12 x3_1.length co12) x3_1 (rd l0_1 x12_1) [.int .i64 (rd l0_1 x12_1)] (fun _ => True) (fun _ => False) rfl rfl ?aP (fun _ hk => hk.elim) ?aF ?aO ?aB ?aS ?aL ?_; (case aP => exact rfl); (case aB => exact lB); (case aF => exact (fun _ _ => trivial)); (case aO => exact (lR HO_3.out)); (case aS => exact (below_size lB)); (case aL => have := LMc11.out; omega); intro v213 w13 ho hb hg hat; rw [← Ny212.out] at ho; have n0_ := Aside0.mk (blk_grown (lK BK209.out) hg (Kd.R_ne HO_3.out BK209.out (by decide))); have n1_ := Aside0.mk (hb); have n2_ := Aside0.mk (ho); clear BK209; clear HB; clear HO_3; have BK209 := n0_; have HB := n1_; have HO214 := n2_; clear n0_ n1_ n2_; clear ho hb hg hat))
         repeat (go_quiet (first | (go_at_call 46; (with_reducible refine (spec_l1Has.calls k1 _ _ x3_1 (rd l0_1 x12_1) false _ ?side1 ?side2 A8.out).mono ?_); (case side1 => repeat (first | exact (Kd.R_reads' HO_3.out).2.2 | (with_reducible refine Kd.C_alloc ?_ _) | (with_reducible refine Kd.C_drewN ?_ _) | (with_reducible refine Kd.C_drew ?_))); (case side2 => exact (Kd.R_reads' HO_3.out).2.1); rintro e w' ⟨rfl, ⟨nd, rfl⟩⟩; (try first | exact ⟨rfl, _, World.drewN_drewN _ _ _⟩ | exact ⟨rfl, _, Eq.trans (World.drewN_drewN _ _ _) (congrArg (World.drewN _) (Nat.add_assoc _ _ _))⟩))); try go_wp2_with (first | (go_at_call 46; (with_reducible refine (spec_l1Has.calls k1 _ _ x3_1 (rd l0_1 x12_1) false _ ?side1 ?side2 A8.out).mono ?_); (case side1 => repeat (first | exact (Kd.R_reads' HO_3.out).2.2 | (with_reducible refine Kd.C_alloc ?_ _) | (with_reducible refine Kd.C_drewN ?_ _) | (with_reducible refine Kd.C_drew ?_))); (case side2 => exact (Kd.R_reads' HO_3.out).2.1); rintro e w' ⟨rfl, ⟨nd, rfl⟩⟩; (try first | exact ⟨rfl, _, World.drewN_drewN _ _ _⟩ | exact ⟨rfl, _, Eq.trans (World.drewN_drewN _ _ _) (congrArg (World.drewN _) (Nat.add_assoc _ _ _))⟩)) | ((with_reducible refine gate_builtin (b := .append) (xs := #[.tmp 24, .tmp 26]) rfl ?_); at_builtin; refine Kd.R_append (Kd.int .i64) (w0 := w) w.heap.size rfl (.tmp 24) (.tmp 26) 23 3 (.int .i64 0) 8 rfl Try.underlying23 info3 rfl (by decide) (by omega) (.slice Ao12 x3_1.length co12) x3_1 (rd l0_1 x12_1) [.int .i64 (rd l0_1 x12_1)] (fun _ => True) (fun _ => False) rfl rfl ?aP (fun _ hk => hk.elim) ?aF ?aO ?aB ?aS ?aL ?_; (case aP => exact rfl); (case aB => exact lB); (case aF => exact (fun _ _ => trivial)); (case aO => exact (lR HO_3.out)); (case aS => exact (below_size lB)); (case aL => have := LMc11.out; omega); intro v213 w13 ho hb hg hat; rw [← Ny212.out] at ho; have n0_ := Aside0.mk (blk_grown (lK BK209.out) hg (Kd.R_ne HO_3.out BK209.out (by decide))); have n1_ := Aside0.mk (hb); have n2_ := Aside0.mk (ho); clear BK209; clear HB; clear HO_3; have BK209 := n0_; have HB := n1_; have HO214 := n2_; clear n0_ n1_ n2_; clear ho hb hg hat)))
         go_roundg k1
         case measure => have := HK1.out; omega
         case rel => exact ⟨(y212), (wrap64 (x12_1 + 1)), lF, H', ⟨by have := HK1.out; omega⟩, ⟨lR HO214.out⟩, ⟨lK BK209.out⟩, ⟨lB⟩⟩
        ·rw [if_neg c11] at H
         exact absurd H (by simp)
      ·rw [if_neg c7] at H
       have c7b0 : decide (0 ≤ (rd l0_1 x12_1)) = false := decide_eq_false c7
       clear c7
       have H' := Aside0.mk H
       clear H
       have p210 : 0 ≤ (x12_1 : Int) := lD
       have q210 : x12_1 < (l0_1.length : Int) := lD
       obtain ⟨ad210, e210, hx210_0⟩ := Kd.at_int HR0_1.out x12_1 p210 q210
       cases e210
       replace hx210_0 := pw_cell_below HB.out hx210_0
       replace p210 := eq_true p210
       replace q210 := eq_true q210
       go_wp2
       repeat (go_quiet (fail); try go_wp2)
       go_roundg k1
       case measure => have := HK1.out; omega
       case rel => exact ⟨(x3_1), (wrap64 (x12_1 + 1)), lF, H', ⟨by have := HK1.out; omega⟩, ⟨lR HO_3.out⟩, ⟨lK BK209.out⟩, ⟨lB⟩⟩
     ·rw [if_neg c6] at H
      exact absurd H (by simp)
    ·rw [if_neg c5] at H
     exact absurd H (by simp)
   ·rw [if_neg c4] at H
    have c4b0 : decide (x12_1 < (l0_1.length : Int)) = false := decide_eq_false c4
    clear c4
    have H' := Aside0.mk H
    clear H
    go_wp2
    repeat (go_quiet (fail); try go_wp2)
    go_loopg [3, 6] k1 (fun kq v3 v6 w' => ∃ (x3_2 : List Int) (x6_2 : Int), v6 = .int .i64 x6_2 ∧ Aside0 (spec_l15Live.l1 kq x3_2 x6_2 l0_0 l0_1 a0_2 = some r) ∧ Aside0 (kq ≤ k1) ∧ Aside0 (Kd.R (Kd.int .i64) 3 w' w.heap.size (fun _ => True) v3 x3_2) ∧ Aside0 (w'.heap[gb209]? = some (.cells #[(.slice A0_0 l0_0.length c0_0), (.slice A0_1 l0_1.length c0_1), .bool a0_2] 25 (0, 0))) ∧ Aside0 (Below w.heap.size w w'))
    case atStart => exact ⟨(x3_1), (0), lF, H', ⟨Nat.le_refl _⟩, ⟨lR HO_3.out⟩, ⟨lK BK209.out⟩, ⟨lB⟩⟩
    case round =>
     clear H'
     try clear c1
     try clear p2
     try clear q2
     try clear hx2
     try clear c3
     try clear c4
     try clear c4b0
     try clear c5
     try clear c5b0
     try clear c6
     try clear c6b0
     try clear p6
     try clear c7
     try clear c7b0
     try clear c9
     try clear c11
     try clear hcz3_0 hcz3_1 hcz3_2 hfz3_0 hfz3_1 hfz3_2
     try clear hx210_0
     try clear p2
     try clear p210
     try clear q210
     obtain ⟨x3_2, x6_2, rfl, HA, HK2, HO_3, BK209, HB⟩ := hrel
     cases gk with
     | zero => exact absurd HA.out (by simp [spec_l15Live.l1])
     | succ k2 =>
      have H := HA.out
      clear HA
      simp only [spec_l15Live.l1] at H
      by_cases c14 : x6_2 < (x3_2.length : Int)
      ·rw [if_pos c14] at H
       have c14b0 : decide (x6_2 < (x3_2.length : Int)) = true := decide_eq_true c14
       clear c14
       by_cases c15 : 0 ≤ x6_2
       ·rw [if_pos c15] at H
        have c15b0 : decide (0 ≤ x6_2) = true := decide_eq_true c15
        clear c15
        by_cases c16 : 0 ≤ (rd x3_2 x6_2)
        ·rw [if_pos c16] at H
         have c16b0 : decide (0 ≤ (rd x3_2 x6_2)) = true := decide_eq_true c16
         clear c16
         by_cases c17 : (rd x3_2 x6_2) < (l0_0.length : Int)
         ·rw [if_pos c17] at H
          have c17b0 : decide ((rd x3_2 x6_2) < (l0_0.length : Int)) = true := decide_eq_true c17
          clear c17
          have H' := Aside0.mk H
          clear H
          obtain ⟨Ao18, co18, eo18⟩ := Kd.R_slice HO_3.out
          subst eo18
          obtain ⟨hcz19_0, hfz19_0, hcz19_1, hfz19_1, hcz19_2, hfz19_2⟩ := bk3 BK209.out
          have p218 : 0 ≤ (x6_2 : Int) := lD
          have q218 : x6_2 < (x3_2.length : Int) := lD
          obtain ⟨ad218, e218, hx218_0⟩ := Kd.at_int (Kd.R_reads' HO_3.out).2.2 x6_2 p218 q218
          cases e218
          replace p218 := eq_true p218
          replace q218 := eq_true q218
          have p219 : 0 ≤ ((rd x3_2 x6_2) : Int) := lD
          have q219 : (rd x3_2 x6_2) < (l0_0.length : Int) := lD
          obtain ⟨ad219, A219_0, c219_0, e219, hx219_0, hx219_1, hx219_2, hl219_0, hi219_0⟩ := at_T44 HR0_0.out (rd x3_2 x6_2) p219 q219
          cases e219
          replace hx219_0 := pw_cell_below HB.out hx219_0
          replace hx219_1 := pw_cell_below HB.out hx219_1
          replace hx219_2 := pw_cell_below HB.out hx219_2
          have HR219_0 := Aside0.mk hi219_0
          have HC219_0 := Aside0.mk hl219_0
          clear hi219_0 hl219_0
          replace p219 := eq_true p219
          replace q219 := eq_true q219
          go_wp2
          repeat (go_quiet (fail); try go_wp2)
          go_loopg [3, 45] k2 (fun kq v3 v45 w' => ∃ (x3_3 : List Int) (x45_3 : Int), v45 = .int .i64 x45_3 ∧ Aside0 (spec_l15Live.l2 kq x3_3 x6_2 ((rd_T44 l0_0 (rd x3_2 x6_2)).f0) (((rd_T44 l0_0 (rd x3_2 x6_2)).f0).length : Int) x45_3 l0_0 l0_1 a0_2 = some r) ∧ Aside0 (kq ≤ k2) ∧ Aside0 (Kd.R (Kd.int .i64) 3 w' w.heap.size (fun _ => True) v3 x3_3) ∧ Aside0 (w'.heap[gb209]? = some (.cells #[(.slice (some ad219) l0_0.length c0_0), (.slice A0_1 l0_1.length c0_1), .bool a0_2] 25 (0, 0))) ∧ Aside0 (Below w.heap.size w w'))
          case atStart => exact ⟨(x3_2), (0), lF, H', ⟨Nat.le_refl _⟩, ⟨lR HO_3.out⟩, ⟨lK BK209.out⟩, ⟨lB⟩⟩
          case round =>
           clear H'
           try clear c1
           try clear c2
           try clear p2
           try clear q2
           try clear hx2
           try clear c3
           try clear c4
           try clear c4b0
           try clear c5
           try clear c5b0
           try clear c6
           try clear c6b0
           try clear p6
           try clear c7
           try clear c7b0
           try clear c9
           try clear c11
           try clear c14
           try clear c14b0
           try clear c15
           try clear c15b0
           try clear c16
           try clear c16b0
           try clear c17
           try clear c17b0
           try clear hcz19_0 hcz19_1 hcz19_2
           try clear hcz3_0 hcz3_1 hcz3_2
           try clear hfz19_0 hfz19_1 hfz19_2
           try clear hfz3_0 hfz3_1 hfz3_2
           try clear hx210_0
           try clear hx218_0
           try clear hx219_0
           try clear hx219_1
           try clear hx219_2
           try clear p2
           try clear p210
           try clear p218
           try clear p219
           try clear p6
           try clear q2
           try clear q210
           try clear q218
           try clear q219
           obtain ⟨x3_3, x45_3, rfl, HA, HK3, HO_3, BK209, HB⟩ := hrel
           cases gk with
           | zero => exact absurd HA.out (by simp [spec_l15Live.l2])
           | succ k3 =>
            have H := HA.out
            clear HA
            simp only [spec_l15Live.l2] at H
            by_cases c20 : x45_3 < (((rd_T44 l0_0 (rd x3_2 x6_2)).f0).length : Int)
            ·rw [if_pos c20] at H
             have c20b0 : decide (x45_3 < (((rd_T44 l0_0 (rd x3_2 x6_2)).f0).length : Int)) = true := decide_eq_true c20
             clear c20
             by_cases c21 : 0 ≤ x45_3
             ·rw [if_pos c21] at H
              have c21b0 : decide (0 ≤ x45_3) = true := decide_eq_true c21
              clear c21
              by_cases c22 : x45_3 < (((rd_T44 l0_0 (rd x3_2 x6_2)).f0).length : Int)
              ·rw [if_pos c22] at H
               have c22b0 : decide (x45_3 < (((rd_T44 l0_0 (rd x3_2 x6_2)).f0).length : Int)) = true := decide_eq_true c22
               clear c22
               by_cases c23 : (rd ((rd_T44 l0_0 (rd x3_2 x6_2)).f0) x45_3) ≥ 0
               ·rw [if_pos c23] at H
                have c23b0 : decide (0 ≤ (rd ((rd_T44 l0_0 (rd x3_2 x6_2)).f0) x45_3)) = true := decide_eq_true c23
                clear c23
                replace H := lO H
                obtain ⟨t221, A24, H⟩ := H
                by_cases c25 : t221 = true
                ·subst c25
                 rw [if_pos rfl] at H
                 have H' := Aside0.mk H
                 clear H
                 have p220 : 0 ≤ (x45_3 : Int) := lD
                 have q220 : x45_3 < (((rd_T44 l0_0 (rd x3_2 x6_2)).f0).length : Int) := lD
                 obtain ⟨ad220, e220, hx220_0⟩ := Kd.at_int HR219_0.out x45_3 p220 q220
                 cases e220
                 replace hx220_0 := pw_cell_below HB.out hx220_0
                 replace p220 := eq_true p220
                 replace q220 := eq_true q220
                 obtain ⟨Ao26, co26, eo26⟩ := Kd.R_slice HO_3.out
                 subst eo26
                 go_wp2_with (first | (go_at_call 46; (with_reducible refine (spec_l1Has.calls k3 _ _ x3_3 (rd ((rd_T44 l0_0 (rd x3_2 x6_2)).f0) x45_3) true _ ?side1 ?side2 A24.out).mono ?_); (case side1 => repeat (first | exact (Kd.R_reads' HO_3.out).2.2 | (with_reducible refine Kd.C_alloc ?_ _) | (with_reducible refine Kd.C_drewN ?_ _) | (with_reducible refine Kd.C_drew ?_))); (case side2 => exact (Kd.R_reads' HO_3.out).2.1); rintro e w' ⟨rfl, ⟨nd, rfl⟩⟩; (try first | exact ⟨rfl, _, World.drewN_drewN _ _ _⟩ | exact ⟨rfl, _, Eq.trans (World.drewN_drewN _ _ _) (congrArg (World.drewN _) (Nat.add_assoc _ _ _))⟩)))
                 repeat (go_quiet (first | (go_at_call 46; (with_reducible refine (spec_l1Has.calls k3 _ _ x3_3 (rd ((rd_T44 l0_0 (rd x3_2 x6_2)).f0) x45_3) true _ ?side1 ?side2 A24.out).mono ?_); (case side1 => repeat (first | exact (Kd.R_reads' HO_3.out).2.2 | (with_reducible refine Kd.C_alloc ?_ _) | (with_reducible refine Kd.C_drewN ?_ _) | (with_reducible refine Kd.C_drew ?_))); (case side2 => exact (Kd.R_reads' HO_3.out).2.1); rintro e w' ⟨rfl, ⟨nd, rfl⟩⟩; (try first | exact ⟨rfl, _, World.drewN_drewN _ _ _⟩ | exact ⟨rfl, _, Eq.trans (World.drewN_drewN _ _ _) (congrArg (World.drewN _) (Nat.add_assoc _ _ _))⟩))); try go_wp2_with (first | (go_at_call 46; (with_reducible refine (spec_l1Has.calls k3 _ _ x3_3 (rd ((rd_T44 l0_0 (rd x3_2 x6_2)).f0) x45_3) true _ ?side1 ?side2 A24.out).mono ?_); (case side1 => repeat (first | exact (Kd.R_reads' HO_3.out).2.2 | (with_reducible refine Kd.C_alloc ?_ _) | (with_reducible refine Kd.C_drewN ?_ _) | (with_reducible refine Kd.C_drew ?_))); (case side2 => exact (Kd.R_reads' HO_3.out).2.1); rintro e w' ⟨rfl, ⟨nd, rfl⟩⟩; (try first | exact ⟨rfl, _, World.drewN_drewN _ _ _⟩ | exact ⟨rfl, _, Eq.trans (World.drewN_drewN _ _ _) (congrArg (World.drewN _) (Nat.add_assoc _ _ _))⟩))))
                 go_roundg k3
                 case measure => have := HK1.out; have := HK2.out; have := HK3.out; omega
                 case rel => exact ⟨(x3_3), (wrap64 (x45_3 + 1)), lF, H', ⟨by have := HK1.out; have := HK2.out; have := HK3.out; omega⟩, ⟨lR HO_3.out⟩, ⟨lK BK209.out⟩, ⟨lB⟩⟩
                ·replace c25 := Bool.eq_false_iff.mpr c25
                 subst c25
                 rw [if_neg (show ¬ (false = true) by decide)] at H
                 by_cases c27 : x3_3.length < 17592186044416
                 ·rw [if_pos c27] at H
                  have LMc27 := Aside0.mk c27
                  clear c27
                  obtain ⟨y222, hy222⟩ : ∃ y_ : List Int, y_ = (x3_3 ++ [rd ((rd_T44 l0_0 (rd x3_2 x6_2)).f0) x45_3]) := ⟨_, rfl⟩
                  replace H : (spec_l15Live.l2 k3 y222 x6_2 ((rd_T44 l0_0 (rd x3_2 x6_2)).f0) (((rd_T44 l0_0 (rd x3_2 x6_2)).f0).length : Int) (wrap64 (x45_3 + 1)) l0_0 l0_1 a0_2) = some r := by first | (rw [hy222]; with_reducible exact H) | (have H2_ := (Option.bind_some _ _).symm.trans H; rw [hy222]; with_reducible exact H2_) | (have H2_ := (Option.bind_some _ _).symm.trans H; with_reducible exact H2_) | with_reducible exact H | (rw [hy222]; exact H) | exact H
                  have Ny222 := Aside0.mk hy222
                  clear hy222
                  have H' := Aside0.mk H
                  clear H
                  have p220 : 0 ≤ (x45_3 : Int) := lD
                  have q220 : x45_3 < (((rd_T44 l0_0 (rd x3_2 x6_2)).f0).length : Int) := lD
                  obtain ⟨ad220, e220, hx220_0⟩ := Kd.at_int HR219_0.out x45_3 p220 q220
                  cases e220
                  replace hx220_0 := pw_cell_below HB.out hx220_0
                  replace p220 := eq_true p220
                  replace q220 := eq_true q220
                  obtain ⟨Ao28, co28, eo28⟩ := Kd.R_slice HO_3.out
                  subst eo28
                  go_wp2_with (first | (go_at_call 46; (with_reducible refine (spec_l1Has.calls k3 _ _ x3_3 (rd ((rd_T44 l0_0 (rd x3_2 x6_2)).f0) x45_3) false _ ?side1 ?side2 A24.out).mono ?_); (case side1 => repeat (first | exact (Kd.R_reads' HO_3.out).2.2 | (with_reducible refine Kd.C_alloc ?_ _) | (with_reducible refine Kd.C_drewN ?_ _) | (with_reducible refine Kd.C_drew ?_))); (case side2 => exact (Kd.R_reads' HO_3.out).2.1); rintro e w' ⟨rfl, ⟨nd, rfl⟩⟩; (try first | exact ⟨rfl, _, World.drewN_drewN _ _ _⟩ | exact ⟨rfl, _, Eq.trans (World.drewN_drewN _ _ _) (congrArg (World.drewN _) (Nat.add_assoc _ _ _))⟩)) | ((with_reducible refine gate_builtin (b := .append) (xs := #[.tmp 57, .tmp 59]) rfl ?_); at_builtin; refine Kd.R_append (Kd.int .i64) (w0 := w) w.heap.size rfl (.tmp 57) (.tmp 59) 23 3 (.int .i64 0) 8 rfl Try.underlying23 info3 rfl (by decide) (by omega) (.slice Ao28 x3_3.length co28) x3_3 (rd ((rd_T44 l0_0 (rd x3_2 x6_2)).f0) x45_3) [.int .i64 (rd ((rd_T44 l0_0 (rd x3_2 x6_2)).f0) x45_3)] (fun _ => True) (fun _ => False) rfl rfl ?aP (fun _ hk => hk.elim) ?aF ?aO ?aB ?aS ?aL ?_; (case aP => exact rfl); (case aB => exact lB); (case aF => exact (fun _ _ => trivial)); (case aO => exact (lR HO_3.out)); (case aS => exact (below_size lB)); (case aL => have := LMc27.out; omega); intro v223 w29 ho hb hg hat; rw [← Ny222.out] at ho; have n0_ := Aside0.mk (blk_grown (lK BK209.out) hg (Kd.R_ne HO_3.out BK209.out (by decide))); have n1_ := Aside0.mk (hb); have n2_ := Aside0.mk (ho); clear BK209; clear HB; clear HO_3; have BK209 := n0_; have HB := n1_; have HO224 := n2_; clear n0_ n1_ n2_; clear ho hb hg hat))
                  repeat (go_quiet (first | (go_at_call 46; (with_reducible refine (spec_l1Has.calls k3 _ _ x3_3 (rd ((rd_T44 l0_0 (rd x3_2 x6_2)).f0) x45_3) false _ ?side1 ?side2 A24.out).mono ?_); (case side1 => repeat (first | exact (Kd.R_reads' HO_3.out).2.2 | (with_reducible refine Kd.C_alloc ?_ _) | (with_reducible refine Kd.C_drewN ?_ _) | (with_reducible refine Kd.C_drew ?_))); (case side2 => exact (Kd.R_reads' HO_3.out).2.1); rintro e w' ⟨rfl, ⟨nd, rfl⟩⟩; (try first | exact ⟨rfl, _, World.drewN_drewN _ _ _⟩ | exact ⟨rfl, _, Eq.trans (World.drewN_drewN _ _ _) (congrArg (World.drewN _) (Nat.add_assoc _ _ _))⟩))); try go_wp2_with (first | (go_at_call 46; (with_reducible refine (spec_l1Has.calls k3 _ _ x3_3 (rd ((rd_T44 l0_0 (rd x3_2 x6_2)).f0) x45_3) false _ ?side1 ?side2 A24.out).mono ?_); (case side1 => repeat (first | exact (Kd.R_reads' HO_3.out).2.2 | (with_reducible refine Kd.C_alloc ?_ _) | (with_reducible refine Kd.C_drewN ?_ _) | (with_reducible refine Kd.C_drew ?_))); (case side2 => exact (Kd.R_reads' HO_3.out).2.1); rintro e w' ⟨rfl, ⟨nd, rfl⟩⟩; (try first | exact ⟨rfl, _, World.drewN_drewN _ _ _⟩ | exact ⟨rfl, _, Eq.trans (World.drewN_drewN _ _ _) (congrArg (World.drewN _) (Nat.add_assoc _ _ _))⟩)) | ((with_reducible refine gate_builtin (b := .append) (xs := #[.tmp 57, .tmp 59]) rfl ?_); at_builtin; refine Kd.R_append (Kd.int .i64) (w0 := w) w.heap.size rfl (.tmp 57) (.tmp 59) 23 3 (.int .i64 0) 8 rfl Try.underlying23 info3 rfl (by decide) (by omega) (.slice Ao28 x3_3.length co28) x3_3 (rd ((rd_T44 l0_0 (rd x3_2 x6_2)).f0) x45_3) [.int .i64 (rd ((rd_T44 l0_0 (rd x3_2 x6_2)).f0) x45_3)] (fun _ => True) (fun _ => False) rfl rfl ?aP (fun _ hk => hk.elim) ?aF ?aO ?aB ?aS ?aL ?_; (case aP => exact rfl); (case aB => exact lB); (case aF => exact (fun _ _ => trivial)); (case aO => exact (lR HO_3.out)); (case aS => exact (below_size lB)); (case aL => have := LMc27.out; omega); intro v223 w29 ho hb hg hat; rw [← Ny222.out] at ho; have n0_ := Aside0.mk (blk_grown (lK BK209.out) hg (Kd.R_ne HO_3.out BK209.out (by decide))); have n1_ := Aside0.mk (hb); have n2_ := Aside0.mk (ho); clear BK209; clear HB; clear HO_3; have BK209 := n0_; have HB := n1_; have HO224 := n2_; clear n0_ n1_ n2_; clear ho hb hg hat)))
                  go_roundg k3
                  case measure => have := HK1.out; have := HK2.out; have := HK3.out; omega
                  case rel => exact ⟨(y222), (wrap64 (x45_3 + 1)), lF, H', ⟨by have := HK1.out; have := HK2.out; have := HK3.out; omega⟩, ⟨lR HO224.out⟩, ⟨lK BK209.out⟩, ⟨lB⟩⟩
                 ·rw [if_neg c27] at H
                  exact absurd H (by simp)
               ·rw [if_neg c23] at H
                have c23b0 : decide (0 ≤ (rd ((rd_T44 l0_0 (rd x3_2 x6_2)).f0) x45_3)) = false := decide_eq_false c23
                clear c23
                have H' := Aside0.mk H
                clear H
                have p220 : 0 ≤ (x45_3 : Int) := lD
                have q220 : x45_3 < (((rd_T44 l0_0 (rd x3_2 x6_2)).f0).length : Int) := lD
                obtain ⟨ad220, e220, hx220_0⟩ := Kd.at_int HR219_0.out x45_3 p220 q220
                cases e220
                replace hx220_0 := pw_cell_below HB.out hx220_0
                replace p220 := eq_true p220
                replace q220 := eq_true q220
                go_wp2
                repeat (go_quiet (fail); try go_wp2)
                go_roundg k3
                case measure => have := HK1.out; have := HK2.out; have := HK3.out; omega
                case rel => exact ⟨(x3_3), (wrap64 (x45_3 + 1)), lF, H', ⟨by have := HK1.out; have := HK2.out; have := HK3.out; omega⟩, ⟨lR HO_3.out⟩, ⟨lK BK209.out⟩, ⟨lB⟩⟩
              ·rw [if_neg c22] at H
               exact absurd H (by simp)
             ·rw [if_neg c21] at H
              exact absurd H (by simp)
            ·rw [if_neg c20] at H
             have c20b0 : decide (x45_3 < (((rd_T44 l0_0 (rd x3_2 x6_2)).f0).length : Int)) = false := decide_eq_false c20
             clear c20
             have H' := Aside0.mk H
             clear H
             go_wp2
             repeat (go_quiet (fail); try go_wp2)
             go_roundg k3
             case measure => have := HK1.out; have := HK2.out; have := HK3.out; omega
             case rel => exact ⟨(x3_3), (wrap64 (x6_2 + 1)), lF, H', ⟨by have := HK1.out; have := HK2.out; have := HK3.out; omega⟩, ⟨lR HO_3.out⟩, ⟨lK BK209.out⟩, ⟨lB⟩⟩
         ·rw [if_neg c17] at H
          exact absurd H (by simp)
        ·rw [if_neg c16] at H
         exact absurd H (by simp)
       ·rw [if_neg c15] at H
        exact absurd H (by simp)
      ·rw [if_neg c14] at H
       have c14b0 : decide (x6_2 < (x3_2.length : Int)) = false := decide_eq_false c14
       clear c14
       replace H := lO H
       obtain ⟨t215, A30, H⟩ := H
       obtain rfl := Option.some.inj H
       obtain ⟨Ao31, co31, eo31⟩ := Kd.R_slice HO_3.out
       subst eo31
       go_wp2_with (first | (go_at_call 47; (with_reducible refine (spec_l14Sorted.calls k2 _ _ x3_2 t215 _ ?side1 ?side2 A30.out).mono ?_); (case side1 => repeat (first | exact (Kd.R_reads' HO_3.out).2.2 | (with_reducible refine Kd.C_alloc ?_ _) | (with_reducible refine Kd.C_drewN ?_ _) | (with_reducible refine Kd.C_drew ?_))); (case side2 => exact (Kd.R_reads' HO_3.out).2.1); rintro e w32 ⟨v216, rfl, ho0, hb⟩; have n0_ := Aside0.mk (Kd.R_elder' (lR HO_3.out) (Kd.R_base ho0) hb); have n1_ := Aside0.mk (Kd.R_lower (Kd.R_new' ho0 (Kd.R_lt (lR HO_3.out))) (below_size lB)); have n2_ := Aside0.mk (blk_below (lK BK209.out) hb); have n3_ := Aside0.mk (below_step lB hb); clear HO_3; clear BK209; clear HB; have HO_3 := n0_; have HO217 := n1_; have BK209 := n2_; have HB := n3_; clear n0_ n1_ n2_ n3_; (try clear hb); (try clear hb2); (try clear hk); (try clear hi); (try clear ho0)))
       repeat (go_quiet (fail); try go_wp2_with (first | (go_at_call 47; (with_reducible refine (spec_l14Sorted.calls k2 _ _ x3_2 t215 _ ?side1 ?side2 A30.out).mono ?_); (case side1 => repeat (first | exact (Kd.R_reads' HO_3.out).2.2 | (with_reducible refine Kd.C_alloc ?_ _) | (with_reducible refine Kd.C_drewN ?_ _) | (with_reducible refine Kd.C_drew ?_))); (case side2 => exact (Kd.R_reads' HO_3.out).2.1); rintro e w32 ⟨v216, rfl, ho0, hb⟩; have n0_ := Aside0.mk (Kd.R_elder' (lR HO_3.out) (Kd.R_base ho0) hb); have n1_ := Aside0.mk (Kd.R_lower (Kd.R_new' ho0 (Kd.R_lt (lR HO_3.out))) (below_size lB)); have n2_ := Aside0.mk (blk_below (lK BK209.out) hb); have n3_ := Aside0.mk (below_step lB hb); clear HO_3; clear BK209; clear HB; have HO_3 := n0_; have HO217 := n1_; have BK209 := n2_; have HB := n3_; clear n0_ n1_ n2_ n3_; (try clear hb); (try clear hb2); (try clear hk); (try clear hi); (try clear ho0))))
       go_ret
       exact ⟨_, lE, by (with_reducible repeat (first | apply Kd.R_alloc | apply Kd.R_drewN | apply Kd.R_drew)); exact Kd.R_mono HO217.out (fun _ hk => trivial), lB⟩

/-! ### spec_LiveIn: function 21 -/
def spec_LiveIn.f (k : Nat) (l0_0 : List (S44)) (l0_1 : List Int) (a0_2 : Bool) : Option (List Int × Bool) := (spec_GoodMarker.f k l0_0 l0_1 a0_2).bind fun t226 => (if t226 = true then ((spec_l15Live.f k l0_0 l0_1 a0_2).bind fun t227 => (some (t227, true))) else (some (([] : List Int), false)))
theorem spec_LiveIn.mono : ∀ a0 a1 a2 k, LeO (spec_LiveIn.f k a0 a1 a2) (spec_LiveIn.f (k + 1) a0 a1 a2) := by
 intro a0 a1 a2 k
 unfold spec_LiveIn.f
 repeat' first
   | with_reducible apply spec_GoodMarker.mono
   | with_reducible apply spec_l15Live.mono
   | (with_reducible exact LeO.refl _)
   | (with_reducible exact LeO.none _)
   | (with_reducible refine LeO.ite ?_ ?_)
   | (with_reducible refine LeO.bind ?_ (fun _ => ?_))
   | apply spec_GoodMarker.mono
   | apply spec_l15Live.mono
   | exact LeO.none _
   | refine LeO.ite ?_ ?_
   | refine LeO.bind ?_ (fun _ => ?_)
set_option maxHeartbeats 8000000 in
set_option maxRecDepth 100000 in
theorem spec_LiveIn.calls (k : Nat) (A0_0 : Option Addr) (c0_0 : Nat) (l0_0 : List (S44)) (A0_1 : Option Addr) (c0_1 : Nat) (l0_1 : List Int) (a0_2 : Bool) (r1 : List Int) (r2 : Bool) (w : World) (hr0_0 : Kd.C k44 w A0_0 l0_0.length l0_0) (hc0_0 : l0_0.length ≤ c0_0) (hr0_1 : Kd.C (Kd.int .i64) w A0_1 l0_1.length l0_1) (hc0_1 : l0_1.length ≤ c0_1) (h : spec_LiveIn.f k l0_0 l0_1 a0_2 = some (r1, r2)) :
  Calls Try.prog 21 #[.agg #[.slice A0_0 l0_0.length c0_0, .slice A0_1 l0_1.length c0_1, .bool a0_2]] w fun e w' => ∃ v0_ : Value, e = .returned (.tuple #[v0_, .bool r2]) ∧ Kd.R (Kd.int .i64) 3 w' w.heap.size (fun _ => True) v0_ r1 ∧ Below w.heap.size w w' := by
 have hu25 := Try.underlying25
 have HR0_0 := Aside0.mk hr0_0
 have HC0_0 := Aside0.mk hc0_0
 clear hr0_0 hc0_0
 have HR0_1 := Aside0.mk hr0_1
 have HC0_1 := Aside0.mk hc0_1
 clear hr0_1 hc0_1
 have HB := Aside0.mk (Below.refl w.heap.size w)
 have H : ((spec_GoodMarker.f k l0_0 l0_1 a0_2).bind fun t226 => (if t226 = true then ((spec_l15Live.f k l0_0 l0_1 a0_2).bind fun t227 => (some (t227, true))) else (some (([] : List Int), false)))) = some (r1, r2) := h
 clear h
 replace H := lO H
 obtain ⟨t226, A2, H⟩ := H
 by_cases c3 : t226 = true
 ·subst c3
  rw [if_pos rfl] at H
  replace H := lO H
  obtain ⟨t227, A4, H⟩ := H
  simp only [Option.some.injEq, Prod.mk.injEq] at H
  obtain ⟨rfl, rfl⟩ := H
  go_enter Try.func21, Try.ntmps21
  go_wp2_with (first | ((with_reducible refine gate_dst (N := 1) rfl ?_); refine bxe 1 #[.slice A0_0 l0_0.length c0_0, .slice A0_1 l0_1.length c0_1, .bool a0_2] 25 ?_; intro gb225 hg w5 hbox hb; have n0_ := Aside0.mk (below_step lB hb); have n1_ := Aside0.mk (hbox); have n2_ := lG w hg; have n3_ := lG w hg; clear HB; have HB := n0_; have BK225 := n1_; have GW225 := n2_; have GE225 := n3_; clear n0_ n1_ n2_ n3_; clear hb hbox hg; obtain ⟨hcz6_0, hfz6_0, hcz6_1, hfz6_1, hcz6_2, hfz6_2⟩ := bk3 BK225.out) | ((with_reducible refine gate_callee (f := 13) rfl ?_); refine gl_ (some 5) (Try.func13) #[.agg #[.slice A0_0 l0_0.length c0_0, .slice A0_1 l0_1.length c0_1, .bool a0_2]] ?_; (with_reducible refine (spec_GoodMarker.calls k _ _ l0_0 _ _ l0_1 a0_2 true _ ?side1 ?side2 ?side3 ?side4 A2.out).mono ?_); (case side1 => exact lC (Kd.C_below HR0_0.out HB.out)); (case side2 => exact HC0_0.out); (case side3 => exact lC (Kd.C_below HR0_1.out HB.out)); (case side4 => exact HC0_1.out); rintro e w7 ⟨rfl, hb⟩; refine ⟨_, rfl, ?_⟩; have n0_ := Aside0.mk (blk_below (lK BK225.out) hb); have n1_ := Aside0.mk (below_step lB hb); clear BK225; clear HB; have BK225 := n0_; have HB := n1_; clear n0_ n1_; (try clear hb); (try clear hb2); (try clear hk); (try clear hi); obtain ⟨hcz8_0, hfz8_0, hcz8_1, hfz8_1, hcz8_2, hfz8_2⟩ := bk3 BK225.out) | ((with_reducible refine gate_callee (f := 38) rfl ?_); refine gl_ (some 8) (Try.func38) #[.agg #[.slice A0_0 l0_0.length c0_0, .slice A0_1 l0_1.length c0_1, .bool a0_2]] ?_; (with_reducible refine (spec_l15Live.calls k _ _ l0_0 _ _ l0_1 a0_2 t227 _ ?side1 ?side2 ?side3 ?side4 A4.out).mono ?_); (case side1 => exact lC (Kd.C_below HR0_0.out HB.out)); (case side2 => exact HC0_0.out); (case side3 => exact lC (Kd.C_below HR0_1.out HB.out)); (case side4 => exact HC0_1.out); rintro e w9 ⟨v228, rfl, ho0, hb⟩; refine ⟨_, rfl, ?_⟩; have n0_ := Aside0.mk (Kd.R_lower ho0 (below_size lB)); have n1_ := Aside0.mk (blk_below (lK BK225.out) hb); have n2_ := Aside0.mk (below_step lB hb); clear BK225; clear HB; have HO229 := n0_; have BK225 := n1_; have HB := n2_; clear n0_ n1_ n2_; (try clear hb); (try clear hb2); (try clear hk); (try clear hi); (try clear ho0)))
  go_ret2
  exact ⟨_, lE, lR HO229.out, lB⟩
 ·replace c3 := Bool.eq_false_iff.mpr c3
  subst c3
  rw [if_neg (show ¬ (false = true) by decide)] at H
  simp only [Option.some.injEq, Prod.mk.injEq] at H
  obtain ⟨rfl, rfl⟩ := H
  go_enter Try.func21, Try.ntmps21
  go_wp2_with (first | ((with_reducible refine gate_dst (N := 1) rfl ?_); refine bxe 1 #[.slice A0_0 l0_0.length c0_0, .slice A0_1 l0_1.length c0_1, .bool a0_2] 25 ?_; intro gb225 hg w10 hbox hb; have n0_ := Aside0.mk (below_step lB hb); have n1_ := Aside0.mk (hbox); have n2_ := lG w hg; have n3_ := lG w hg; clear HB; have HB := n0_; have BK225 := n1_; have GW225 := n2_; have GE225 := n3_; clear n0_ n1_ n2_ n3_; clear hb hbox hg; obtain ⟨hcz11_0, hfz11_0, hcz11_1, hfz11_1, hcz11_2, hfz11_2⟩ := bk3 BK225.out) | ((with_reducible refine gate_callee (f := 13) rfl ?_); refine gl_ (some 5) (Try.func13) #[.agg #[.slice A0_0 l0_0.length c0_0, .slice A0_1 l0_1.length c0_1, .bool a0_2]] ?_; (with_reducible refine (spec_GoodMarker.calls k _ _ l0_0 _ _ l0_1 a0_2 false _ ?side1 ?side2 ?side3 ?side4 A2.out).mono ?_); (case side1 => exact lC (Kd.C_below HR0_0.out HB.out)); (case side2 => exact HC0_0.out); (case side3 => exact lC (Kd.C_below HR0_1.out HB.out)); (case side4 => exact HC0_1.out); rintro e w12 ⟨rfl, hb⟩; refine ⟨_, rfl, ?_⟩; have n0_ := Aside0.mk (blk_below (lK BK225.out) hb); have n1_ := Aside0.mk (below_step lB hb); clear BK225; clear HB; have BK225 := n0_; have HB := n1_; clear n0_ n1_; (try clear hb); (try clear hb2); (try clear hk); (try clear hi)))
  go_ret2
  exact ⟨_, lE, by first | exact Kd.R_nil _ _ _ _ _ | exact Kd.N_nil _ _ _ _ _ | exact Kd.V_nil _ _ _ _ _ | exact Kd.Q_nil _ _ _ _ _ | exact Kd.S_nil _ _ _ _ _, lB⟩

/-! ### impl_in: function 24 -/
def impl_in.f (a0 : Int) (a1 : Int) (a2 : Int) : Option (Bool) := if a0 ≥ a1 then (some (decide (a0 ≤ a2))) else (some false)
set_option maxHeartbeats 8000000 in
set_option maxRecDepth 100000 in
theorem impl_in.calls (a0 : Int) (a1 : Int) (a2 : Int) (r : Bool) (w : World) (h : impl_in.f a0 a1 a2 = some r) :
  Calls Try.prog 24 #[.int .i64 a0, .int .i64 a1, .int .i64 a2] w fun e w' => e = .returned (.bool r) ∧ Drawn0 w w' := by
 have H : (if a0 ≥ a1 then (some (decide (a0 ≤ a2))) else (some false)) = some r := h
 clear h
 by_cases c4 : a0 ≥ a1
 ·rw [if_pos c4] at H
  have c4b0 : decide (a1 ≤ a0) = true := decide_eq_true c4
  clear c4
  obtain rfl := Option.some.inj H
  go_enter Try.func24, Try.ntmps24
  first | (go_wp2; go_ret; exact ⟨by first | rfl | (simp; done) | (simp [*]; done), by repeat (first | exact Drawn0.refl _ | apply Drawn0.step)⟩) | (exfalso; simp only [decide_eq_false_iff_not, decide_eq_true_eq] at *; omega)
 ·rw [if_neg c4] at H
  have c4b0 : decide (a1 ≤ a0) = false := decide_eq_false c4
  clear c4
  obtain rfl := Option.some.inj H
  go_enter Try.func24, Try.ntmps24
  first | (go_wp2; go_ret; exact ⟨by first | rfl | (simp; done) | (simp [*]; done), by repeat (first | exact Drawn0.refl _ | apply Drawn0.step)⟩) | (exfalso; simp only [decide_eq_false_iff_not, decide_eq_true_eq] at *; omega)

/-! ### impl_Marker_isTaken: function 43 -/
def impl_Marker_isTaken.f (l0_0 : List (S44)) (l0_1 : List Int) (a0_2 : Bool) (a1 : Int) : Option (Bool) := if a1 = (-1) then (some true) else ((impl_in.f a1 0 (wrap64 ((l0_0.length : Int) - 1))).bind fun t230 => (if t230 = true then (if 0 ≤ a1 then (if a1 < (l0_0.length : Int) then (some (!((rd_T44 l0_0 a1).f2))) else (none)) else (none)) else (some false)))
set_option maxHeartbeats 8000000 in
set_option maxRecDepth 100000 in
theorem impl_Marker_isTaken.calls (g0 : Nat) (A0_0 : Option Addr) (c0_0 : Nat) (l0_0 : List (S44)) (A0_1 : Option Addr) (c0_1 : Nat) (l0_1 : List Int) (a0_2 : Bool) (a1 : Int) (r : Bool) (w : World) (hb0 : w.heap[g0]? = some (.cells #[.slice A0_0 l0_0.length c0_0, .slice A0_1 l0_1.length c0_1, .bool a0_2] 25 (0, 0))) (hr0_0 : Kd.C k44 w A0_0 l0_0.length l0_0) (hc0_0 : l0_0.length ≤ c0_0) (hr0_1 : Kd.C (Kd.int .i64) w A0_1 l0_1.length l0_1) (hc0_1 : l0_1.length ≤ c0_1) (h : impl_Marker_isTaken.f l0_0 l0_1 a0_2 a1 = some r) :
  Calls Try.prog 43 #[.pointer (some ⟨g0, 0, none⟩), .int .i64 a1] w fun e w' => e = .returned (.bool r) ∧ Drawn0 w w' := by
 have HR0_0 := Aside0.mk hr0_0
 have HC0_0 := Aside0.mk hc0_0
 clear hr0_0 hc0_0
 have HR0_1 := Aside0.mk hr0_1
 have HC0_1 := Aside0.mk hc0_1
 clear hr0_1 hc0_1
 have BK0 := Aside0.mk hb0
 clear hb0
 have H : (if a1 = (-1) then (some true) else ((impl_in.f a1 0 (wrap64 ((l0_0.length : Int) - 1))).bind fun t230 => (if t230 = true then (if 0 ≤ a1 then (if a1 < (l0_0.length : Int) then (some (!((rd_T44 l0_0 a1).f2))) else (none)) else (none)) else (some false)))) = some r := h
 clear h
 by_cases c3 : a1 = (-1)
 ·rw [if_pos c3] at H
  have c3b0 : (a1 == (-1)) = true := beq_iff_eq.mpr c3
  have c3b1 : (a1 != (-1)) = false := bne_eq_false_iff_eq.mpr c3
  clear c3
  obtain rfl := Option.some.inj H
  go_enter Try.func43, Try.ntmps43
  first | (go_wp2; go_ret; exact ⟨by first | rfl | (simp; done) | (simp [*]; done), by repeat (first | exact Drawn0.refl _ | apply Drawn0.step)⟩) | (exfalso; simp only [decide_eq_false_iff_not, decide_eq_true_eq] at *; omega)
 ·rw [if_neg c3] at H
  have c3b0 : (a1 == (-1)) = false := beq_eq_false_iff_ne.mpr c3
  have c3b1 : (a1 != (-1)) = true := bne_iff_ne.mpr c3
  replace H := lO H
  obtain ⟨t230, A4, H⟩ := H
  by_cases c5 : t230 = true
  ·subst c5
   rw [if_pos rfl] at H
   by_cases c6 : 0 ≤ a1
   ·rw [if_pos c6] at H
    have c6b0 : decide (0 ≤ a1) = true := decide_eq_true c6
    clear c6
    by_cases c7 : a1 < (l0_0.length : Int)
    ·rw [if_pos c7] at H
     have c7b0 : decide (a1 < (l0_0.length : Int)) = true := decide_eq_true c7
     clear c7
     obtain rfl := Option.some.inj H
     obtain ⟨hcz8_0, hfz8_0, hcz8_1, hfz8_1, hcz8_2, hfz8_2⟩ := bk3 BK0.out
     go_enter Try.func43, Try.ntmps43
     go_wp2_with (first | (go_at_call 24; (with_reducible refine (impl_in.calls a1 0 (wrap64 ((l0_0.length : Int) - 1)) true _ A4.out).mono ?_); rintro e w' ⟨rfl, ⟨nd, rfl⟩⟩; have p231 : 0 ≤ (a1 : Int) := lD; have q231 : a1 < (l0_0.length : Int) := lD; obtain ⟨ad231, A231_0, c231_0, e231, hx231_0, hx231_1, hx231_2, hl231_0, hi231_0⟩ := at_T44 HR0_0.out a1 p231 q231; cases e231; have HR231_0 := Aside0.mk hi231_0; have HC231_0 := Aside0.mk hl231_0; clear hi231_0 hl231_0; replace p231 := eq_true p231; replace q231 := eq_true q231))
     go_ret
     exact ⟨by first | rfl | (simp; done) | (simp [*]; done), by repeat (first | exact Drawn0.refl _ | apply Drawn0.step)⟩
    ·rw [if_neg c7] at H
     exact absurd H (by simp)
   ·rw [if_neg c6] at H
    exact absurd H (by simp)
  ·replace c5 := Bool.eq_false_iff.mpr c5
   subst c5
   rw [if_neg (show ¬ (false = true) by decide)] at H
   obtain rfl := Option.some.inj H
   obtain ⟨hcz9_0, hfz9_0, hcz9_1, hfz9_1, hcz9_2, hfz9_2⟩ := bk3 BK0.out
   go_enter Try.func43, Try.ntmps43
   go_wp2_with (first | (go_at_call 24; (with_reducible refine (impl_in.calls a1 0 (wrap64 ((l0_0.length : Int) - 1)) false _ A4.out).mono ?_); rintro e w' ⟨rfl, ⟨nd, rfl⟩⟩))
   go_ret
   exact ⟨by first | rfl | (simp; done) | (simp [*]; done), by repeat (first | exact Drawn0.refl _ | apply Drawn0.step)⟩

/-! ### impl_isMarker_1: function 45 -/
def impl_isMarker_1.f (a0 : Int) (l1_0 : List (S44)) (l1_1 : List Int) (a1_2 : Bool) : Option (Bool) := (impl_Marker_isTaken.f l1_0 l1_1 a1_2 a0).bind fun t232 => (if t232 = true then (if a1_2 = true then (if a0 ≥ 0 then (if 0 ≤ a0 then (if a0 < (l1_0.length : Int) then (some (((rd_T44 l1_0 a0).f1) == 0)) else (none)) else (none)) else (some false)) else (some false)) else (some true))
set_option maxHeartbeats 8000000 in
set_option maxRecDepth 100000 in
theorem impl_isMarker_1.calls (a0 : Int) (g1 : Nat) (A1_0 : Option Addr) (c1_0 : Nat) (l1_0 : List (S44)) (A1_1 : Option Addr) (c1_1 : Nat) (l1_1 : List Int) (a1_2 : Bool) (r : Bool) (w : World) (hb1 : w.heap[g1]? = some (.cells #[.slice A1_0 l1_0.length c1_0, .slice A1_1 l1_1.length c1_1, .bool a1_2] 25 (0, 0))) (hr1_0 : Kd.C k44 w A1_0 l1_0.length l1_0) (hc1_0 : l1_0.length ≤ c1_0) (hr1_1 : Kd.C (Kd.int .i64) w A1_1 l1_1.length l1_1) (hc1_1 : l1_1.length ≤ c1_1) (h : impl_isMarker_1.f a0 l1_0 l1_1 a1_2 = some r) :
  Calls Try.prog 45 #[.int .i64 a0, .pointer (some ⟨g1, 0, none⟩)] w fun e w' => e = .returned (.bool r) ∧ Drawn0 w w' := by
 have HR1_0 := Aside0.mk hr1_0
 have HC1_0 := Aside0.mk hc1_0
 clear hr1_0 hc1_0
 have HR1_1 := Aside0.mk hr1_1
 have HC1_1 := Aside0.mk hc1_1
 clear hr1_1 hc1_1
 have BK1 := Aside0.mk hb1
 clear hb1
 have H : ((impl_Marker_isTaken.f l1_0 l1_1 a1_2 a0).bind fun t232 => (if t232 = true then (if a1_2 = true then (if a0 ≥ 0 then (if 0 ≤ a0 then (if a0 < (l1_0.length : Int) then (some (((rd_T44 l1_0 a0).f1) == 0)) else (none)) else (none)) else (some false)) else (some false)) else (some true))) = some r := h
 clear h
 replace H := lO H
 obtain ⟨t232, A3, H⟩ := H
 by_cases c4 : t232 = true
 ·subst c4
  rw [if_pos rfl] at H
  by_cases c5 : a1_2 = true
  ·subst c5
   rw [if_pos rfl] at H
   by_cases c6 : a0 ≥ 0
   ·rw [if_pos c6] at H
    have c6b0 : decide (0 ≤ a0) = true := decide_eq_true c6
    clear c6
    by_cases c7 : 0 ≤ a0
    ·rw [if_pos c7] at H
     have c7b0 : decide (0 ≤ a0) = true := decide_eq_true c7
     clear c7
     by_cases c8 : a0 < (l1_0.length : Int)
     ·rw [if_pos c8] at H
      have c8b0 : decide (a0 < (l1_0.length : Int)) = true := decide_eq_true c8
      clear c8
      obtain rfl := Option.some.inj H
      go_enter Try.func45, Try.ntmps45
      go_wp2_with (first | (go_at_call 43; (with_reducible refine (impl_Marker_isTaken.calls g1 A1_0 c1_0 l1_0 A1_1 c1_1 l1_1 true a0 true _ ?side1 ?side2 ?side3 ?side4 ?side5 A3.out).mono ?_); (case side1 => exact (lK BK1.out)); (case side2 => repeat (first | exact HR1_0.out | (with_reducible refine Kd.C_alloc ?_ _) | (with_reducible refine Kd.C_drewN ?_ _) | (with_reducible refine Kd.C_drew ?_))); (case side3 => exact HC1_0.out); (case side4 => repeat (first | exact HR1_1.out | (with_reducible refine Kd.C_alloc ?_ _) | (with_reducible refine Kd.C_drewN ?_ _) | (with_reducible refine Kd.C_drew ?_))); (case side5 => exact HC1_1.out); rintro e w' ⟨rfl, ⟨nd, rfl⟩⟩; obtain ⟨hcz9_0, hfz9_0, hcz9_1, hfz9_1, hcz9_2, hfz9_2⟩ := bk3 BK1.out; have p233 : 0 ≤ (a0 : Int) := lD; have q233 : a0 < (l1_0.length : Int) := lD; obtain ⟨ad233, A233_0, c233_0, e233, hx233_0, hx233_1, hx233_2, hl233_0, hi233_0⟩ := at_T44 HR1_0.out a0 p233 q233; cases e233; have HR233_0 := Aside0.mk hi233_0; have HC233_0 := Aside0.mk hl233_0; clear hi233_0 hl233_0; replace p233 := eq_true p233; replace q233 := eq_true q233))
      go_ret
      exact ⟨by first | rfl | (simp; done) | (simp [*]; done), by repeat (first | exact Drawn0.refl _ | apply Drawn0.step)⟩
     ·rw [if_neg c8] at H
      exact absurd H (by simp)
    ·rw [if_neg c7] at H
     exact absurd H (by simp)
   ·rw [if_neg c6] at H
    have c6b0 : decide (0 ≤ a0) = false := decide_eq_false c6
    clear c6
    obtain rfl := Option.some.inj H
    go_enter Try.func45, Try.ntmps45
    go_wp2_with (first | (go_at_call 43; (with_reducible refine (impl_Marker_isTaken.calls g1 A1_0 c1_0 l1_0 A1_1 c1_1 l1_1 true a0 true _ ?side1 ?side2 ?side3 ?side4 ?side5 A3.out).mono ?_); (case side1 => exact (lK BK1.out)); (case side2 => repeat (first | exact HR1_0.out | (with_reducible refine Kd.C_alloc ?_ _) | (with_reducible refine Kd.C_drewN ?_ _) | (with_reducible refine Kd.C_drew ?_))); (case side3 => exact HC1_0.out); (case side4 => repeat (first | exact HR1_1.out | (with_reducible refine Kd.C_alloc ?_ _) | (with_reducible refine Kd.C_drewN ?_ _) | (with_reducible refine Kd.C_drew ?_))); (case side5 => exact HC1_1.out); rintro e w' ⟨rfl, ⟨nd, rfl⟩⟩; obtain ⟨hcz10_0, hfz10_0, hcz10_1, hfz10_1, hcz10_2, hfz10_2⟩ := bk3 BK1.out))
    go_ret
    exact ⟨by first | rfl | (simp; done) | (simp [*]; done), by repeat (first | exact Drawn0.refl _ | apply Drawn0.step)⟩
  ·replace c5 := Bool.eq_false_iff.mpr c5
   subst c5
   rw [if_neg (show ¬ (false = true) by decide)] at H
   obtain rfl := Option.some.inj H
   go_enter Try.func45, Try.ntmps45
   go_wp2_with (first | (go_at_call 43; (with_reducible refine (impl_Marker_isTaken.calls g1 A1_0 c1_0 l1_0 A1_1 c1_1 l1_1 false a0 true _ ?side1 ?side2 ?side3 ?side4 ?side5 A3.out).mono ?_); (case side1 => exact (lK BK1.out)); (case side2 => repeat (first | exact HR1_0.out | (with_reducible refine Kd.C_alloc ?_ _) | (with_reducible refine Kd.C_drewN ?_ _) | (with_reducible refine Kd.C_drew ?_))); (case side3 => exact HC1_0.out); (case side4 => repeat (first | exact HR1_1.out | (with_reducible refine Kd.C_alloc ?_ _) | (with_reducible refine Kd.C_drewN ?_ _) | (with_reducible refine Kd.C_drew ?_))); (case side5 => exact HC1_1.out); rintro e w' ⟨rfl, ⟨nd, rfl⟩⟩; obtain ⟨hcz11_0, hfz11_0, hcz11_1, hfz11_1, hcz11_2, hfz11_2⟩ := bk3 BK1.out))
   go_ret
   exact ⟨by first | rfl | (simp; done) | (simp [*]; done), by repeat (first | exact Drawn0.refl _ | apply Drawn0.step)⟩
 ·replace c4 := Bool.eq_false_iff.mpr c4
  subst c4
  rw [if_neg (show ¬ (false = true) by decide)] at H
  obtain rfl := Option.some.inj H
  go_enter Try.func45, Try.ntmps45
  go_wp2_with (first | (go_at_call 43; (with_reducible refine (impl_Marker_isTaken.calls g1 A1_0 c1_0 l1_0 A1_1 c1_1 l1_1 a1_2 a0 false _ ?side1 ?side2 ?side3 ?side4 ?side5 A3.out).mono ?_); (case side1 => exact (lK BK1.out)); (case side2 => repeat (first | exact HR1_0.out | (with_reducible refine Kd.C_alloc ?_ _) | (with_reducible refine Kd.C_drewN ?_ _) | (with_reducible refine Kd.C_drew ?_))); (case side3 => exact HC1_0.out); (case side4 => repeat (first | exact HR1_1.out | (with_reducible refine Kd.C_alloc ?_ _) | (with_reducible refine Kd.C_drewN ?_ _) | (with_reducible refine Kd.C_drew ?_))); (case side5 => exact HC1_1.out); rintro e w' ⟨rfl, ⟨nd, rfl⟩⟩))
  go_ret
  exact ⟨by first | rfl | (simp; done) | (simp [*]; done), by repeat (first | exact Drawn0.refl _ | apply Drawn0.step)⟩

/-! ### slices_IndexFunc_int_int: function 50 -/
-- slices.IndexFunc, whatever is asked
set_option maxHeartbeats 800000 in
set_option maxRecDepth 100000 in
theorem idx50_ (g : Nat) (caps : Array Value) (eg : ∀ args w, (callFunc g args).run Try.prog w = .ok (.enter g args) w) (p : Int → Option Bool) (A0 : Option Addr) (c0 : Nat) (l0 : List Int) (w : World) (hr0 : Kd.C (Kd.int .i64) w A0 l0.length l0)
    (hp : ∀ (W : World) (x : Int) (b : Bool), Below w.heap.size w W → p x = some b → Calls Try.prog g (#[.int .i64 x] ++ caps) W fun e w' => e = .returned (.bool b) ∧ Below W.heap.size W w') (r : Int) (h : Kit.idxO p l0 0 = some r) :
    Calls Try.prog 50 #[.slice A0 l0.length c0, .func (.func g) #[] caps] w fun e w' => e = .returned (.int .i64 r) ∧ Below w.heap.size w w' := by
  have HR := Aside0.mk hr0
  have HP := Aside0.mk hp
  have HH := Aside0.mk h
  have hbig := hr0.2.1
  clear hr0 hp h
  go_enter Try.func50, Try.ntmps50
  go_wp2
  go_loopg [5, 8] l0.length (fun gg _ s8 wr => ∃ kk : Nat, kk ≤ l0.length ∧ l0.length - kk ≤ gg ∧ s8 = .int .i64 kk ∧ Aside0 (Below w.heap.size w wr) ∧ Aside0 (Kit.idxO p (l0.drop kk) kk = some r))
  case atStart => exact ⟨0, Nat.zero_le _, by omega, rfl, ⟨Below.refl _ _⟩, ⟨by simpa using HH.out⟩⟩
  case round =>
    obtain ⟨kk, hkk, hg, rfl, HB, HI⟩ := hrel
    by_cases hlt : kk < l0.length
    · have hltz : (kk : Int) < (l0.length : Int) := by omega
      have hd0 : decide (kk < l0.length) = true := decide_eq_true hlt
      obtain ⟨ad, e_, hx0⟩ := Kd.at_int HR.out (kk : Int) (by omega) (by omega)
      cases e_
      replace hx0 := pw_cell_below HB.out hx0
      simp only [Int.toNat_natCast] at hx0
      have hd : l0.drop kk = rd l0 (kk : Int) :: l0.drop (kk + 1) := by
        rw [List.drop_eq_getElem_cons hlt]; simp [rd, List.getD, hlt]
      generalize rd l0 (kk : Int) = y at hd hx0
      have HI' := HI.out
      rw [hd] at HI'
      simp only [Kit.idxO] at HI'
      obtain ⟨b, hb, hI⟩ := Option.bind_eq_some_iff.1 HI'
      have hcall := HP.out wr y b HB.out hb
      have HIb := Aside0.mk hI
      clear hI HI' hb hd HI
      cases b with
      | true =>
        go_wp2_with fail
        refine hcall.mono ?_
        rintro e w2 ⟨rfl, hb2⟩
        clear hcall
        go_wp2_with fail
        go_ret
        have hI := HIb.out
        simp only [if_true, Option.some.injEq] at hI
        exact ⟨by subst hI; rfl, HB.out.trans (hb2.mono HB.out.size)⟩
      | false =>
        go_wp2_with fail
        refine hcall.mono ?_
        rintro e w2 ⟨rfl, hb2⟩
        clear hcall
        go_wp2_with fail
        go_roundg (l0.length - (kk + 1))
        case measure => omega
        case rel => exact ⟨kk + 1, by omega, by omega, by go_num, ⟨HB.out.trans (hb2.mono HB.out.size)⟩, ⟨by simpa using HIb.out⟩⟩
    · have hltz : ¬ (kk : Int) < (l0.length : Int) := by omega
      have hd0 : decide (kk < l0.length) = false := decide_eq_false hlt
      have hkl : kk = l0.length := by omega
      have hI := HI.out
      rw [hkl, List.drop_length] at hI
      simp [Kit.idxO] at hI
      clear HI hkl
      have HR2 := Aside0.mk hI
      clear hI
      go_wp2
      go_ret
      exact ⟨by have e_ := HR2.out; subst e_; rfl, HB.out⟩
def slices_IndexFunc_int_int_45.f (l0 : List Int) (l1_0 : List (S44)) (l1_1 : List Int) (a1_2 : Bool) : Option (Int) := Kit.idxO (fun x : Int => impl_isMarker_1.f x l1_0 l1_1 a1_2) l0 0
theorem slices_IndexFunc_int_int_45.calls (A0 : Option Addr) (c0 : Nat) (l0 : List Int) (g1 : Nat) (A1_0 : Option Addr) (c1_0 : Nat) (l1_0 : List (S44)) (A1_1 : Option Addr) (c1_1 : Nat) (l1_1 : List Int) (a1_2 : Bool) (r : Int) (w : World) (hr0 : Kd.C (Kd.int .i64) w A0 l0.length l0) (hc0 : l0.length ≤ c0) (hb1 : w.heap[g1]? = some (.cells #[.slice A1_0 l1_0.length c1_0, .slice A1_1 l1_1.length c1_1, .bool a1_2] 25 (0, 0))) (hr1_0 : Kd.C k44 w A1_0 l1_0.length l1_0) (hc1_0 : l1_0.length ≤ c1_0) (hr1_1 : Kd.C (Kd.int .i64) w A1_1 l1_1.length l1_1) (hc1_1 : l1_1.length ≤ c1_1) (h : slices_IndexFunc_int_int_45.f l0 l1_0 l1_1 a1_2 = some r) :
    Calls Try.prog 50 #[.slice A0 l0.length c0, .func (.func 45) #[] #[.pointer (some ⟨g1, 0, none⟩)]] w fun e w' => e = .returned (.int .i64 r) ∧ Below w.heap.size w w' :=
  idx50_ 45 #[.pointer (some ⟨g1, 0, none⟩)] (enters_of Try.func45 (by kernel_rfl) rfl) (fun x : Int => impl_isMarker_1.f x l1_0 l1_1 a1_2) A0 c0 l0 w hr0 (fun W x b hW hx => (impl_isMarker_1.calls x g1 A1_0 c1_0 l1_0 A1_1 c1_1 l1_1 a1_2 b W  (blk_below hb1 hW) (Kd.C_below hr1_0 hW) hc1_0 (Kd.C_below hr1_1 hW) hc1_1 hx).mono fun e w' ⟨he, hd⟩ => ⟨he, hd.below⟩) r h

/-! ### slices_ContainsFunc_int_int: function 44 -/
-- slices.ContainsFunc, whatever is asked
set_option maxHeartbeats 800000 in
set_option maxRecDepth 100000 in
theorem cnt44_ (g : Nat) (caps : Array Value) (eg : ∀ args w, (callFunc g args).run Try.prog w = .ok (.enter g args) w) (p : Int → Option Bool) (A0 : Option Addr) (c0 : Nat) (l0 : List Int) (w : World) (hr0 : Kd.C (Kd.int .i64) w A0 l0.length l0)
    (hp : ∀ (W : World) (x : Int) (b : Bool), Below w.heap.size w W → p x = some b → Calls Try.prog g (#[.int .i64 x] ++ caps) W fun e w' => e = .returned (.bool b) ∧ Below W.heap.size W w') (r : Bool) (h : Kit.anyO p l0 = some r) :
    Calls Try.prog 44 #[.slice A0 l0.length c0, .func (.func g) #[] caps] w fun e w' => e = .returned (.bool r) ∧ Below w.heap.size w w' := by
  obtain ⟨i, hi, hri⟩ := Kit.idxO_any p l0 0 r h
  have hcall := idx50_ g caps eg p A0 c0 l0 w hr0 hp i hi
  have HI := Aside0.mk hri
  clear hri hi h hp hr0
  go_enter Try.func44, Try.ntmps44
  go_wp2_with fail
  refine hcall.mono ?_
  rintro e w2 ⟨rfl, hb2⟩
  clear hcall
  go_wp2
  go_ret
  exact ⟨by rw [HI.out]; rfl, hb2⟩
def slices_ContainsFunc_int_int.f (l0 : List Int) (a1 : Nat) : Option (Bool) := none
theorem slices_ContainsFunc_int_int.calls (A0 : Option Addr) (c0 : Nat) (l0 : List Int) (a1 : Nat) (r : Bool) (w : World) (hr0 : Kd.C (Kd.int .i64) w A0 l0.length l0) (hc0 : l0.length ≤ c0) (h : slices_ContainsFunc_int_int.f l0 a1 = some r) :
    Calls Try.prog 44 #[.slice A0 l0.length c0, .func (.func a1) #[] #[]] w fun e w' => e = .returned (.bool r) ∧ Below w.heap.size w w' := by
  unfold slices_ContainsFunc_int_int.f at h
  exact absurd h (by simp)
def slices_ContainsFunc_int_int_45.f (l0 : List Int) (l1_0 : List (S44)) (l1_1 : List Int) (a1_2 : Bool) : Option (Bool) := Kit.anyO (fun x : Int => impl_isMarker_1.f x l1_0 l1_1 a1_2) l0
theorem slices_ContainsFunc_int_int_45.calls (A0 : Option Addr) (c0 : Nat) (l0 : List Int) (g1 : Nat) (A1_0 : Option Addr) (c1_0 : Nat) (l1_0 : List (S44)) (A1_1 : Option Addr) (c1_1 : Nat) (l1_1 : List Int) (a1_2 : Bool) (r : Bool) (w : World) (hr0 : Kd.C (Kd.int .i64) w A0 l0.length l0) (hc0 : l0.length ≤ c0) (hb1 : w.heap[g1]? = some (.cells #[.slice A1_0 l1_0.length c1_0, .slice A1_1 l1_1.length c1_1, .bool a1_2] 25 (0, 0))) (hr1_0 : Kd.C k44 w A1_0 l1_0.length l1_0) (hc1_0 : l1_0.length ≤ c1_0) (hr1_1 : Kd.C (Kd.int .i64) w A1_1 l1_1.length l1_1) (hc1_1 : l1_1.length ≤ c1_1) (h : slices_ContainsFunc_int_int_45.f l0 l1_0 l1_1 a1_2 = some r) :
    Calls Try.prog 44 #[.slice A0 l0.length c0, .func (.func 45) #[] #[.pointer (some ⟨g1, 0, none⟩)]] w fun e w' => e = .returned (.bool r) ∧ Below w.heap.size w w' :=
  cnt44_ 45 #[.pointer (some ⟨g1, 0, none⟩)] (enters_of Try.func45 (by kernel_rfl) rfl) (fun x : Int => impl_isMarker_1.f x l1_0 l1_1 a1_2) A0 c0 l0 w hr0 (fun W x b hW hx => (impl_isMarker_1.calls x g1 A1_0 c1_0 l1_0 A1_1 c1_1 l1_1 a1_2 b W  (blk_below hb1 hW) (Kd.C_below hr1_0 hW) hc1_0 (Kd.C_below hr1_1 hW) hc1_1 hx).mono fun e w' ⟨he, hd⟩ => ⟨he, hd.below⟩) r h

end Go.Proofs.Ytmgnnegmohmbhaa.Q
